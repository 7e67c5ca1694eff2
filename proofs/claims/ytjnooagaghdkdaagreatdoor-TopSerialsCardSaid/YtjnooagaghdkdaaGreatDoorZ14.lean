/-L-/
import Derived.Deep.CutBlock
import Derived.Maps.OwnOps
import Derived.Maps.OwnSet
import Derived.Maps.Views
import Derived.StringKeys
import Derived.Test.YtjnooagaghdkdaaGreatDoorZ4
import Derived.Test.YtjnooagaghdkdaaGreatDoorZ5
import Derived.Test.YtjnooagaghdkdaaGreatDoorZ9
set_option maxHeartbeats 10000000
set_option maxRecDepth 100000
set_option linter.all false
namespace Go.Proofs.YtjnooagaghdkdaaGreatDoor
section
open Go.RowKit
/-! numbers in order, searched by halves -/
def ltI (l:List Int) (s:Int) (k:Nat):Bool:=match l[k]? with | some x=>decide (x<s) | none=>false
def posI (l:List Int) (s:Int):Nat:=bsr (ltI l s) 0 l.length
def isI (l:List Int) (s:Int):Bool:=decide (l[posI l s]?=some s)
theorem Jhm {l:List Int} {k:Nat} {x:Int} (h:l[k]?=some x) (s:Int):ltI l s k=decide (x<s):=by unfold ltI; rw [h]
theorem isI_in {l:List Int} {s:Int} {k:Nat} {x:Int} (hp:posI l s=k) (h:l[k]?=some x):isI l s=decide (x=s):=by
 unfold isI;rw [hp,h];simp
theorem isI_out {l:List Int} {s:Int} {k:Nat} (hp:posI l s=k) (h:¬ k<l.length):isI l s=false:=by
 unfold isI;rw [hp,zM0 qH1];simp
theorem JnS (l:List Int) (s:Int):posI l s<=l.length:=JlU _ _
theorem posK_le' (l:List ByteArray) (s:ByteArray):posK l s<=l.length:=JlU _ _
/-! the tree -/
structure Tr where
 zxid:Int
 nodes:List Node
 sess:List Int
abbrev Jgr:Node:=⟨⟨#[]⟩,⟨#[]⟩,0,0,0,0,0,0,0⟩
abbrev rootN:Node:=⟨⟨#[47]⟩,⟨#[]⟩,0,0,0,0,0,0,0⟩
def posN (l:List Node) (p:ByteArray):Nat:=posK (l.map Node.path) p
def hasN (l:List Node) (p:ByteArray):Bool:=isK (l.map Node.path) p
def getN (l:List Node) (p:ByteArray):Node:=if hasN l p then l.getD (posN l p) Jgr else Jgr
def getE (l:List Node) (p:ByteArray):Int:=if hasN l p then 0 else 7
def kidB (p:ByteArray) (n:Node):Bool:=decide ((Jac n.path).2.2=0) && decide ((Jac n.path).1=p)
def bump (n:Node) (more z:Int):Node:={ n with kids:=n.kids+more,cversion:=n.cversion+1,pzxid:=z }
def kidN (l:List Node) (d:ByteArray) (more z:Int):List Node:=if hasN l d then l.set (posN l d) (bump (l.getD (posN l d) Jgr) more z) else l
abbrev JaH (p:ByteArray):ByteArray:=(Jac p).1
def insN (l:List Node) (x:Node):List Node:=l.take (posN l x.path) ++ x :: l.drop (posN l x.path)
def delN (l:List Node) (p:ByteArray):List Node:=l.take (posN l p) ++ l.drop (posN l p+1)
def Jbo (x:Txn):Node:=⟨x.path,x.data,x.zxid,x.zxid,x.zxid,0,0,x.owner,0⟩
def Jgt (l:List Node) (x:Txn):List Node:=kidN (insN l (Jbo x)) (JaH x.path) 1 x.zxid
def JcS (l:List Node) (p:ByteArray) (z:Int):List Node:=kidN (delN l p) (JaH p) (-1) z
def setN (l:List Node) (x:Txn):List Node:=l.set (posN l x.path) { l.getD (posN l x.path) Jgr with data:=x.data,version:=x.version,mzxid:=x.zxid }
def Jn9 (p:ByteArray):List Event:=[⟨1,p⟩,⟨4,JaH p⟩]
def JgI (p:ByteArray):List Event:=[⟨2,p⟩,⟨4,JaH p⟩]
def JaJ (l:List Node) (s:Int):List ByteArray:=(l.filter (fun n=>decide (n.owner=s))).map Node.path
def JfB (l:List Node) (s z:Int):List Node:=(JaJ l s).foldl (fun l p=>JcS l p z) l
def Jo4 (l:List Node) (s:Int):List Event:=(JaJ l s).flatMap JgI
/-! is it good -/
def okS (l:List Int) (i:Nat):Bool:=match l[i]? with
 | none=>true
 | some s=>decide (1<=s) && (decide (s<=2147483647) && (match i with | 0=>true | j+1=>match l[j]? with | some y=>decide (y<s) | none=>true))
def Jnz (z:Int) (n:Node):Bool:=decide (0<=n.version/\n.version<=2147483647/\0<=n.cversion/\n.cversion<=2147483647/\0<=n.czxid/\n.czxid<=n.mzxid/\n.czxid<=n.pzxid/\n.mzxid<=z/\n.pzxid<=z)
def ownB (ss:List Int) (n:Node):Bool:=decide (n.owner=0) || (isI ss n.owner && decide (n.kids=0))
def upB (l:List Node) (n:Node):Bool:=decide ((Jac n.path).2.2≠0) || hasN l (JaH n.path)
def Jmp (l:List Node) (i:Nat) (n:Node):Bool:=match i with | 0=>true | j+1=>match l[j]? with | some y=>decide (cmpB y.path n.path<0) | none=>true
def okN (t:Tr) (i:Nat):Bool:=match t.nodes[i]? with
 | none=>true
 | some n=>Jaw n.path && (decide (n.data.size<=256) && (Jmp t.nodes i n && (Jnz t.zxid n && (ownB t.sess n && upB t.nodes n))))
def JfG (t:Tr):Bool:=decide (t.nodes.length<=400) && (decide (0<=t.zxid/\t.zxid<4611686018427387904) && (match t.nodes with | []=>false | n :: _=>decide (n.path=slash) && decide (n.owner=0)))
def Jan (t:Tr):Bool:=JfG t && ((List.range t.sess.length).all (okS t.sess) && ((List.range t.nodes.length).all (okN t) && t.nodes.all (fun n=>decide (n.kids=((t.nodes.countP (kidB n.path):Nat):Int)))))
/-! a transaction -/
def Jfy (t:Tr) (x:Txn):Int:=if hasN t.nodes x.path then 8 else if hasN t.nodes (JaH x.path) then (if (getN t.nodes (JaH x.path)).owner≠0 then 11 else if x.owner≠0/\x.owner≠x.session then 12 else if 400<=t.nodes.length then 6 else 0) else 7
def JbA (t:Tr) (x:Txn):Int:=
 if Jan t=false then 3
 else if Jat x≠0 then Jat x
 else if x.zxid<=t.zxid then 13
 else if x.op=1 then (if isI t.sess x.session then 8 else 0)
 else if isI t.sess x.session=false then 12
 else if x.op=3 then Jfy t x
 else if x.op=4 then (if hasN t.nodes x.path then (if 0<(getN t.nodes x.path).kids then 10 else 0) else 7)
 else if x.op=5 then (if hasN t.nodes x.path then (if x.version≠(getN t.nodes x.path).version+1 then 9 else 0) else 7)
 else 0
def insS (l:List Int) (s:Int):List Int:=l.take (posI l s) ++ s :: l.drop (posI l s)
def delS (l:List Int) (s:Int):List Int:=l.take (posI l s) ++ l.drop (posI l s+1)
def doN (t:Tr) (x:Txn):List Node:=if x.op=2 then JfB t.nodes x.session x.zxid else if x.op=3 then Jgt t.nodes x else if x.op=4 then JcS t.nodes x.path x.zxid else if x.op=5 then setN t.nodes x else t.nodes
def doS (t:Tr) (x:Txn):List Int:=if x.op=1 then insS t.sess x.session else if x.op=2 then delS t.sess x.session else t.sess
def doV (t:Tr) (x:Txn):List Event:=if x.op=2 then Jo4 t.nodes x.session else if x.op=3 then Jn9 x.path else if x.op=4 then JgI x.path else if x.op=5 then [⟨3,x.path⟩] else []
def JbD (l:List Node):Bool:=l.any (fun n=>decide (2147483647<n.cversion))
def Jaz (t:Tr) (x:Txn):Int:=if JbA t x=0 then (if JbD (doN t x) then 6 else 0) else JbA t x
def noTr:Tr:=⟨0,[],[]⟩
def JaO (t:Tr) (x:Txn):Tr:=if Jaz t x=0 then ⟨x.zxid,doN t x,doS t x⟩ else noTr
def Jcg (t:Tr) (x:Txn):List Event:=if Jaz t x=0 then doV t x else []
abbrev newTr:Tr:=⟨0,[rootN],[]⟩
end
section
open Go.RowKit Go.ChangeShapes Go.WideShapes Go.ChangeAt
def SlA {α:Type} (p:Nat->Prop) (f:α->List Value) (s:Nat) (w:World) (v:Value) (l:List α):Prop:=Sl f s w v l/\(l=[]\/∀ q,p q->v.ownBlock≠some q)
structure Swap (p:Nat->Prop) (w w':World):Prop where
 size:w'.heap.size=w.heap.size
 block:∀ k,¬ p k->w'.heap[k]?=w.heap[k]?
theorem Swap.refl (p:Nat->Prop) (w:World):Swap p w w:=⟨rfl,fun _ _=>rfl⟩
theorem Swap.new {p:Nat->Prop} {w w':World} (h:Swap p w w') (o o':Obj) (hp:p w.heap.size):Swap p (w.alloc o) (w'.alloc o'):=by
 refine ⟨by simp [h.size],fun k hk=>?_⟩
 have hne:k≠w.heap.size:=fun e=>hk (e▸hp)
 rcases zD1 k w.heap.size with hlt | hge
 ·rw [heap_alloc_old _ _ hlt,heap_alloc_old _ _ (by rw [h.size]; exact hlt),h.block k hk]
 ·have hz:=h.size
  rw [zL3 qB1,zL3 qB1]
theorem Swap.alloc {p:Nat->Prop} {w w':World} (h:Swap p w w') (o:Obj):Swap p (w.alloc o) (w'.alloc o):=by
 refine ⟨by simp [h.size],fun k hk=>?_⟩
 rcases zO4 k w.heap.size with hlt | rfl | hgt
 ·rw [heap_alloc_old _ _ hlt,heap_alloc_old _ _ (by rw [h.size]; exact hlt),h.block k hk]
 ·rw [heap_alloc_new,<-h.size,heap_alloc_new]
 ·have hz:=h.size
  rw [zL3 qB1,zL3 qB1]
theorem Swap.grow {p:Nat->Prop} {w w':World} (h:Swap p w w') (e:Array Obj) (d d':Nat):Swap p (grow w e d) (Go.Proofs.YtjnooagaghdkdaaGreatDoor.grow w' e d'):=by
 refine ⟨by simp [h.size],fun k hk=>?_⟩
 show (w'.heap ++ e)[k]?=(w.heap ++ e)[k]?;rw [Array.getElem?_append,Array.getElem?_append,h.size];split
 ·exact h.block k hk
 ·rfl
theorem Swap.set {p:Nat->Prop} {w w':World} (h:Swap p w w') (g o:Nat) (v:Value) (hp:p g):Swap p w (w'.setCell ⟨g,o,none⟩ v):=by
 refine ⟨by simp [World.setCell,h.size],fun k hk=>?_⟩
 have hne:g≠k:=fun e=>hk (e▸hp)
 show (w'.heap.modify g _)[k]?=_;rw [zO5,if_neg hne,h.block k hk]
section
variable {α:Type} {p p':Nat->Prop} {f:α->List Value} {s:Nat} {e:TypeId} {w w':World} {B:Nat} {v:Value} {l:List α}
theorem SlA.below (h:SlA p f s w v l) (hb:Below w.heap.size w w'):SlA p f s w' v l:=⟨h.1.below hb,h.2⟩
theorem SlA.nil (p:Nat->Prop) (f:α->List Value) (s:Nat) (w:World):SlA p f s w (.slice none 0 0) []:=⟨Sl.nil f s w,.inl rfl⟩
theorem Ow.sla (h:Ow f s e w B v l) (hp:∀ q,p q->q<B):SlA p f s w v l:=by
 refine ⟨h.sl,.inr fun q hq hv=>?_⟩
 obtain ⟨A,c,rfl,_,_,_,h4⟩:=h.form;cases A with
 | none=>cases hv
 | some a=>
  obtain ⟨g,rfl,hB,_⟩:=h4 _ rfl;have:=hp q hq;have e1:g=q:=by simpa [Value.ownBlock] using hv
  omega
theorem SlA.more (h:SlA p f s w v l) (hp:∀ q,p' q->p q\/w.heap.size<=q):SlA p' f s w v l:=by
 refine ⟨h.1,?_⟩;cases l with
 | nil=>exact .inl rfl
 | cons x r=>
  refine .inr fun q hq hv=>?_
  rcases hp q hq with h1 | h1
  ·rcases h.2 with h2 | h2
   ·cases h2
   ·exact h2 q h1 hv
  ·obtain ⟨A,c,rfl,_⟩:=h.1.form
   obtain ⟨b,off,rfl,hb,_⟩:=h.1.at_ (i:=0) rfl;have e1:b=q:=by simpa [Value.ownBlock] using hv
   omega
theorem SlA.swap (h:SlA p f s w v l) (hw:Swap p w w'):SlA p f s w' v l:=by
 refine ⟨?_,h.2⟩;obtain ⟨A,c,hv,h1,h2,h3,h4⟩:=h.1;refine ⟨A,c,hv,h1,h2,h3,fun h0=>?_⟩
 obtain ⟨b,off,rfl,hb,hc⟩:=h4 h0;have hnp:¬ p b:=by
  intro hp;rcases h.2 with h5 | h5
  ·rw [h5] at h0; simp at h0
  ·exact h5 b hp (by rw [hv]; rfl)
 exact ⟨b,off,rfl,by rw [hw.size]; exact hb,fun i x hx j u hu=>(World.cell?_of_block (hw.block b hnp)).trans (hc i x hx j u hu)⟩
end
structure Srv where
 up:Bool
 disk:List File
 id:Int
 epoch:Int
 log:List Txn
 done_:Int
 tz:Int
 nodes:List Node
 sess:List Int
 watches:List Watch
structure SrvV where
 da:Option Addr
 dc:Nat
 la:Option Addr
 lc:Nat
 na:Option Addr
 nc:Nat
 sa:Option Addr
 sc:Nat
 wa:Option Addr
 wc:Nat
abbrev vSrv (s:Srv) (v:SrvV):Value:=.agg #[.bool s.up,.slice v.da s.disk.length v.dc,.int .i64 s.id,.int .i64 s.epoch,.slice v.la s.log.length v.lc,.int .i64 s.done_,.int .i64 s.tz,.slice v.na s.nodes.length v.nc,.slice v.sa s.sess.length v.sc,.slice v.wa s.watches.length v.wc]
structure SrvIn (p:Nat->Prop) (w:World) (s:Srv) (v:SrvV):Prop where
 disk:SlA p Jaa 3 w (.slice v.da s.disk.length v.dc) s.disk
 log:SlA p cTxn 7 w (.slice v.la s.log.length v.lc) s.log
 nodes:SlA p Jab 9 w (.slice v.na s.nodes.length v.nc) s.nodes
 sess:SlA p cInt 1 w (.slice v.sa s.sess.length v.sc) s.sess
 watches:SlA p Jal 3 w (.slice v.wa s.watches.length v.wc) s.watches
theorem SrvIn.below {p:Nat->Prop} {w w':World} {s:Srv} {v:SrvV} (h:SrvIn p w s v) (hb:Below w.heap.size w w'):SrvIn p w' s v:=
 ⟨h.disk.below hb,h.log.below hb,h.nodes.below hb,h.sess.below hb,h.watches.below hb⟩
theorem SrvIn.swap {p:Nat->Prop} {w w':World} {s:Srv} {v:SrvV} (h:SrvIn p w s v) (hb:Swap p w w'):SrvIn p w' s v:=
 ⟨h.disk.swap hb,h.log.swap hb,h.nodes.swap hb,h.sess.swap hb,h.watches.swap hb⟩
theorem SrvIn.more {p p':Nat->Prop} {w:World} {s:Srv} {v:SrvV} (h:SrvIn p w s v) (hp:∀ q,p' q->p q\/w.heap.size<=q):SrvIn p' w s v:=
 ⟨h.disk.more hp,h.log.more hp,h.nodes.more hp,h.sess.more hp,h.watches.more hp⟩
abbrev JcQ:Srv:=⟨false,[],0,0,[],0,0,[],[],[]⟩
abbrev Jdr:SrvV:=⟨none,0,none,0,none,0,none,0,none,0⟩
theorem JcE (p:Nat->Prop) (w:World):SrvIn p w JcQ Jdr:=⟨SlA.nil _ _ _ _,SlA.nil _ _ _ _,SlA.nil _ _ _ _,SlA.nil _ _ _ _,SlA.nil _ _ _ _⟩
def Jdu (p:Nat->Prop) (s:Srv) (c:Int) (w:World) (e:Ending) (w':World):Prop:=∃ v,e=.returned (.tuple #[vSrv s v,.int .i64 c])/\SrvIn p w' s v/\Below w.heap.size w w'
def NewRes (w:World) (e:Ending) (w':World):Prop:=∃ A c,e=.returned (.agg #[.int .i64 0,.slice A 1 c,.slice none 0 0])/\Ow Jab 9 75 w' w.heap.size (.slice A 1 c) [rootN]/\Below w.heap.size w w'
theorem Jnh (w:World):Calls Tryz.prog 46 #[] w (NewRes w):=by
 go_enter Tryz.func46,Tryz.ntmps46
 go_wp2_with fail;refine zA1 (v:=.agg #[.int .i64 0,.slice (some ⟨w.heap.size+1,0,none⟩) 1 1,.slice none 0 0]) (by simp [results,Tryz.results46,go_sem]) rfl ⟨some ⟨w.heap.size+1,0,none⟩,1,rfl,?_,zL⟩
 exact Ow.one_at Jab 9 _ rootN _ rfl _ rfl qI1 qI1
end
section
open Go.RowKit
def toE (n:Node):Entry:=⟨n.path,n.data,true⟩
theorem Jn8 (l:List Node):(l.map toE).map Entry.path=l.map Node.path:=by rw [List.map_map]; rfl
def ltN (x y:Node):Prop:=cmpB x.path y.path<0
def JaE (l:List Node):Prop:=l.Pairwise ltN
theorem Job {a b c:Node} (h:ltN a b) (k:ltN b c):ltN a c:=Jfb _ _ _ h k
theorem Joc {a b:Node} (h:ltN a b):a.path≠b.path:=by
 intro e;unfold ltN at h;rw [e,Jbr] at h;omega
theorem Jha {l:List Node} (h:JaE l):JbO (l.map toE):=by
 rw [JeJ,zP7];exact h
theorem JnR (l:List Node) (p:ByteArray):posN l p=posK ((l.map toE).map Entry.path) p:=by unfold posN; rw [Jn8]
theorem JlC (l:List Node) (p:ByteArray):hasN l p=isK ((l.map toE).map Entry.path) p:=by unfold hasN; rw [Jn8]
theorem JhN {l:List Node} (hs:JaE l) {k:Nat} {x:Node} (hx:l[k]?=some x):posN l x.path=k/\hasN l x.path=true:=by
 rw [JnR,JlC];exact at_of (Jha hs) (x:=toE x) (by rw [zI0,hx]; rfl)
theorem none_ofN {l:List Node} {p:ByteArray} (h:∀ x∈l,x.path≠p):hasN l p=false:=by
 rw [JlC];refine none_of p (fun k x hx=>?_)
 rw [zI0,zK9] at hx;obtain ⟨y,hy,rfl⟩:=hx;exact h y (zD3 hy)
theorem Jjw {l:List Node} {p:ByteArray} (h:hasN l p=true):∃ x,l[posN l p]?=some x/\x.path=p:=by
 rw [JlC] at h;obtain ⟨hq,he⟩:=is_at h;have h1:=zA8 hq;generalize (l.map toE)[posK ((l.map toE).map Entry.path) p]'hq=e at h1 he;rw [<-JnR,zI0,zK9] at h1;obtain ⟨y,hy,rfl⟩:=h1;exact ⟨y,hy,he⟩
theorem JgC {l:List Node} (hs:JaE l) {p:ByteArray}:hasN l p=true↔∃ x∈l,x.path=p:=by
 constructor
 ·intro h
  obtain ⟨x,hx,he⟩:=Jjw h;exact ⟨x,zD3 hx,he⟩
 ·rintro ⟨x,hx,rfl⟩
  obtain ⟨k,hk⟩:=zF0.1 hx;exact (JhN hs hk).2
theorem has_no {l:List Node} (hs:JaE l) {p:ByteArray}:hasN l p=false↔∀ x∈l,x.path≠p:=by
 constructor
 ·intro h x hx he
  rw [(JgC hs).2 ⟨x,hx,he⟩] at h;cases h
 ·exact none_ofN
theorem Jeu {l:List Node} (hs:JaE l) {x:Node} (hx:x∈l):hasN l x.path=true/\getN l x.path=x:=by
 obtain ⟨k,hk⟩:=zF0.1 hx;obtain ⟨h1,h2⟩:=JhN hs hk;refine ⟨h2,?_⟩;unfold getN;rw [h2,if_pos rfl,h1,zE6,hk];rfl
theorem Jil {l:List Node} {p:ByteArray} (h:hasN l p=false):getN l p=Jgr:=by unfold getN; rw [h]; rfl
theorem JgJ {l:List Node} {p:ByteArray} (h:hasN l p=true):getN l p∈l/\(getN l p).path=p:=by
 obtain ⟨x,hx,he⟩:=Jjw h;have hg:getN l p=x:=by
  unfold getN;rw [if_pos h,zE6,hx];rfl
 rw [hg];exact ⟨zD3 hx,he⟩
theorem Jng {l:List Node} (hs:JaE l) {x y:Node} (hx:x∈l) (hy:y∈l) (h:x.path=y.path):x=y:=by rw [<-(Jeu hs hx).2,<-(Jeu hs hy).2,h]
theorem map_same {l:List Node} {f:Node->Node} (h:∀ x∈l,f x=x):l.map f=l:=by
 induction l with
 | nil=>rfl
 | cons a r ih=>rw [zH8,h a qI1,ih (fun x hx=>h x (by simp [hx]))]
theorem JnD {l:List Node} (hs:JaE l) {k:Nat} {x u:Node} (hx:l[k]?=some x) (g:Node->Node) (hgx:g x=u) (hg:∀ y∈l,y.path≠x.path->g y=y):l.set k u=l.map g:=by
 apply zO2;intro i;rw [zK4,zI0];have hk:=(zB3.1 hx).1
 by_cases hki:k=i
 ·subst hki
  rw [if_pos rfl,if_pos hk,hx,<-hgx];rfl
 ·rw [if_neg hki]
  cases hy:l[i]? with
  | none=>rfl
  | some y=>
   have hne:y.path≠x.path:=by
    intro e;have h1:=(JhN hs hy).1;have h2:=(JhN hs hx).1;rw [e] at h1;omega
   rw [Option.map_some,hg y (zD3 hy) hne]
def JaX (d:ByteArray) (more z:Int) (n:Node):Node:=if n.path=d then bump n more z else n
theorem Jlw {l:List Node} (hs:JaE l) (d:ByteArray) (more z:Int):kidN l d more z=l.map (JaX d more z):=by
 unfold kidN;cases h:hasN l d with
 | false=>
  rw [if_neg qI1,map_same];intro x hx;unfold JaX;rw [if_neg ((has_no hs).1 h x hx)]
 | true=>
  obtain ⟨x,hx,he⟩:=Jjw h;rw [if_pos rfl,zE6,hx];refine JnD hs hx _ ?_ ?_
  ·unfold JaX
   rw [if_pos he];rfl
  ·intro y hy hne
   unfold JaX;rw [if_neg (by rw [<-he]; exact hne)]
def Jgm (x:Txn) (n:Node):Node:=if n.path=x.path then { n with data:=x.data,version:=x.version,mzxid:=x.zxid } else n
theorem JeL {l:List Node} (hs:JaE l) {x:Txn} (h:hasN l x.path=true):setN l x=l.map (Jgm x):=by
 obtain ⟨n,hn,he⟩:=Jjw h;unfold setN;rw [zE6,hn];refine JnD hs hn _ ?_ ?_
 ·unfold Jgm
  rw [if_pos he];rfl
 ·intro y hy hne
  unfold Jgm;rw [if_neg (by rw [<-he]; exact hne)]
theorem JkT {α:Type} {l:List α} {k:Nat} {x:α} (h:l[k]?=some x):l=l.take k ++ x :: l.drop (k+1):=by
 obtain ⟨h1,h2⟩:=zB3.1 h;rw [<-h2,zQ1,zD7]
theorem JgQ {α:Type} {l:List α} {f:α->Bool} (h:∀ x∈l,f x=true):l.filter f=l:=List.filter_eq_self.2 h
theorem JgS {l:List Node} (hs:JaE l) {p:ByteArray} (h:hasN l p=true):delN l p=l.filter (fun n=>decide (n.path≠p)):=by
 obtain ⟨x,hx,he⟩:=Jjw h;unfold delN;have hc:=JkT hx;generalize posN l p=k at hc;generalize l.take k=a at hc ⊢;generalize l.drop (k+1)=b at hc ⊢;subst hc;unfold JaE at hs;rw [zH3,zG7] at hs;rw [zO6,List.filter_cons_of_neg (by simp [he]),JgQ,JgQ]
 ·intro y hy
  have:=hs.2.1.1 y hy;have:=Joc this;simp;rw [<-he];exact fun e=>this e.symm
 ·intro y hy
  have:=Joc (hs.2.2 y hy x qI1);simp;rw [<-he];exact this
theorem Jmv {l:List Node} (hs:JaE l) {x:Node} (h:hasN l x.path=false):∃ a b,l=a ++ b/\insN l x=a ++ x :: b/\JaE (a ++ x :: b):=by
 refine ⟨l.take (posN l x.path),l.drop (posN l x.path),(zD7 _ _).symm,rfl,?_⟩;have hE:=Jha hs;have hb:=Jj1 hE x.path;have ha:=Jj0 hE x.path (by rw [<-JlC]; exact h)
 rw [<-JnR] at hb ha;have e:=zD7 (posN l x.path) l;generalize posN l x.path=q at *;rw [<-List.map_take] at hb;rw [<-zO7] at ha;generalize l.take q=a at *;generalize l.drop q=b at *;unfold JaE at *;rw [<-e] at hs;rw [zH3] at hs ⊢;rw [zG7];refine ⟨hs.1,⟨fun y hy=>ha (toE y) (List.mem_map_of_mem hy),hs.2.1⟩,fun y hy u hu=>?_⟩
 have hyx:ltN y x:=hb (toE y) (List.mem_map_of_mem hy);rcases zE2.1 hu with rfl | hu
 ·exact hyx
 ·exact hs.2.2 y hy u hu
theorem Jfl {l:List Node} (hs:JaE l) {f:Node->Node} (hf:∀ x,(f x).path=x.path):JaE (l.map f):=by
 unfold JaE at *;rw [zP7];refine hs.imp (fun h=>?_)
 unfold ltN at *;rw [hf,hf];exact h
theorem JeK {l:List Node} (hs:JaE l) (f:Node->Bool):JaE (l.filter f):=List.Pairwise.filter f hs
theorem Jex {l:List Node} {f:Node->Node} (hf:∀ x,(f x).path=x.path) (q:ByteArray):(l.map f).countP (kidB q)=l.countP (kidB q):=by
 rw [List.countP_map];congr 1;funext x
 simp only [Function.comp,kidB,hf]
theorem Jam (d:ByteArray) (more z:Int) (x:Node):(JaX d more z x).path=x.path:=by unfold JaX; split <;> rfl
theorem Jcr (x:Txn) (n:Node):(Jgm x n).path=n.path:=by unfold Jgm; split <;> rfl
theorem Jgk {α:Type} {R:α->α->Prop} (tr:∀ a b c,R a b->R b c->R a c):∀ l:List α,(∀ i x y,l[i]?=some x->l[i+1]?=some y->R x y)->l.Pairwise R
 | [],_=>.nil
 | [a],_=>zO3 R a
 | a :: b :: r,h=>by
  have ih:=Jgk tr (b :: r) (fun i x y hx hy=>h (i+1) x y hx hy)
  have h0:=h 0 a b rfl rfl;rw [zG7];refine ⟨fun y hy=>?_,ih⟩
  rcases zE2.1 hy with rfl | hy
  ·exact h0
  ·exact tr a b y h0 ((zG7.1 ih).1 y hy)
theorem Jff {α:Type} {R:α->α->Prop} {l:List α} (h:l.Pairwise R) {i j:Nat} {x y:α} (hij:i<j) (hx:l[i]?=some x) (hy:l[j]?=some y):R x y:=by
 obtain ⟨hi,rfl⟩:=zB3.1 hx;obtain ⟨hj,rfl⟩:=zB3.1 hy;exact zJ4.1 h i j hi hj hij
/-! numbers in order -/
theorem Jh2 {l:List Int} (hs:l.Pairwise (·<·)) (s:Int) {k:Nat} {x:Int} (hx:l[k]?=some x):k<posI l s↔x<s:=by
 have hk:k<l.length:=(zB3.1 hx).1;obtain ⟨m,hm,h1,h2⟩:=JlV (ltI l s) l.length (by
  intro i j hij hj h;have hi:=zA8 (l:=l) (i:=i) qH1;have hj2:=zA8 (l:=l) (i:=j) hj;rw [Jhm hj2] at h;rw [Jhm hi];have:=Jff hs hij hi hj2;simp at h ⊢;omega)
 have hp:posI l s=m:=by
  unfold posI;exact Jdb _ m l.length 0 l.length qH1 (zB9 _) hm h1 h2
 rw [hp];constructor
 ·intro h
  have:=h1 k h;rw [Jhm hx] at this;simpa using this
 ·intro h
  rcases zD1 k m with hlt2 | hge
  ·exact hlt2
  ·have:=h2 k hge hk
   rw [Jhm hx] at this;simp at this;omega
theorem JgA {l:List Int} (hs:l.Pairwise (·<·)) {s:Int}:isI l s=true↔s∈l:=by
 unfold isI;rw [decide_eq_true_iff];constructor
 ·exact zD3
 ·intro h
  obtain ⟨k,hk⟩:=zF0.1 h;have h1:¬ k<posI l s:=by rw [Jh2 hs s hk]; omega
  have h2:posI l s=k:=by
   rcases zD1 (posI l s) k with h | h
   ·have hkl:=(zB3.1 hk).1
    have hy:=zA8 (l:=l) (i:=posI l s) qH1;have h3:=Jff hs h hy hk;rw [<-Jh2 hs s hy] at h3;omega
   ·omega
  rw [h2];exact hk
theorem isI_no {l:List Int} (hs:l.Pairwise (·<·)) {s:Int}:isI l s=false↔s∉l:=by
 rw [<-JgA hs];cases isI l s <;> simp
theorem Joh {l:List Int} (hs:l.Pairwise (·<·)) {s:Int} (h:s∉l):(insS l s).Pairwise (·<·)/\(∀ x,x∈insS l s↔x=s\/x∈l)/\(insS l s).length=l.length+1:=by
 have hb:∀ y∈l.take (posI l s),y<s:=by
  intro y hy;obtain ⟨k,hk⟩:=zF0.1 hy;rw [zM7] at hk;split at hk
  ·exact (Jh2 hs s hk).1 (by assumption)
  ·cases hk
 have ha:∀ y∈l.drop (posI l s),s<y:=by
  intro y hy;have hne:y≠s:=fun e=>h (e▸zL0 hy)
  obtain ⟨k,hk⟩:=zF0.1 hy;rw [zF3] at hk;have h1:=mt (Jh2 hs s hk).2 qH1;omega
 have e:=zD7 (posI l s) l;have hle:=JnS l s;unfold insS;generalize posI l s=q at *;have hlen:(l.take q).length=q:=by rw [zC2]; omega
 have hlen2:(l.drop q).length=l.length - q:=by rw [zE5]
 generalize l.take q=a at *;generalize l.drop q=b at *;rw [<-e] at hs;rw [zH3] at hs;refine ⟨?_,?_,?_⟩
 ·rw [zH3,zG7]
  refine ⟨hs.1,⟨ha,hs.2.1⟩,fun y hy u hu=>?_⟩
  rcases zE2.1 hu with rfl | hu
  ·exact hb y hy
  ·exact hs.2.2 y hy u hu
 ·intro x
  rw [<-e];simp only [zE7,zE2];constructor
  ·rintro (h | h | h)
   ·exact .inr (.inl h)
   ·exact .inl h
   ·exact .inr (.inr h)
  ·rintro (h | h | h)
   ·exact .inr (.inl h)
   ·exact .inl h
   ·exact .inr (.inr h)
 ·rw [zA9,zD5]
  omega
theorem JoK {l:List Int} (hs:l.Pairwise (·<·)) {s:Int} (h:s∈l):(delS l s).Pairwise (·<·)/\(∀ x,x∈delS l s↔x∈l/\x≠s)/\(delS l s).length+1=l.length:=by
 have hx:l[posI l s]?=some s:=by
  have:=(JgA hs).2 h;unfold isI at this;simpa using this
 have hc:=JkT hx;have hq:=(zB3.1 hx).1;unfold delS;generalize posI l s=q at *;have hlen:(l.take q).length=q:=by rw [zC2]; omega
 have hlen2:(l.drop (q+1)).length=l.length - (q+1):=by rw [zE5]
 generalize l.take q=a at *;generalize l.drop (q+1)=b at *;have hs2:=hs;rw [hc,zH3,zG7] at hs;refine ⟨?_,?_,?_⟩
 ·rw [zH3]
  exact ⟨hs.1,hs.2.1.2,fun y hy u hu=>hs.2.2 y hy u (by simp [hu])⟩
 ·intro x
  rw [hc];simp only [zE7,zE2];constructor
  ·rintro (h | h)
   ·exact ⟨.inl h,by have:=hs.2.2 x h s qI1; omega⟩
   ·exact ⟨.inr (.inr h),by have:=hs.2.1.1 x h; omega⟩
  ·rintro ⟨h | h | h,hn⟩
   ·exact .inl h
   ·exact absurd h hn
   ·exact .inr h
 ·rw [zA9]
  omega
theorem Jkk:Jac slash=(⟨#[]⟩,⟨#[]⟩,7):=by unfold Jac; rw [if_pos JbQ,if_pos rfl]
theorem Jf6 {p:ByteArray} (h:Jaw p=true):(Jac p).2.2=0↔p≠slash:=by
 constructor
 ·intro h0 e
  rw [e,Jkk] at h0;cases h0
 ·intro hs
  exact (JdV h hs).2.2.2
theorem JeX {n:Node} (hg:Jaw n.path=true) (q:ByteArray):kidB q n=true↔n.path≠slash/\JaH n.path=q:=by
 unfold kidB;rw [zE1,decide_eq_true_iff,decide_eq_true_iff,Jf6 hg]
theorem JnT {p:ByteArray} (hg:Jaw p=true) (hs:p≠slash):(bs (JaH p)).length<(bs p).length:=by
 obtain ⟨h1,h2,h3,_⟩:=JdV hg hs;obtain ⟨_,hn1,_⟩:=Jh9 h3;unfold JcR at h1;rw [h2,h3,zJ9,if_pos rfl] at h1
 by_cases h4:200<(Jbx (Jac p).1 (Jac p).2.1).size
 ·rw [if_pos h4] at h1
  injection h1 with _ h1
  cases h1
 ·rw [if_neg h4] at h1
  injection h1 with h1 _
  have h5:(bs (Jbx (Jac p).1 (Jac p).2.1)).length=(bs p).length:=congrArg (fun x=>(bs x).length) h1
  unfold Jbx at h5;show (bs (Jac p).1).length<_;split at h5
  ·rename_i e
   rw [Jas,zA9] at h5;rw [e];omega
  ·rw [Jas,Jas,zA9,zA9] at h5
   omega
theorem Jjc {p:ByteArray} (hg:Jaw p=true) (hs:p≠slash):JaH p≠p:=by
 intro e;have:=JnT hg hs;rw [e] at this;omega
structure GoodW (z:Int) (l:List Node) (ss:List Int):Prop where
 len:l.length<=400
 zx:0<=z/\z<4611686018427387904
 root:∃ n r,l=n :: r/\n.path=slash/\n.owner=0
 sorted:JaE l
 sess:ss.Pairwise (·<·)
 sessB:∀ s∈ss,1<=s/\s<=2147483647
 path:∀ n∈l,Jaw n.path=true/\n.data.size<=256
 stat:∀ n∈l,0<=n.version/\n.version<=2147483647/\0<=n.cversion/\0<=n.czxid/\n.czxid<=n.mzxid/\n.czxid<=n.pzxid/\n.mzxid<=z/\n.pzxid<=z
 own:∀ n∈l,n.owner=0\/(n.owner∈ss/\n.kids=0)
 up:∀ n∈l,n.path=slash\/∃ m∈l,m.path=JaH n.path
 kids:∀ n∈l,n.kids=((l.countP (kidB n.path):Nat):Int)
theorem JnZ {z:Int} {l:List Node} {ss:List Int} {k:Nat} {x:Node} (h:l[k]?=some x):okN ⟨z,l,ss⟩ k=(Jaw x.path && (decide (x.data.size<=256) && (Jmp l k x && (Jnz z x && (ownB ss x && upB l x))))):=by
 unfold okN;simp only [h]
theorem JkA {l:List Node} {j:Nat} {y:Node} (h:l[j]?=some y) (x:Node):Jmp l (j+1) x=decide (cmpB y.path x.path<0):=by
 unfold Jmp;simp only [h]
theorem okS_0 {l:List Int} {s:Int} (h:l[0]?=some s):okS l 0=(decide (1<=s) && (decide (s<=2147483647) && true)):=by unfold okS; rw [h]
theorem JnY {l:List Int} {j:Nat} {s y:Int} (h:l[j+1]?=some s) (hy:l[j]?=some y):okS l (j+1)=(decide (1<=s) && (decide (s<=2147483647) && decide (y<s))):=by
 unfold okS;rw [h];simp only [hy]
theorem okS_b {l:List Int} {i:Nat} {s:Int} (h:l[i]?=some s) (hk:okS l i=true):1<=s/\s<=2147483647:=by
 unfold okS at hk;rw [h] at hk;simp only [zE1,decide_eq_true_eq] at hk;exact ⟨hk.1,hk.2.1⟩
theorem JlB {z:Int} {l:List Node} {ss:List Int} (h:JfG ⟨z,l,ss⟩=true):l.length<=400/\Zx z/\∃ n,l[0]?=some n/\n.path=slash/\n.owner=0:=by
 cases l with
 | nil=>simp [JfG] at h
 | cons n r=>
  unfold JfG at h;simp only [zE1,decide_eq_true_eq] at h;exact ⟨h.1,h.2.1,n,rfl,h.2.2⟩
theorem Jnf {l:List Node} (hs:JaE l) {n:Node} (hg:Jaw n.path=true):upB l n=true↔(n.path=slash\/∃ m∈l,m.path=JaH n.path):=by
 unfold upB;rw [zJ0,decide_eq_true_iff,JgC hs,Ne,Jf6 hg,Classical.not_not]
theorem Jli {ss:List Int} (hs:ss.Pairwise (·<·)) (n:Node):ownB ss n=true↔(n.owner=0\/(n.owner∈ss/\n.kids=0)):=by
 unfold ownB;rw [zJ0,zE1,decide_eq_true_iff,decide_eq_true_iff,JgA hs]
theorem Jdm {l:List Node}:JbD l=false↔∀ n∈l,n.cversion<=2147483647:=by
 unfold JbD;rw [List.any_eq_false];constructor
 ·intro h n hn
  have:=h n hn;rw [decide_eq_true_iff] at this;omega
 ·intro h n hn
  rw [decide_eq_true_iff];have:=h n hn;omega
theorem Jij (z:Int) (l:List Node) (ss:List Int):Jan ⟨z,l,ss⟩=true↔GoodW z l ss/\JbD l=false:=by
 unfold Jan;simp only [zE1,List.all_eq_true,zK0,decide_eq_true_eq];constructor
 ·rintro ⟨hh,hS,hN,hK⟩
  obtain ⟨hl,hz,n0,hn0,hp0,ho0⟩:=JlB hh;have hN':∀ i n,l[i]?=some n->Jaw n.path=true/\n.data.size<=256/\Jmp l i n=true/\Jnz z n=true/\ownB ss n=true/\upB l n=true:=by
   intro i n hi;have:=hN i (zB3.1 hi).1;rw [JnZ hi] at this;simp only [zE1,decide_eq_true_eq] at this;exact this
  have hsess:ss.Pairwise (·<·):=Jgk (R:=fun (a b:Int)=>a<b) (fun _ _ _=>Int.lt_trans) ss (fun i x y hx hy=>by
   have:=hS (i+1) (zB3.1 hy).1;rw [JnY hy hx] at this;simp only [zE1,decide_eq_true_eq] at this;exact this.2.2)
  have hsort:JaE l:=Jgk (R:=ltN) (fun _ _ _=>Job) l (fun i x y hx hy=>by
   have:=(hN' (i+1) y hy).2.2.1;rw [JkA hx] at this;exact (of_decide_eq_true this:cmpB x.path y.path<0))
  have hst:∀ n∈l,0<=n.version/\n.version<=2147483647/\0<=n.cversion/\n.cversion<=2147483647/\0<=n.czxid/\n.czxid<=n.mzxid/\n.czxid<=n.pzxid/\n.mzxid<=z/\n.pzxid<=z:=by
   intro n hn;obtain ⟨i,hi⟩:=zF0.1 hn;exact of_decide_eq_true (hN' i n hi).2.2.2.1
  refine ⟨⟨hl,hz,?_,hsort,hsess,?_,?_,?_,?_,?_,?_⟩,Jdm.2 (fun n hn=>(hst n hn).2.2.2.1)⟩
  ·cases l with
   | nil=>cases hn0
   | cons n r=>
    injection hn0 with hn0
    subst hn0;exact ⟨n,r,rfl,hp0,ho0⟩
  ·intro s hs
   obtain ⟨i,hi⟩:=zF0.1 hs;exact okS_b hi (hS i (zB3.1 hi).1)
  ·intro n hn
   obtain ⟨i,hi⟩:=zF0.1 hn;exact ⟨(hN' i n hi).1,(hN' i n hi).2.1⟩
  ·intro n hn
   obtain ⟨a,b,c,d,e⟩:=hst n hn;exact ⟨a,b,c,e⟩
  ·intro n hn
   obtain ⟨i,hi⟩:=zF0.1 hn;exact (Jli hsess n).1 (hN' i n hi).2.2.2.2.1
  ·intro n hn
   obtain ⟨i,hi⟩:=zF0.1 hn;exact (Jnf hsort (hN' i n hi).1).1 (hN' i n hi).2.2.2.2.2
  ·exact hK
 ·rintro ⟨h,hf⟩
  refine ⟨?_,?_,?_,h.kids⟩
  ·obtain ⟨n,r,rfl,hp,ho⟩:=h.root
   unfold JfG;simp only [zE1,decide_eq_true_eq];exact ⟨h.len,h.zx,hp,ho⟩
  ·intro i hi
   have hx:=zA8 hi;have hb:=h.sessB _ (zD3 hx);cases i with
   | zero=>
    rw [okS_0 hx,zB0 hb.1,zB0 hb.2];rfl
   | succ j=>
    have hy:=zA8 (l:=ss) (i:=j) qH1;rw [JnY hx hy,zB0 hb.1,zB0 hb.2,zB0 (Jff h.sess (zN2 j) hy hx)];rfl
  ·intro i hi
   have hx:=zA8 hi;generalize l[i]=n at hx;have hm:=zD3 hx;rw [JnZ hx];simp only [zE1,decide_eq_true_eq];refine ⟨(h.path n hm).1,(h.path n hm).2,?_,?_,(Jli h.sess n).2 (h.own n hm),(Jnf h.sorted (h.path n hm).1).2 (h.up n hm)⟩
   ·cases i with
    | zero=>rfl
    | succ j=>
     have hy:=zA8 (l:=l) (i:=j) qH1;rw [JkA hy];exact zB0 (Jff h.sorted (zN2 j) hy hx)
   ·obtain ⟨a,b,c,e⟩:=h.stat n hm
    exact zB0 ⟨a,b,c,Jdm.1 hf n hm,e⟩
theorem JaP {t:Tr} (h:Jan t=true):GoodW t.zxid t.nodes t.sess/\JbD t.nodes=false:=(Jij t.zxid t.nodes t.sess).1 h
section
variable {z z':Int} {l:List Node} {ss:List Int}
theorem GoodW.rootOf (h:GoodW z l ss) {n:Node} (hn:n∈l) (hp:n.path=slash):n.owner=0:=by
 obtain ⟨m,r,e,hmp,hmo⟩:=h.root;have hm:m∈l:=by rw [e]; simp
 rw [Jng h.sorted hn hm (hp.trans hmp.symm)];exact hmo
theorem GoodW.no_kid (h:GoodW z l ss) {x m:Node} (hx:x∈l) (hk:x.kids=0) (hm:m∈l) (hms:m.path≠slash):JaH m.path≠x.path:=by
 intro e;have h1:=h.kids x hx;rw [hk] at h1;have h2:0<l.countP (kidB x.path):=List.countP_pos_iff.2 ⟨m,hm,(JeX (h.path m hm).1 _).2 ⟨hms,e⟩⟩;omega
theorem GoodW.parent_free (h:GoodW z l ss) {x m:Node} (hm:m∈l) (hms:m.path≠slash) (hx:x∈l) (e:x.path=JaH m.path):x.owner=0:=by
 rcases h.own x hx with h0 | ⟨_,hk⟩
 ·exact h0
 ·exact absurd e.symm (h.no_kid hx hk hm hms)
theorem GoodW.later (h:GoodW z l ss) (hz:z<=z') (hz2:z'<4611686018427387904):GoodW z' l ss:=
 ⟨h.len,⟨by have:=h.zx; omega,hz2⟩,h.root,h.sorted,h.sess,h.sessB,h.path,fun n hn=>by have:=h.stat n hn; omega,h.own,h.up,h.kids⟩
theorem GoodW.with_sess (h:GoodW z l ss) {ts:List Int} (h1:ts.Pairwise (·<·)) (h2:∀ s∈ts,1<=s/\s<=2147483647) (h3:∀ n∈l,n.owner=0\/n.owner∈ts):GoodW z l ts:=
 ⟨h.len,h.zx,h.root,h.sorted,h1,h2,h.path,h.stat,fun n hn=>by
  rcases h3 n hn with h0 | h0
  ·exact .inl h0
  ·rcases h.own n hn with h4 | ⟨_,h4⟩
   ·exact .inl h4
   ·exact .inr ⟨h0,h4⟩,h.up,h.kids⟩
theorem JhC (hs:JaE l) {x:Node} (hx:x∈l):∃ a b,l=a ++ x :: b/\l.filter (fun n=>decide (n.path≠x.path))=a ++ b:=by
 obtain ⟨k,hk⟩:=zF0.1 hx;refine ⟨l.take k,l.drop (k+1),JkT hk,?_⟩;have h1:=JgS hs (JhN hs hk).2;rw [<-h1];unfold delN;rw [(JhN hs hk).1]
theorem Je4 (hs:JaE l) {x:Node} (hx:x∈l) (zz:Int):JcS l x.path zz=(l.filter (fun n=>decide (n.path≠x.path))).map (JaX (JaH x.path) (-1) zz):=by
 have hd:=JgS hs (Jeu hs hx).1;unfold JcS;rw [Jlw (by rw [hd]; exact JeK hs _),hd]
theorem Jia (hs:JaE l) {x:Node} (hx:x∈l) (zz:Int) (n:Node):n∈JcS l x.path zz↔∃ m∈l,m.path≠x.path/\n=JaX (JaH x.path) (-1) zz m:=by
 rw [Je4 hs hx,zL6];constructor
 ·rintro ⟨m,hm,rfl⟩
  rw [zL7] at hm;exact ⟨m,hm.1,by simpa using hm.2,rfl⟩
 ·rintro ⟨m,hm,hne,rfl⟩
  exact ⟨m,zL7.2 ⟨hm,by simpa using hne⟩,rfl⟩
theorem JgH (hs:JaE l) {x:Node} (hx:x∈l) (zz:Int):(JcS l x.path zz).length+1=l.length:=by
 obtain ⟨a,b,e,hf⟩:=JhC hs hx;rw [Je4 hs hx,zG0,hf];rw [e];simp;omega
theorem Jb5 (d:ByteArray) (more zz:Int) (n:Node):(JaX d more zz n).owner=n.owner:=by unfold JaX; split <;> rfl
theorem Jey (d:ByteArray) (more zz:Int) (n:Node):(JaX d more zz n).data=n.data:=by unfold JaX; split <;> rfl
theorem Jg5 (d:ByteArray) (more zz:Int) (n:Node):(JaX d more zz n).version=n.version:=by unfold JaX; split <;> rfl
theorem JgF (h:GoodW z l ss) {x:Node} (hx:x∈l) (hne:x.path≠slash) (hk:x.kids=0):GoodW z (JcS l x.path z) ss:=by
 obtain ⟨a,b,e,hf⟩:=JhC h.sorted hx;have hmem:=Jia h.sorted hx z;have hxk:=fun q=>JeX (h.path x hx).1 q
 refine ⟨?_,h.zx,?_,?_,h.sess,h.sessB,?_,?_,?_,?_,?_⟩
 ·have:=JgH h.sorted hx z
  have:=h.len;omega
 ·obtain ⟨n,r,e2,hp,ho⟩:=h.root
  rw [Je4 h.sorted hx,e2,zR0 (by rw [hp]; simpa using fun e=>hne e.symm),zH8]
  exact ⟨_,_,rfl,by rw [Jam]; exact hp,by rw [Jb5]; exact ho⟩
 ·rw [Je4 h.sorted hx]
  exact Jfl (JeK h.sorted _) (Jam _ _ _)
 ·intro n hn
  obtain ⟨m,hm,_,rfl⟩:=(hmem n).1 hn;rw [Jam,Jey];exact h.path m hm
 ·intro n hn
  obtain ⟨m,hm,_,rfl⟩:=(hmem n).1 hn;have:=h.stat m hm;unfold JaX;split
  ·simp only [bump]
   omega
  ·exact this
 ·intro n hn
  obtain ⟨m,hm,_,rfl⟩:=(hmem n).1 hn;unfold JaX;split
  ·rename_i hd
   exact .inl (show m.owner=0 from h.parent_free hx hne hm hd)
  ·exact h.own m hm
 ·intro n hn
  obtain ⟨m,hm,hmx,rfl⟩:=(hmem n).1 hn;rw [Jam];rcases h.up m hm with h0 | ⟨q,hq,hqp⟩
  ·exact .inl h0
  ·by_cases hms:m.path=slash
   ·exact .inl hms
   refine .inr ⟨JaX (JaH x.path) (-1) z q,(hmem _).2 ⟨q,hq,?_,rfl⟩,by rw [Jam]; exact hqp⟩
   rw [hqp];exact h.no_kid hx hk hm hms
 ·intro n hn
  obtain ⟨m,hm,hmx,rfl⟩:=(hmem n).1 hn;rw [Je4 h.sorted hx,Jex (Jam _ _ _),Jam,hf];have h1:=h.kids m hm;rw [e,zN3,zP6] at h1;rw [zN3];unfold JaX
  by_cases hd:m.path=JaH x.path
  ·rw [if_pos hd]
   rw [if_pos ((hxk _).2 ⟨hne,hd.symm⟩)] at h1;simp only [bump];omega
  ·rw [if_neg hd]
   rw [if_neg (by rw [hxk]; exact fun e=>hd e.2.symm)] at h1
   omega
theorem Jlq (hs:JaE l) (x:Txn) (hno:hasN l x.path=false):∃ a b,l=a ++ b/\Jgt l x=(a ++ Jbo x :: b).map (JaX (JaH x.path) 1 x.zxid)/\JaE (a ++ Jbo x :: b):=by
 obtain ⟨a,b,e,h1,h2⟩:=Jmv hs (x:=Jbo x) hno;refine ⟨a,b,e,?_,h2⟩;unfold Jgt;rw [h1,Jlw h2]
theorem bump_new (x:Txn) (hg:Jaw x.path=true) (hne:x.path≠slash) (more zz:Int):JaX (JaH x.path) more zz (Jbo x)=Jbo x:=by
 unfold JaX;rw [if_neg];exact fun e=>Jjc hg hne e.symm
theorem Jlo (hs:JaE l) (x:Txn) (hno:hasN l x.path=false) (hg:Jaw x.path=true) (hne:x.path≠slash) (n:Node):n∈Jgt l x↔n=Jbo x\/∃ m∈l,n=JaX (JaH x.path) 1 x.zxid m:=by
 obtain ⟨a,b,e,h1,_⟩:=Jlq hs x hno;rw [h1,e];simp only [zK1,zH8,bump_new x hg hne,zE7,zE2,zL6];constructor
 ·rintro (⟨m,hm,rfl⟩ | rfl | ⟨m,hm,rfl⟩)
  ·exact .inr ⟨m,.inl hm,rfl⟩
  ·exact .inl rfl
  ·exact .inr ⟨m,.inr hm,rfl⟩
 ·rintro (rfl | ⟨m,hm | hm,rfl⟩)
  ·exact .inr (.inl rfl)
  ·exact .inl ⟨m,hm,rfl⟩
  ·exact .inr (.inr ⟨m,hm,rfl⟩)
theorem Joo (h:GoodW z l ss) (x:Txn) (hxz:x.zxid=z) (hno:hasN l x.path=false) (hg:Jaw x.path=true) (hne:x.path≠slash) (hd:x.data.size<=256) (hlen:l.length<400)
  (hown:x.owner=0\/x.owner∈ss) {u:Node} (hu:u∈l) (hup:u.path=JaH x.path) (huo:u.owner=0):GoodW z (Jgt l x) ss:=by
 obtain ⟨a,b,e,hm1,hsort⟩:=Jlq h.sorted x hno;have hmem:=Jlo h.sorted x hno hg hne;have hnop:=(has_no h.sorted).1 hno;have hz:=h.zx;subst hxz;refine ⟨?_,h.zx,?_,?_,h.sess,h.sessB,?_,?_,?_,?_,?_⟩
 ·rw [hm1,zG0,zA9,zD5]
  rw [e,zA9] at hlen;omega
 ·obtain ⟨n,r,e2,hp,ho⟩:=h.root
  have hsl:∀ m:Node,ltN m (Jbo x)\/ltN (Jbo x) m->True:=fun _ _=>trivial
  cases a with
  | nil=>
   exfalso;rw [zE0] at e;rw [e2] at e;subst e;rw [zE0] at hsort;unfold JaE at hsort;rw [zG7] at hsort;have h1:ltN (Jbo x) n:=hsort.1 n qI1;unfold ltN at h1;rw [hp] at h1;have h2:=(Je2 hg hne).1;obtain ⟨q,hq⟩:=bs_pre h2;have h3:cmpB (Jbo x).path slash=Lib.compareBytes (47 :: q) [47]:=by
    show Lib.compareBytes (bs x.path) (bs slash)=_;rw [hq,Jcn]
   rw [h3] at h1;have h4:q≠[]:=fun e=>hne (Jbs (by rw [hq,e,Jcn]))
   cases q with
   | nil=>exact h4 rfl
   | cons c q=>simp [Lib.compareBytes] at h1
  | cons a0 a=>
   rw [e2,zF9] at e;injection e with e3 e4
   subst e3;rw [hm1,zF9,zH8];exact ⟨_,_,rfl,by rw [Jam]; exact hp,by rw [Jb5]; exact ho⟩
 ·rw [hm1]
  exact Jfl hsort (Jam _ _ _)
 ·intro n hn
  rcases (hmem n).1 hn with rfl | ⟨m,hm,rfl⟩
  ·exact ⟨hg,hd⟩
  ·rw [Jam,Jey]
   exact h.path m hm
 ·intro n hn
  rcases (hmem n).1 hn with rfl | ⟨m,hm,rfl⟩
  ·simp only [Jbo]
   omega
  ·have:=h.stat m hm
   unfold JaX;split
   ·simp only [bump]
    omega
   ·exact this
 ·intro n hn
  rcases (hmem n).1 hn with rfl | ⟨m,hm,rfl⟩
  ·rcases hown with h0 | h0
   ·exact .inl h0
   ·exact .inr ⟨h0,rfl⟩
  ·unfold JaX
   split
   ·rename_i hd2
    left;rw [Jng h.sorted hm hu (hd2.trans hup.symm)];exact huo
   ·exact h.own m hm
 ·intro n hn
  rcases (hmem n).1 hn with rfl | ⟨m,hm,rfl⟩
  ·exact .inr ⟨_,(hmem _).2 (.inr ⟨u,hu,rfl⟩),by rw [Jam]; exact hup⟩
  ·rw [Jam]
   rcases h.up m hm with h0 | ⟨q,hq,hqp⟩
   ·exact .inl h0
   ·exact .inr ⟨_,(hmem _).2 (.inr ⟨q,hq,rfl⟩),by rw [Jam]; exact hqp⟩
 ·have hk:=fun q=>JeX (n:=Jbo x) hg q
  have hc:∀ q,((Jgt l x).countP (kidB q):Nat)=l.countP (kidB q)+(if kidB q (Jbo x)=true then 1 else 0):=by
   intro q;rw [hm1,Jex (Jam _ _ _),e,zN3,zN3,zP6];omega
  intro n hn;rw [hc];rcases (hmem n).1 hn with rfl | ⟨m,hm,rfl⟩
  ·rw [if_neg (by rw [hk]; exact fun e=>Jjc hg hne e.2)]
   have h0:l.countP (kidB (Jbo x).path)=0:=by
    rw [List.countP_eq_zero];intro m hm hkm;obtain ⟨hms,hmp⟩:=(JeX (h.path m hm).1 _).1 hkm;rcases h.up m hm with h0 | ⟨q,hq,hqp⟩
    ·exact hms h0
    ·exact hnop q hq (hqp.trans hmp)
   rw [h0];rfl
  ·rw [Jam]
   have h1:=h.kids m hm;unfold JaX
   by_cases hd2:m.path=JaH x.path
   ·rw [if_pos hd2,if_pos ((hk _).2 ⟨hne,hd2.symm⟩)]
    simp only [bump];omega
   ·rw [if_neg hd2,if_neg (by rw [hk]; exact fun e=>hd2 e.2.symm)]
    omega
theorem mem_set (hs:JaE l) {x:Txn} (h:hasN l x.path=true) (n:Node):n∈setN l x↔∃ m∈l,n=Jgm x m:=by
 rw [JeL hs h,zL6];constructor
 ·rintro ⟨m,hm,rfl⟩; exact ⟨m,hm,rfl⟩
 ·rintro ⟨m,hm,rfl⟩; exact ⟨m,hm,rfl⟩
theorem good_set (h:GoodW z l ss) (x:Txn) (hxz:x.zxid=z) (hyes:hasN l x.path=true) (hd:x.data.size<=256) (hv:0<=x.version/\x.version<=2147483647):GoodW z (setN l x) ss:=by
 have hmem:=mem_set h.sorted hyes;subst hxz;refine ⟨?_,h.zx,?_,?_,h.sess,h.sessB,?_,?_,?_,?_,?_⟩
 ·rw [JeL h.sorted hyes,zG0]
  exact h.len
 ·obtain ⟨n,r,e2,hp,ho⟩:=h.root
  rw [JeL h.sorted hyes,e2,zH8];exact ⟨_,_,rfl,by rw [Jcr]; exact hp,by unfold Jgm; split <;> exact ho⟩
 ·rw [JeL h.sorted hyes]
  exact Jfl h.sorted (Jcr x)
 ·intro n hn
  obtain ⟨m,hm,rfl⟩:=(hmem n).1 hn;have:=h.path m hm;unfold Jgm;split
  ·exact ⟨this.1,hd⟩
  ·exact this
 ·intro n hn
  obtain ⟨m,hm,rfl⟩:=(hmem n).1 hn;have:=h.stat m hm;unfold Jgm;split
  ·simp only
   omega
  ·exact this
 ·intro n hn
  obtain ⟨m,hm,rfl⟩:=(hmem n).1 hn;have:=h.own m hm;unfold Jgm;split <;> exact this
 ·intro n hn
  obtain ⟨m,hm,rfl⟩:=(hmem n).1 hn;rw [Jcr];rcases h.up m hm with h0 | ⟨q,hq,hqp⟩
  ·exact .inl h0
  ·exact .inr ⟨_,(hmem _).2 ⟨q,hq,rfl⟩,by rw [Jcr]; exact hqp⟩
 ·intro n hn
  obtain ⟨m,hm,rfl⟩:=(hmem n).1 hn;rw [Jcr,JeL h.sorted hyes,Jex (Jcr x)];have:=h.kids m hm;unfold Jgm;split <;> exact this
theorem Jjz {s:Int} (hs0:s≠0):∀ (ps:List ByteArray) (l:List Node),GoodW z l ss->ps.Nodup->(∀ p∈ps,∃ n∈l,n.path=p)->(∀ n∈l,n.owner=s↔n.path∈ps)->
  GoodW z (ps.foldl (fun l p=>JcS l p z) l) ss/\(∀ n∈ps.foldl (fun l p=>JcS l p z) l,n.owner≠s/\∃ m∈l,m.path=n.path/\m.owner=n.owner)/\
   (∀ m∈l,m.owner≠s->∃ n∈ps.foldl (fun l p=>JcS l p z) l,n.path=m.path/\n.data=m.data/\n.version=m.version/\n.owner=m.owner)/\(ps.foldl (fun l p=>JcS l p z) l).length+ps.length=l.length
 | [],l,h,_,_,ho=>⟨h,fun n hn=>⟨fun e=>by simpa using (ho n hn).1 e,n,hn,rfl,rfl⟩,fun m hm _=>⟨m,hm,rfl,rfl,rfl,rfl⟩,rfl⟩
 | p :: ps,l,h,hnd,hp,ho=>by
  obtain ⟨x,hx,hxp⟩:=hp p qI1;have hxo:=(ho x hx).2 (by rw [hxp]; simp)
  have hxk:x.kids=0:=by
   rcases h.own x hx with h0 | h0
   ·exact absurd (hxo.symm.trans h0) hs0
   ·exact h0.2
  have hxs:x.path≠slash:=fun e=>hs0 (hxo.symm.trans (h.rootOf hx e))
  have hmem:=Jia h.sorted hx z;have hg:=JgF h hx hxs hxk;rw [zK6] at hnd;have ih:=Jjz hs0 ps (JcS l x.path z) hg hnd.2 (by
   intro q hq;obtain ⟨n,hn,hnq⟩:=hp q (by simp [hq])
   refine ⟨_,(hmem _).2 ⟨n,hn,?_,rfl⟩,by rw [Jam]; exact hnq⟩
   rw [hxp,hnq];exact fun e=>hnd.1 (e▸hq)) (by
   intro n hn;obtain ⟨m,hm,hmx,rfl⟩:=(hmem n).1 hn;rw [Jb5,Jam,ho m hm,zE2];constructor
   ·rintro (e | e)
    ·exact absurd (e.trans hxp.symm) hmx
    ·exact e
   ·exact .inr)
  obtain ⟨i1,i2,i3,i4⟩:=ih;have hlen:=JgH h.sorted hx z;rw [hxp] at i1 i2 i3 i4 hlen;rw [zJ3];refine ⟨i1,?_,?_,?_⟩
  ·intro n hn
   obtain ⟨a,m,hm,b,c⟩:=i2 n hn;rw [<-hxp] at hm;obtain ⟨m',hm',_,rfl⟩:=(hmem m).1 hm;rw [Jam] at b;rw [Jb5] at c;exact ⟨a,m',hm',b,c⟩
  ·intro m hm hmo
   have hmx:m.path≠x.path:=by
    intro e;rw [Jng h.sorted hm hx e] at hmo;exact hmo hxo
   obtain ⟨n,hn,a,b,c,d⟩:=i3 (JaX (JaH x.path) (-1) z m) (by rw [<-hxp]; exact (hmem _).2 ⟨m,hm,hmx,rfl⟩) (by rw [Jb5]; exact hmo)
   rw [Jam] at a;rw [Jey] at b;rw [Jg5] at c;rw [Jb5] at d;exact ⟨n,hn,a,b,c,d⟩
  ·rw [zD5]
   omega
theorem Jgo (hs:JaE l) (s:Int):(JaJ l s).Nodup:=by
 unfold JaJ;unfold List.Nodup;rw [zP7];exact (List.Pairwise.filter _ hs).imp (fun h=>Joc h)
theorem JeW {s:Int} {p:ByteArray}:p∈JaJ l s↔∃ n∈l,n.owner=s/\n.path=p:=by
 unfold JaJ;simp only [zL6,zL7,decide_eq_true_eq];constructor
 ·rintro ⟨n,⟨h1,h2⟩,h3⟩; exact ⟨n,h1,h2,h3⟩
 ·rintro ⟨n,h1,h2,h3⟩; exact ⟨n,⟨h1,h2⟩,h3⟩
theorem JmA (h:GoodW z l ss) {s:Int} (hs0:s≠0) :
  GoodW z (JfB l s z) ss/\(∀ n∈JfB l s z,n.owner≠s/\∃ m∈l,m.path=n.path/\m.owner=n.owner)/\
   (∀ m∈l,m.owner≠s->∃ n∈JfB l s z,n.path=m.path/\n.data=m.data/\n.version=m.version/\n.owner=m.owner)/\(JfB l s z).length+(JaJ l s).length=l.length:=by
 refine Jjz hs0 (JaJ l s) l h (Jgo h.sorted s) (fun p hp=>?_) (fun n hn=>?_)
 ·obtain ⟨n,hn,_,e⟩:=JeW.1 hp
  exact ⟨n,hn,e⟩
 ·rw [JeW]
  constructor
  ·intro e; exact ⟨n,hn,e,rfl⟩
  ·rintro ⟨m,hm,e,hp⟩
   rw [<-Jng h.sorted hm hn hp];exact e
end
end
section
open Go.RowKit Go.ChangeShapes Go.WideShapes Go.ChangeAt
theorem JfX (z:Int) (v:Value) (sa:Option Addr) (sn sc:Nat) (l:List Node) (p:ByteArray) (w:World) (h:Sl Jab 9 w v l) (hn:l.length<=140737488355328) :
  Calls Tryz.prog 108 #[.agg #[.int .i64 z,v,.slice sa sn sc],.string p] w fun e w'=>e=.returned (.tuple #[.int .i64 (posN l p),.bool (hasN l p)])/\Below w.heap.size w w':=by
 obtain ⟨A,c,rfl,h1,h2⟩:=h.form;have H:=zA0 h;clear h;unfold posN hasN;go_enter Tryz.func108,Tryz.ntmps108
 go_wp2_with (go_at_call 144; refine (bsfNode _ _ _ _ (H.out.alloc _) hn).mono ?_; rintro e w1 ⟨rfl,hb⟩; obtain ⟨ext,d,rfl⟩:=zA2 _ hb);go_ret2;exact ⟨rfl,zL⟩
theorem Jii {l:List Node} {p:ByteArray} (h:hasN l p=true):posN l p<l.length:=by
 unfold hasN isK at h;simp at h;exact h.1
theorem JkI {l:List Node} {p:ByteArray} (h:hasN l p=true):l[posN l p]?=some (getN l p):=by
 have hlt:=Jii h;unfold getN;rw [if_pos h,zE6,zA8 hlt];rfl
abbrev vNode (x:Node):Value:=.agg #[.string x.path,.string x.data,.int .i64 x.czxid,.int .i64 x.mzxid,.int .i64 x.pzxid,.int .i64 x.version,.int .i64 x.cversion,.int .i64 x.owner,.int .i64 x.kids]
theorem Jl4 (z:Int) (v:Value) (sa:Option Addr) (sn sc:Nat) (l:List Node) (p:ByteArray) (w:World) (h:Sl Jab 9 w v l) (hn:l.length<=140737488355328) :
  Calls Tryz.prog 78 #[.agg #[.int .i64 z,v,.slice sa sn sc],.string p] w fun e w'=>e=.returned (.tuple #[vNode (getN l p),.int .i64 (getE l p)])/\Below w.heap.size w w':=by
 obtain ⟨A,c,rfl,h1,h2⟩:=h.form;have H:=zA0 h;clear h;unfold getE;cases hk:hasN l p with
 | true=>
  have hlt:=Jii hk;obtain ⟨bk,off,rfl,hbw,c0,c1,c2,c3,c4,c5,c6,c7,c8⟩:=H.out.Node_at (JkI hk);rw [if_pos rfl];have hcall:=fun w' (hs:Sl Jab 9 w' (.slice (some ⟨bk,off,none⟩) l.length c) l)=>JfX z _ sa sn sc l p w' hs hn
  rw [hk] at hcall;generalize getN l p=x at *;generalize posN l p=q at *;have HC:=zA0 hcall;clear hcall hk;go_enter Tryz.func78,Tryz.ntmps78
  go_wp2_with (go_at_call 108; refine (HC.out _ (H.out.below zL)).mono ?_; rintro e w1 ⟨rfl,hb⟩; obtain ⟨ext,d,rfl⟩:=zA2 _ hb);refine zA1 (v:=.tuple #[vNode x,.int .i64 0]) (by simp [results,Tryz.results78,go_sem]) rfl ⟨rfl,zL⟩
 | false=>
  have hL:getN l p=Jgr:=by unfold getN; rw [hk]; rfl
  rw [hL,if_neg qI1];have hcall:=fun w' (hs:Sl Jab 9 w' (.slice A l.length c) l)=>JfX z _ sa sn sc l p w' hs hn
  rw [hk] at hcall;clear hk hL;generalize posN l p=q at *;have HC:=zA0 hcall;clear hcall;go_enter Tryz.func78,Tryz.ntmps78
  go_wp2_with (go_at_call 108; refine (HC.out _ (H.out.below zL)).mono ?_; rintro e w1 ⟨rfl,hb⟩; obtain ⟨ext,d,rfl⟩:=zA2 _ hb);refine zA1 (v:=.tuple #[vNode Jgr,.int .i64 7]) (by simp [results,Tryz.results78,go_sem]) rfl ⟨rfl,zL⟩
def TrIs (t:Tr) (w:World) (e:Ending) (w':World):Prop:=∃ A c A2 c2,e=.returned (.agg #[.int .i64 t.zxid,.slice A t.nodes.length c,.slice A2 t.sess.length c2])/\Ow Jab 9 75 w' w.heap.size (.slice A t.nodes.length c) t.nodes/\Ow cInt 1 3 w' w.heap.size (.slice A2 t.sess.length c2) t.sess/\Below w.heap.size w w'
theorem JeF (t:Tr) (v v2:Value) (w:World) (h:Sl Jab 9 w v t.nodes) (h2:Sl cInt 1 w v2 t.sess) (hn:t.nodes.length*88<=140737488355328) (hn2:t.sess.length*8<=140737488355328) :
  Calls Tryz.prog 133 #[.agg #[.int .i64 t.zxid,v,v2]] w (TrIs t w):=by
 obtain ⟨A,c,rfl,h1,h1b⟩:=h.form;obtain ⟨A2,c2,rfl,h3,h3b⟩:=h2.form;have H:=zA0 h;have H2:=zA0 h2;clear h h2;obtain ⟨z,l,ss⟩:=t;simp only at *;go_enter Tryz.func133,Tryz.ntmps133
 go_upto_region 1 with fail
 refine wp_region_noPanic ?_;refine zD8 qE1 (fun W hW=>?_)
 have cl0:W.cell? ⟨w.heap.size,0,none⟩=some (.int .i64 z):=qAE;have cl1:W.cell? ⟨w.heap.size,1,none⟩=some (.slice A l.length c):=qAE;have cl2:W.cell? ⟨w.heap.size,2,none⟩=some (.slice A2 ss.length c2):=qAE;have hnW:=zA0 (H.out.below (w':=W) qr0);have hsW:=zA0 (H2.out.below (w':=W) qr0);refine JaD (fun w'=>w'.cell? ⟨w.heap.size,0,none⟩=some (.int .i64 z)/\w'.cell? ⟨w.heap.size,1,none⟩=some (.slice A l.length c)/\w'.cell? ⟨w.heap.size,2,none⟩=some (.slice A2 ss.length c2)) (fun i=>i == 7 || i == 9) (by (try dsimp only); (refine ⟨?_,?_,?_⟩ <;> go_simp)) (fun hHeld=>?_)
 refine tpP 0 ?_;refine tpA 1 ?_;refine tpP 3 ?_;refine tpA 4 ?_;refine zB1 (rs:=[2]) qE1 qI1 ?_;refine zB4 qQ0 (fun K hK=>?_) zB2
 go_simp
 (go_at_call 163; (with_reducible refine (Jo5 _ _ _ (hnW.out.below zR) hn qs0).mono ?_); rintro e w1 ⟨A',c',rfl,hown,hb⟩; obtain ⟨ext,d,rfl⟩:=zA2 _ hb; have HO:=zA0 hown; clear hown hb)
 refine hK.out _ _ ?gT1_5 (fun hHeld=>?_)
 case gT1_5=>((try dsimp only); (refine ⟨?_,?_,?_⟩ <;> go_simp))
 clear hK K
 try simp only [Act.put,zA6,zA4,zA5]
 refine tpP 6 ?_;refine zB1 (rs:=[5]) qE1 qI1 ?_;refine zB4 qQ0 (fun K hK=>?_) zB2
 go_simp
 (go_at_call 164; (with_reducible refine (Jo6 _ _ _ (hsW.out.below zR) hn2 qs0).mono ?_); rintro e w3 ⟨A3,c3,rfl,hown3,hb3⟩; obtain ⟨ext3,d3,rfl⟩:=zA2 _ hb3; have HO3:=zA0 hown3; clear hown3 hb3; have hWW:=hW.out; subst hWW)
 refine hK.out _ _ ?gT1_7 (fun hHeld=>?_)
 case gT1_7=>((try dsimp only); (refine ⟨?_,?_,?_⟩ <;> go_simp))
 clear hK K
 try simp only [Act.put,zA6,zA4,zA5]
 refine zB1 (rs:=[7]) qE1 qI1 ?_;refine zC8 qQ0 qE1 (fun K hK=>?_) zB2
 go_simp;refine hK.out _ _ ?_;clear hK K
 try simp only [Act.put,zA6,zA4,zA5]
 refine tpQ 8 ?_;refine zB1 (rs:=[9]) qE1 qI1 ?_;refine zC8 qQ0 qE1 (fun K hK=>?_) zB2
 go_simp;refine hK.out _ _ ?_;clear hK K
 try simp only [Act.put,zA6,zA4,zA5]
 refine zC4 qE1 ?_ _;refine NoPanic.normal ?_;go_wp2_with fail;refine zA1 (v:=.agg #[.int .i64 z,.slice A' l.length c',.slice A3 ss.length c3]) (by simp [results,Tryz.results133,go_sem]) rfl ⟨A',c',A3,c3,rfl,?_,?_,zR⟩
 ·refine Ow.mono (Ow.moved (W':=?w9) (d':=?x9) HO.out (zA3 _) ?b9 ?z9) qy0
  case b9=>exact zR
  case z9=>simp
 ·refine Ow.mono (Ow.moved (W':=?w8) (d':=?x8) HO3.out (zA3 _) ?b8 ?z8) qy0
  case b8=>exact zR
  case z8=>simp
end
section
open Go.RowKit
theorem Sl.Int_at {w:World} {A:Option Addr} {n c:Nat} {l:List Int} (h:Sl cInt 1 w (.slice A n c) l) {i:Nat} {x:Int} (hx:l[i]?=some x):∃ b off,A=some ⟨b,off,none⟩/\b<w.heap.size/\w.cell? ⟨b,off+i,none⟩=some (.int .i64 x):=by
 obtain ⟨b,off,hA,hb,hc⟩:=h.at_ hx;have:=hc 0 (.int .i64 x) rfl;rw [show off+i*1+0=off+i from by omega] at this
 exact ⟨b,off,hA,hb,this⟩
theorem bsI (v:Value) (l:List Int) (s:Int) (w:World) (h:Sl cInt 1 w v l) (hn:l.length<=140737488355328) :
  Calls Tryz.prog 40 #[v,.int .i64 s] w fun e w'=>e=.returned (.tuple #[.int .i64 (posI l s),.bool (isI l s)])/\Below w.heap.size w w':=by
 obtain ⟨A,c,rfl,hc1,hc2⟩:=h.form;have H:=zA0 h;clear h;go_enter Tryz.func40,Tryz.ntmps40
 go_wp2;go_loopw [7,8] (fun i j wr=>∃ (a b:Nat),a<=b/\b<=l.length/\i=.int .i64 a/\j=.int .i64 b/\Hid (bsr (ltI l s) a b=posI l s)/\Below w.heap.size w wr) (fun i j _=>(intOf j - intOf i).toNat)
 case atStart=>exact ⟨0,l.length,zB9 _,zA3 _,rfl,rfl,(rfl:bsr (ltI l s) 0 l.length=posI l s),zB6 _ _⟩
 case round=>
  obtain ⟨a,b,hab,hbl,rfl,rfl,hr,hb⟩:=hrel
  by_cases hlt:a<b
  ·have hx:l[(a+b) / 2]?=some (l[(a+b) / 2]'qH1):=zA8 _
   obtain ⟨bk,off,rfl,hbw,c0⟩:=(H.out.below hb).Int_at hx;generalize hxe:l[(a+b) / 2]'qH1=x at hx c0;have HX:=zA0 hx;clear hx hxe
   by_cases hlt2:x<s
   ·have hd:decide (x<s)=true:=zB0 hlt2
    go_wp2_with (go_at_call 55; refine (Tryz.cmp_Less_int2 _ _ _).mono ?_; rintro e w1 ⟨rfl,rfl⟩; skip);have hcmp:=Jhm HX.out s;go_roundw
    case rel=>exact ⟨(a+b) / 2+1,b,by omega,by omega,by go_num,rfl,Eq.trans (JhL _ _ _ hlt (by rw [hcmp]; exact hd)).symm hr.out,zL⟩
    case measure=>simp [intOf]; omega
   ·have hd:decide (x<s)=false:=zA7 hlt2
    go_wp2_with (go_at_call 55; refine (Tryz.cmp_Less_int2 _ _ _).mono ?_; rintro e w1 ⟨rfl,rfl⟩; skip);have hcmp:=Jhm HX.out s;go_roundw
    case rel=>exact ⟨a,(a+b) / 2,by omega,by omega,rfl,by go_num,Eq.trans (Jd6 _ _ _ hlt (by rw [hcmp]; exact hd)).symm hr.out,zL⟩
    case measure=>simp [intOf]; omega
  ·obtain rfl:a=b:=by omega
   have hpos:posI l s=a:=by rw [<-hr.out]; exact JdO _ _ _ hlt
   have HP:=zA0 hpos;clear hpos hr
   by_cases han:a<l.length
   ·have hx:l[a]?=some (l[a]'qH1):=zA8 _
    obtain ⟨bk,off,rfl,hbw,c0⟩:=(H.out.below hb).Int_at hx;generalize hxe:l[a]'qH1=x at hx c0;have HX:=zA0 hx;clear hx hxe
    by_cases he:x=s
    ·subst he
     go_wp2_with (go_at_call 56; refine (Tryz.slices_isNaN_int2 _ _).mono ?_; rintro e w1 ⟨rfl,rfl⟩; skip);go_ret2;refine ⟨?_,zL⟩;rw [isI_in HP.out HX.out,HP.out];simp
    ·have hne:(x == s)=false:=zB7.2 he
     go_wp2_with (go_at_call 56; refine (Tryz.slices_isNaN_int2 _ _).mono ?_; rintro e w1 ⟨rfl,rfl⟩; skip);go_ret2;refine ⟨?_,zL⟩;rw [isI_in HP.out HX.out,HP.out,zA7 he];rfl
   ·go_wp2
    go_ret2;refine ⟨?_,zL⟩;rw [isI_out HP.out han,HP.out];rfl
theorem JiO (z:Int) (v2:Value) (na:Option Addr) (nn nc:Nat) (l:List Int) (s:Int) (w:World) (h:Sl cInt 1 w v2 l) (hn:l.length<=140737488355328) :
  Calls Tryz.prog 29 #[.agg #[.int .i64 z,.slice na nn nc,v2],.int .i64 s] w fun e w'=>e=.returned (.bool (isI l s))/\Below w.heap.size w w':=by
 obtain ⟨A,c,rfl,h1,h2⟩:=h.form;have H:=zA0 h;clear h;go_enter Tryz.func29,Tryz.ntmps29
 go_wp2_with (go_at_call 40; refine (bsI _ _ _ _ (H.out.alloc _) hn).mono ?_; rintro e w1 ⟨rfl,hb⟩; obtain ⟨ext,d,rfl⟩:=zA2 _ hb);go_ret;exact ⟨rfl,zL⟩
end
section
open Go.RowKit Go.Maps
def Cnt (w:World) (b n:Nat) (c:ByteArray->Int):Prop:=∃ D:DataW Unit,w.ownsMap Tryz.prog 9 (plainElem Tryz.prog 3) b n D/\∀ s:ByteArray,D.atKey (.string s.data.toList) (.lit (.int .i64 0))=.lit (.int .i64 (c s))
theorem Cnt.made (w:World):Cnt (w.alloc (.map #[] 0)) w.heap.size 0 (fun _=>0):=⟨.map [],World.ownsMap_made _ _ _ _,fun _=>rfl⟩
theorem Cnt.below {w w':World} {b n:Nat} {c:ByteArray->Int} (h:Cnt w b n c) (hb:Below w.heap.size w w'):Cnt w' b n c:=by
 obtain ⟨D,h,hc⟩:=h;have hlt:=h.lt;obtain ⟨es,clock,h1,F,hs,hD⟩:=h;exact ⟨D,⟨es,clock,(hb.block b hlt).trans h1,F,hs,hD⟩,hc⟩
theorem Jdc {w:World} {ops:Array Oper} {rest:List Oper} {o:Oper} {a:Act} {Q:Exit->Act->World->Prop} (hg:o.guard=none) (m x:Operand) (hop:o.op=Op.lookup 202 m x false) {b n:Nat} {c:ByteArray->Int}
  (hm:a.eval m=.map (some b)) (h:Cnt w b n c) (s:ByteArray) (hx:a.eval x=.string s) (hs:s.size<=maxLen) (hK:wpList Tryz.prog ops Q rest (a.put o.dst (.int .i64 (c s))) w):wpList Tryz.prog ops Q (o :: rest) a w:=by
 obtain ⟨D,ho,hc⟩:=h;refine wpList_lookup_own_int w hg m x _ hop 9 3 .i64 (string_keyed Tryz.underlying9) Tryz.underlying202 Tryz.underlying3 qE1 b n D hm ho _ _ hx (Go.WideMaps.keyOf_string_mk Tryz.underlying9 hs) ?_;intro q hq _;have e:=hq.symm.trans (hc s);injection e with e
 injection e with _ e
 subst e;exact hK
theorem JhQ {w:World} {ops:Array Oper} {rest:List Oper} {o:Oper} {a:Act} {Q:Exit->Act->World->Prop} (hg:o.guard=none) (m x v:Operand) (hop:o.op=Op.mapUpdate 202 m x v) {b n:Nat} {c:ByteArray->Int}
  (hm:a.eval m=.map (some b)) (h:Cnt w b n c) (hn:n<maxLen) (s:ByteArray) (hx:a.eval x=.string s) (hs:s.size<=maxLen) (q:Int) (hv:a.eval v=.int .i64 q) (hq:(Lit.int .i64 q).wf=true)
  (hK:∀ w',Cnt w' b (n+1) (fun z=>if z=s then q else c z)->w.grownBy w' (some b)->wpList Tryz.prog ops Q rest (a.put o.dst undef) w'):wpList Tryz.prog ops Q (o :: rest) a w:=by
 obtain ⟨D,ho,hc⟩:=h;refine wpList_mapUpdate_own w hg m x v _ hop 9 3 (string_keyed Tryz.underlying9) Tryz.underlying202 _ b n D hm ho hn _ _ _ hx hv (Go.WideMaps.keyOf_string_mk Tryz.underlying9 hs) _ [] (plainElem_int Tryz.underlying3 hq) ?_;intro w' ho' hg';refine hK w' ⟨_,ho',fun z=>?_⟩ hg'
 show (D.put (.string s.data.toList) (.lit (.int .i64 q))).atKey (.string z.data.toList) (.lit (.int .i64 0))=.lit (.int .i64 (if z=s then q else c z))
 by_cases hz:z=s
 ·subst hz
  rw [if_pos rfl,atKey_put_same ho.isMap (by trivial)]
 ·rw [if_neg hz,atKey_put_other (by intro e; injection e with e; exact hz (ByteArray.ext (zN7.1 e)))]
  exact hc z
end
end Go.Proofs.YtjnooagaghdkdaaGreatDoor
namespace Go.Proofs.YtjnooagaghdkdaaGreatDoor
open Go.RowKit Go.ChangeShapes Go.WideShapes Go.ChangeAt
end Go.Proofs.YtjnooagaghdkdaaGreatDoor
