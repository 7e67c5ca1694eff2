/-L-/
import Derived.Test.YtjnooagaghdkdaaGreatDoorZ29
import Derived.Test.YtjnooagaghdkdaaGreatDoorZ34
set_option maxHeartbeats 10000000
set_option maxRecDepth 100000
set_option linter.all false
namespace Go.Proofs.YtjnooagaghdkdaaGreatDoor
section
open Go.RowKit Go.ChangeShapes Go.WideShapes Go.ChangeAt
structure Cli where
 session:Int
 seen:Int
 cache:List Entry
abbrev noCl:Cli:=⟨0,0,[]⟩
structure Wd where
 srv:List Srv
 cl:List Cli
 lead:Int
 fol:List Bool
 dn:List Txn
 deeds:Nat
def Wd.s (σ:Wd) (i:Nat):Srv:=σ.srv.getD i JcQ
def Wd.c (σ:Wd) (i:Nat):Cli:=σ.cl.getD i noCl
def Wd.f (σ:Wd) (i:Nat):Bool:=σ.fol.getD i false
structure St where
 cz:Int
 mz:Int
 pz:Int
 ver:Int
 cver:Int
 own:Int
 kids:Int
abbrev st0:St:=⟨0,0,0,0,0,0,0⟩
def stOf (n:Node):St:=⟨n.czxid,n.mzxid,n.pzxid,n.version,n.cversion,n.owner,n.kids⟩
structure Rp where
 code:Int
 zxid:Int
 path:ByteArray
 data:ByteArray
 st:St
 notes:List Note
abbrev rp (c:Int):Rp:=⟨c,0,noB,noB,st0,[]⟩
instance:Nonempty Srv:=⟨JcQ⟩
noncomputable def JbU (id:Int) (f:List File):Srv:=Classical.epsilon (fun s=>∃ c,Jci id f s c)
noncomputable def Jg0 (id:Int) (f:List File):Int:=Classical.epsilon (fun c=>Jci id f (JbU id f) c)
theorem Jmi {f:List File} {l m:List Txn} {a b:List File} {c d:Int} (h:JdQ f l a c) (h2:JdQ f m b d):l=m/\a=b/\c=d:=by
 unfold JdQ at h h2;rcases h with ⟨h1,rfl,rfl,rfl⟩ | ⟨h1,h3,rfl,rfl,rfl⟩ | ⟨h1,rfl,n,h3,rfl⟩
 ·rcases h2 with ⟨_,rfl,rfl,rfl⟩ | ⟨e,_⟩ | ⟨e,_⟩
  ·exact ⟨rfl,rfl,rfl⟩
  ·exact absurd h1 e
  ·rw [h1] at e
   exact absurd e qG1
 ·rcases h2 with ⟨e,_⟩ | ⟨_,_,rfl,rfl,rfl⟩ | ⟨e,_⟩
  ·exact absurd e h1
  ·exact ⟨rfl,rfl,rfl⟩
  ·exact absurd e h3
 ·rcases h2 with ⟨e,_⟩ | ⟨_,e,_⟩ | ⟨_,rfl,k,h4,rfl⟩
  ·rw [h1] at e
   exact absurd e qG1
  ·exact absurd h1 e
  ·obtain ⟨rfl,rfl⟩:=Ji3 h3 h4
   exact ⟨rfl,rfl,rfl⟩
theorem JgZ {id:Int} {f:List File} {s t:Srv} {c d:Int} (h:Jci id f s c) (h2:Jci id f t d):s=t/\c=d:=by
 obtain ⟨l,a,r,h⟩:=h;obtain ⟨m,b,r2,h2⟩:=h2;obtain ⟨rfl,rfl,rfl⟩:=Jmi r r2;rcases h with ⟨h,rfl⟩ | ⟨h,rfl⟩
 ·rcases h2 with ⟨_,rfl⟩ | ⟨e,_⟩
  ·exact ⟨rfl,rfl⟩
  ·exact absurd h e
 ·rcases h2 with ⟨e,_⟩ | ⟨_,rfl⟩
  ·exact absurd e h
  ·exact ⟨rfl,rfl⟩
theorem Jiz {id:Int} {f:List File} {s:Srv} {c:Int} (h:Jci id f s c):JbU id f=s/\Jg0 id f=c:=by
 have h1:∃ c,Jci id f (JbU id f) c:=Classical.epsilon_spec (p:=fun s=>∃ c,Jci id f s c) ⟨s,c,h⟩
 obtain ⟨d,hd⟩:=h1;have h2:Jci id f (JbU id f) (Jg0 id f):=Classical.epsilon_spec (p:=fun c=>Jci id f (JbU id f) c) ⟨d,hd⟩
 exact JgZ h2 h
def Jay (σ:Wd):Wd:={ σ with lead:=-1,fol:=[false,false,false] }
def Jft (σ:Wd) (i:Nat) (keep:Int):Wd:={ σ with srv:=σ.srv.set i (JaQ (σ.s i) keep),fol:=σ.fol.set i false }
def JbI (σ:Wd) (i:Nat) (keep:Int):Wd × Rp:=
 if (σ.s i).up=false then (σ,rp 14)
 else if Jbh (σ.s i).disk keep≠0 then (σ,rp (Jbh (σ.s i).disk keep))
 else (if σ.lead=(i:Int) then Jay (Jft σ i keep) else Jft σ i keep,rp 0)
noncomputable def upW (σ:Wd) (i:Nat):Wd × Rp:=
 if (σ.s i).up=true then (σ,rp 8)
 else if Jg0 (i:Int) (σ.s i).disk≠0 then (σ,rp (Jg0 (i:Int) (σ.s i).disk))
 else ({ σ with srv:=σ.srv.set i (JbU (i:Int) (σ.s i).disk) },rp 0)
def Jf2 (ns:List Note) (c:Cli):Cli:={ c with cache:=JeI c.session c.cache ns }
def Jb1 (σ:Wd) (ns:List Note):Wd:={ σ with cl:=σ.cl.map (Jf2 ns) }
/-! a choice -/
def Jar (s:Srv):Peer:=⟨s.id,s.epoch,none,0,s.log,s.done_⟩
def upsW (σ:Wd):List Peer:=((σ.srv.filter Srv.up).map Jar)
abbrev Jmk:Peer:=⟨0,0,none,0,[],0⟩
noncomputable def Jfd (l:List Peer):Nat:=Classical.epsilon (fun k=>k<l.length/\Best l k)
theorem Jpp {a b:Peer} (h:JbK a b=true):JbK b a=false:=by
 unfold JbK at h ⊢;simp only [zJ0,zE1,decide_eq_true_eq] at h;simp only [zN5,zN6,decide_eq_false_iff_not];omega
theorem Jpj {l:List Peer} {a b:Nat} (ha:a<l.length) (hb:b<l.length) (h:Best l a) (h2:Best l b):a=b:=by
 by_cases e:a=b
 ·exact e
 ·have h3:=h b _ _ (fun k=>e k.symm) (zA8 ha) (zA8 hb)
  have h4:=h2 a _ _ e (zA8 hb) (zA8 ha);rw [Jpp h3] at h4;cases h4
theorem Jg1 {l:List Peer} {k:Nat} (hk:k<l.length) (h:Best l k):Jfd l=k:=by
 have:=Classical.epsilon_spec (p:=fun k=>k<l.length/\Best l k) ⟨k,hk,h⟩
 exact Jpj this.1 hk this.2 h
def comW (σ:Wd) (i:Nat) (s:Srv):Wd:={ σ with srv:=σ.srv.set i (JbJ s s.done_.toNat s.log.length) }
def folW (l:List Txn) (ep:Int) (r:Wd × List Note) (i:Nat):Wd × List Note:=
 let s:=folS (r.1.s i) l ep (l.length - comK l (r.1.s i).log)
 ({ comW r.1 i s with fol:=r.1.fol.set i true },r.2 ++ Ja2 s s.done_.toNat s.log.length)
def JbT (l:List Txn) (ep:Int):List Nat->Wd × List Note->Wd × List Note × Int
 | [],r=>(r.1,r.2,0)
 | i :: is,r=>if (r.1.s i).up=false then JbT l ep is r else if ((comK l (r.1.s i).log:Nat):Int)<(r.1.s i).done_ then (r.1,r.2,13) else JbT l ep is (folW l ep r i)
noncomputable def Ja7 (σ:Wd):Wd × Rp:=
 if (upsW σ).length<2 then (σ,rp 14)
 else
  let b:=(upsW σ).getD (Jfd (upsW σ)) Jmk
  let r:=JbT b.log (topE (upsW σ)+1) [0,1,2] (Jay σ,[])
  if r.2.2≠0 then (r.1,rp r.2.2)
  else (Jb1 { r.1 with lead:=b.id } r.2.1,{ rp 0 with zxid:=Jao b.log,notes:=r.2.1 })
/-! a write -/
def bitI (x:Int) (i:Nat):Bool:=decide (x / (2:Int) ^ i % 2≠0)
def Jcl (d:Deed) (x:Txn) (r:Wd × List Nat) (i:Nat):Wd × List Nat:=
 if r.1.f i=false then r
 else if decide ((i:Int)=r.1.lead) || !bitI d.lost i then
  let safe:=decide ((i:Int)=r.1.lead) || !bitI d.slow i
  ({ r.1 with fol:=r.1.fol.set i true,srv:=r.1.srv.set i (Jcm (r.1.s i) x safe) },if safe then r.2 ++ [i] else r.2)
 else ({ r.1 with fol:=r.1.fol.set i false },r.2)
def Jiw (r:Wd × List Note) (i:Nat):Wd × List Note:=(comW r.1 i (r.1.s i),r.2 ++ Ja2 (r.1.s i) (r.1.s i).done_.toNat (r.1.s i).log.length)
def JaM (σ:Wd) (who:Nat) (x:Txn) (hv:List Nat):Wd × Rp:=
 let r:=hv.foldl Jiw (σ,[])
 let σ2:=Jb1 { r.1 with dn:=r.1.dn ++ [x] } r.2
 ({ σ2 with cl:=σ2.cl.set who { σ2.c who with seen:=x.zxid } },⟨0,x.zxid,x.path,noB,stOf (getN (σ2.s σ2.lead.toNat).nodes x.path),r.2⟩)
def Jgh (σ:Wd) (d:Deed):Request:=⟨d.op,(σ.c d.client.toNat).session,d.path,d.data,d.version,d.flags⟩
def trOf (s:Srv):Tr:=⟨s.tz,s.nodes,s.sess⟩
def Jbg (σ:Wd) (d:Deed):Wd × Rp:=
 if d.client<0\/16<=d.client then (σ,rp 3)
 else if σ.lead<0 then (σ,rp 14)
 else
  let s:=σ.s σ.lead.toNat
  let z:=Jbj (Jar s)
  if z.2≠0 then (σ,rp z.2)
  else if Jbi (trOf s) z.1 (Jgh σ d)≠0 then (σ,rp (Jbi (trOf s) z.1 (Jgh σ d)))
  else
   let x:=JaS (trOf s) z.1 (Jgh σ d)
   let r:=[0,1,2].foldl (Jcl d x) (σ,[])
   if r.2.length<2 then (Jay r.1,{ rp 16 with zxid:=x.zxid })
   else JaM r.1 d.client.toNat x r.2
/-! a read -/
def JcY (σ:Wd) (d:Deed):Wd × Rp:=
 if d.client<0\/16<=d.client\/d.server<0\/3<=d.server then (σ,rp 3)
 else
  let i:=d.server.toNat
  let k:=d.client.toNat
  let s:=σ.s i
  let c:=σ.c k
  if s.up=false then (σ,rp 14)
  else if s.tz<c.seen then (σ,rp 15)
  else
   let n:=getN s.nodes d.path
   let r:Rp:=⟨getE s.nodes d.path,s.tz,n.path,n.data,stOf n,[]⟩
   if d.watch then
    let wt:Watch:=⟨c.session,1,d.path⟩
    if addE s.watches wt≠0 then (σ,rp (addE s.watches wt))
    else ({ σ with srv:=σ.srv.set i { s with watches:=addL s.watches wt },cl:=σ.cl.set k ⟨c.session,s.tz,JeZ c.cache ⟨d.path,n.data,decide (getE s.nodes d.path=0)⟩⟩ },r)
   else ({ σ with cl:=σ.cl.set k ⟨c.session,s.tz,c.cache⟩ },r)
noncomputable def doW (σ:Wd) (d:Deed):Wd × Rp:=
 if 300<=σ.deeds then (σ,rp 6)
 else
  let τ:={ σ with deeds:=σ.deeds+1 }
  if d.kind=1 then Jbg τ d
  else if d.kind=2 then JcY τ d
  else if d.kind=5 then Ja7 τ
  else if d.kind=3\/d.kind=4 then
   (if d.server<0\/3<=d.server then (τ,rp 3) else if d.kind=4 then upW τ d.server.toNat else JbI τ d.server.toNat d.keep)
  else (τ,rp 4)
def srv0 (i:Nat):Srv:=⟨true,dskB none noB noB,i,0,[],0,0,[rootN],[],[]⟩
def newW:Wd:=⟨[srv0 0,srv0 1,srv0 2],(List.range 16).map (fun i:Nat=>⟨(i:Int)+1,0,[]⟩),-1,[false,false,false],[],0⟩
/-! logs within the list of all transactions that ever were -/
theorem Ja0 {m r:List Txn} (h:LogP r) (hs:m.Sublist r):LogP m:=
 ⟨⟨fun t ht=>h.1.1 t (hs.subset ht),h.1.2.sublist hs⟩,fun t ht=>h.2 t (hs.subset ht)⟩
theorem Jk7 {m r:List Txn} (hs:m.Sublist r) (k:Nat):(m.take k).Sublist r:=(List.take_sublist k m).trans hs
theorem JnM {r:List Txn} (h:LogP r) {x y:Txn} (hx:x∈r) (hy:y∈r) (e:x.zxid=y.zxid):x=y:=by
 obtain ⟨i,hi⟩:=zJ8 hx;obtain ⟨j,hj⟩:=zJ8 hy;rcases zO4 i j with hl | rfl | hl
 ·have:=Jca h hl hi hj
  omega
 ·rw [hi] at hj
  injection hj
 ·have:=Jca h hl hj hi
  omega
theorem Jix {r:List Txn} (h:LogP r):∀ {l m:List Txn},l.Sublist r->m.Sublist r->m.take (comK l m)=l.take (comK l m)
 | [],m,_,_=>by simp [comK]
 | _ :: _,[],_,_=>by simp [comK]
 | x :: a,y :: b,hl,hm=>by
  unfold comK
  by_cases e:x.zxid=y.zxid
  ·rw [if_pos e,zP2,zP2,Jix h ((List.sublist_cons_self _ _).trans hl) ((List.sublist_cons_self _ _).trans hm),JnM h (hl.subset zF5) (hm.subset zF5) e]
  ·rw [if_neg e]
   rfl
theorem Jin {r l m:List Txn} (h:LogP r) (hl:l.Sublist r) (hm:m.Sublist r):folA l m=l:=by
 rw [folA_eq,Jix h hl hm,zD7]
theorem Jer {r:List Txn} (h:LogP r) {x:Txn} (hx:x∈r):x.zxid<=Jao r:=by
 obtain ⟨i,hi⟩:=zJ8 hx;obtain ⟨hk,_⟩:=zB3.1 hi;have hn:r[r.length - 1]?=some (r[r.length - 1]'qH1):=zA8 _;rw [Jlu (m:=r.length - 1) qH1 hn];rcases zD1 i (r.length - 1) with hl | hl
 ·exact Int.le_of_lt (Jca h hl hi hn)
 ·have:i=r.length - 1:=by omega
  subst this;rw [hi] at hn;injection hn with hn
  rw [hn];exact zD6 _
theorem Jcx {r:List Txn} (h:LogP r):0<=Jao r:=by
 by_cases h0:r=[]
 ·rw [h0,Jcb]
  exact zD6 _
 ·obtain ⟨x,hx,e⟩:=JbW h0
  have:=h.2 x hx;omega
theorem Jlt {m r:List Txn} (h:LogP r) (hs:m.Sublist r):Jao m<=Jao r:=by
 by_cases h0:m=[]
 ·rw [h0,Jcb]
  exact Jcx h
 ·obtain ⟨x,hx,e⟩:=JbW h0
  rw [e];exact Jer h (hs.subset hx)
theorem JdD {r:List Txn} {x:Txn} (h:LogP r) (hg:Jat x=0) (hz:Jao r<x.zxid):LogP (r ++ [x]):=by
 refine ⟨Jhn h.1 hg (.inr hz),fun t ht=>?_⟩
 rcases zE7.1 ht with ht | ht
 ·exact h.2 t ht
 ·rw [zE3.1 ht]
  have:=Jcx h;omega
theorem JeP {m r:List Txn} (h:LogP r) (hs:m.Sublist r) (hn:r.length<=301):(recs m).length<=310331:=by
 have h1:=(JdW (Ja0 h hs).1.1).1;have h2:=hs.length_le;have h3:m.length*1031<=301*1031:=zL1 _ qH1;omega
structure LogIn (Reg m:List Txn):Prop where
 sub:m.Sublist Reg
 run:JcU newTr m
theorem LogIn.more {Reg m:List Txn} (h:LogIn Reg m) (x:Txn):LogIn (Reg ++ [x]) m:=⟨h.sub.trans (zQ3 _ _),h.run⟩
theorem LogIn.take {Reg m:List Txn} (h:LogIn Reg m) (k:Nat):LogIn Reg (m.take k):=⟨Jk7 h.sub k,JeS m newTr k h.run⟩
theorem LogIn.snoc {Reg m:List Txn} (h:LogIn Reg m) {x:Txn} (hx:Jaz (runT newTr m) x=0):LogIn (Reg ++ [x]) (m ++ [x]):=
 ⟨h.sub.append (List.Sublist.refl _),Jfq m newTr x h.run hx⟩
/-! what a torn log is -/
theorem JfZ:∀ (m:List Txn) (p:List Txn) (k:Nat),(∀ t∈m,Jat t=0)->∃ j rest,(recs m).take k=recs (m.take j) ++ rest/\JcA (p ++ m.take j) rest
 | [],p,k,_=>⟨0,[],by simp [recs],by simpa using JcZ p⟩
 | t :: m,p,k,hg=>by
  rw [Jb9];rcases zD1 k (recT t).length with hk | hk
  ·refine ⟨0,(recT t).take k,?_,?_⟩
   ·rw [zK5 (zG5 hk)]
    rfl
   ·rw [zP0,zE9]
    exact Jmm (hg t zF5) p hk
  ·obtain ⟨j,rest,e,hn⟩:=JfZ m (p ++ [t]) (k - (recT t).length) (fun x hx=>hg x (zF2 _ hx))
   refine ⟨j+1,rest,?_,?_⟩
   ·rw [List.take_append,zG4 hk,e,zP2,Jb9,zC0]
   ·rw [zP2]
    simpa using hn
/-! the epoch on a disk -/
def EpQ (q:Option (ByteArray × ByteArray)) (ep:Int):Prop:=(q=none/\ep=0)\/(q=some (epT ep,noB)/\Half ep)
theorem EpQ.size {q:Option (ByteArray × ByteArray)} {ep:Int} (h:EpQ q ep):Jdv q<=1048576:=by
 rcases h with ⟨rfl,_⟩ | ⟨rfl,h⟩
 ·exact zB9 _
 ·have:=JfN h
  show _+0<=_;omega
theorem EpQ.safe {q:Option (ByteArray × ByteArray)} {ep:Int} (h:EpQ q ep):qsafe q:=by
 rcases h with ⟨rfl,_⟩ | ⟨rfl,h⟩
 ·trivial
 ·rfl
theorem EpQ.half {q:Option (ByteArray × ByteArray)} {ep:Int} (h:EpQ q ep):Half ep:=by
 rcases h with ⟨_,rfl⟩ | ⟨_,h⟩
 ·exact ⟨by decide,by decide⟩
 ·exact h
theorem EpQ.is {q:Option (ByteArray × ByteArray)} {ep:Int} (h:EpQ q ep) {A B:ByteArray} (hz:A.size+B.size<=1048576):Jce (dskB q A B)=ep:=by
 rcases h with ⟨rfl,rfl⟩ | ⟨rfl,hep⟩
 ·exact JhD (by rw [JoA hz]; decide)
 ·have hs:=JfN hep
  have hr:=Jip (s:=epT ep) (t:=noB) (a:=A) (b:=B) (by show _+0<=_; omega) hz
  unfold Jce;rw [if_pos hr.1,hr.2,Jcj,JnO (by unfold Half at hep; unfold Zx; omega),if_pos rfl]
  unfold Jbp;unfold Half at hep;rw [if_pos qv0];simp only;omega
/-! a server -/
structure UpIn (Reg:List Txn) (K i:Nat) (s:Srv):Prop where
 up:s.up=true
 id:s.id=(i:Int)
 lg:LogIn Reg s.log
 dk:∃ q m1 m2,s.disk=dskB q (bS (recs m1)) (bS (recs m2))/\s.log=m1 ++ m2/\EpQ q s.epoch
 dn:∃ d:Nat,s.done_=(d:Int)/\d<=s.log.length/\trOf s=runT newTr (s.log.take d)
 wt:∀ x∈s.watches,Jaw x.path=true/\x.kind=1/\1<=x.session/\x.session<=16
 wl:s.watches.length<=K
structure DownIn (Reg:List Txn) (i:Nat) (s:Srv):Prop where
 eq:s=⟨false,s.disk,(i:Int),0,[],0,0,[rootN],[],[]⟩
 dk:∃ q ep m rest,s.disk=dskB q (bS (recs m ++ rest)) noB/\EpQ q ep/\JcA m rest/\(recs m ++ rest).length<=1048576/\LogIn Reg m
def epOf (s:Srv):Int:=Jce s.disk
section
variable {Reg:List Txn} {K i:Nat} {s:Srv}
theorem UpIn.more (h:UpIn Reg K i s) (x:Txn):UpIn (Reg ++ [x]) K i s:={ h with lg:=h.lg.more x }
theorem UpIn.mono (h:UpIn Reg K i s) {K':Nat} (hk:K<=K'):UpIn Reg K' i s:={ h with wl:=zB5 h.wl hk }
theorem DownIn.more (h:DownIn Reg i s) (x:Txn):DownIn (Reg ++ [x]) i s:=
 ⟨h.eq,by obtain ⟨q,ep,m,rest,h1,h2,h3,h4,h5⟩:=h.dk; exact ⟨q,ep,m,rest,h1,h2,h3,h4,h5.more x⟩⟩
theorem Jd7 {a b:List UInt8}:(bS a).size+(bS b).size=(a ++ b).length:=by rw [JaN,JaN,zA9]
theorem UpIn.size (h:UpIn Reg K i s) (hr:LogP Reg) (hn:Reg.length<=301) {m1 m2:List Txn} (e:s.log=m1 ++ m2):(bS (recs m1)).size+(bS (recs m2)).size<=310331:=by
 rw [Jd7,<-JaR,<-e];exact JeP hr h.lg.sub hn
theorem UpIn.ep (h:UpIn Reg K i s) (hr:LogP Reg) (hn:Reg.length<=301):epOf s=s.epoch/\Half s.epoch:=by
 obtain ⟨q,m1,m2,e,hl,hq⟩:=h.dk;unfold epOf;rw [e];exact ⟨hq.is (zB5 (h.size hr hn hl) qG1),hq.half⟩
theorem UpIn.ok (h:UpIn Reg K i s) (hr:LogP Reg) (hn:Reg.length<=301):∃ q A B,SrvOk s q A B:=by
 obtain ⟨q,m1,m2,e,hl,hq⟩:=h.dk;refine ⟨q,_,_,e,hq.size,?_,Ja0 hr h.lg.sub,zB5 h.lg.sub.length_le qH1⟩;rw [Jas,Jb2,Jb2,<-JaR,hl]
theorem UpIn.crash (h:UpIn Reg K i s) (hr:LogP Reg) (hn:Reg.length<=301) {keep:Int} (hk:0<=keep):Jbh s.disk keep=0/\DownIn Reg i (JaQ s keep)/\epOf (JaQ s keep)=epOf s:=by
 obtain ⟨n,rfl⟩:=zG8 hk;obtain ⟨q,m1,m2,e,hl,hq⟩:=h.dk;have hz:=h.size hr hn hl;have hc:=Jd1 hq.size hq.safe (zB5 hz qG1) n;rw [<-e] at hc;have hlm:=Ja0 hr h.lg.sub;obtain ⟨j,rest,t1,t2⟩:=JfZ m2 m1 (min n (bS (recs m2)).size) (fun t ht=>hlm.1.1 t (by rw [hl]; exact zM6 _ ht))
 have hd:bS (recs m1) ++ (bS (recs m2)).extract 0 (min n (bS (recs m2)).size)=bS (recs (m1 ++ m2.take j) ++ rest):=by
  apply Jbs;have e1:bs ((bS (recs m2)).extract 0 (min n (bS (recs m2)).size))=(recs m2).take (min n (bS (recs m2)).size):=by rw [JaC,zJ1,Jb2]
  have e2:bs (bS (recs m1) ++ (bS (recs m2)).extract 0 (min n (bS (recs m2)).size))=bs (bS (recs m1)) ++ bs ((bS (recs m2)).extract 0 (min n (bS (recs m2)).size)):=Jas _ _;rw [e2,e1,Jb2,Jb2,t1,JaR,zC0]
 have hlen:(recs (m1 ++ m2.take j) ++ rest).length<=310331:=by
  rw [JaR,zC0,<-t1,zA9];rw [Jd7,zA9] at hz;have h1:((recs m2).take (min n (bS (recs m2)).size)).length<=(recs m2).length:=by rw [zC2]; exact Nat.min_le_right _ _
  omega
 have hcs:JaQ s (n:Int)=⟨false,dskB q (bS (recs (m1 ++ m2.take j) ++ rest)) noB,s.id,0,[],0,0,[rootN],[],[]⟩:=by
  unfold JaQ;rw [if_pos hc.1,hc.2,hd]
 refine ⟨hc.1,?_,?_⟩
 ·rw [hcs,h.id]
  refine ⟨rfl,q,s.epoch,m1 ++ m2.take j,rest,rfl,hq,t2,zB5 hlen qG1,?_⟩;have hp:m1 ++ m2.take j=s.log.take (m1.length+j):=by rw [hl,List.take_length_add_append]
  rw [hp];exact h.lg.take _
 ·rw [hcs]
  unfold epOf;rw [e,hq.is (zB5 hz qG1)];exact hq.is qX0
theorem JjW {f:List File} {keep:Int} (hk:keep<0):Jbh f keep≠0:=by
 unfold Jbh;rw [if_pos hk];split <;> decide
theorem DownIn.boot (h:DownIn Reg i s) (hr:LogP Reg) (hn:Reg.length<=301):Jg0 (i:Int) s.disk=0/\UpIn Reg 0 i (JbU (i:Int) s.disk)/\epOf (JbU (i:Int) s.disk)=epOf s/\Jci (i:Int) s.disk (JbU (i:Int) s.disk) 0:=by
 obtain ⟨q,ep,m,rest,e,hq,hx,hz,hl⟩:=h.dk;have hlm:=Ja0 hr hl.sub;have hz0:(bS (recs m ++ rest)).size+noB.size<=1048576:=by
  rw [JaN];show _+0<=_;omega
 have hrd:=Jcf (q:=q) hq.size hz0;have hzm:(recs m).length<=1048576:=by
  rw [zA9] at hz;omega
 have hct:=Je8 (q:=q) hq.size hz0 (n:=(recs m).length) (by rw [Jcj,JaN,zA9]; omega)
 have hrec:JdQ s.disk m (dskB q (bS (recs m)) noB) 0:=by
  rw [e];refine .inr (.inr ⟨hrd.1,rfl,(recs m).length,?_,?_⟩)
  ·rw [hrd.2,Jcj,Jb2]
   exact JhY hlm.1 hx
  ·rw [hct.2]
   congr 1;apply Jbs;rw [JaC,zJ1,Jcj,Jb2,Jb2,zH2]
 have hep:Jce s.disk=ep:=by
  rw [e];exact hq.is hz0
 have hb:Jci (i:Int) s.disk ⟨true,dskB q (bS (recs m)) noB,(i:Int),Jce s.disk,m,0,0,[rootN],[],[]⟩ 0:=⟨m,_,hrec,.inl ⟨rfl,rfl⟩⟩;obtain ⟨b1,b2⟩:=Jiz hb;rw [b1,b2];refine ⟨rfl,⟨rfl,rfl,hl,⟨q,m,[],rfl,(zE9 m).symm,?_⟩,⟨0,rfl,zB9 _,rfl⟩,(fun x hx=>absurd hx qI1),zA3 _⟩,?_,hb⟩
 ·rw [hep]
  exact hq
 ·unfold epOf
  rw [hep];exact hq.is qX0
theorem app_no {q:Option (ByteArray × ByteArray)} {m1 m2:List Txn} {t:Txn} (hq:Jdv q<=1048576) (ht:Jat t=0) (h:(recs (m1 ++ m2 ++ [t])).length<=1048576) :
  appE (dskB q (bS (recs m1)) (bS (recs m2))) t false=0/\appL (dskB q (bS (recs m1)) (bS (recs m2))) t false=dskB q (bS (recs m1)) (bS (recs (m2 ++ [t])))/\
  appE (dskB q (bS (recs m1)) (bS (recs m2))) t true=0/\appL (dskB q (bS (recs m1)) (bS (recs m2))) t true=dskB q (bS (recs (m1 ++ m2 ++ [t]))) (bS (recs [])):=by
 have he:encR t=bS (recT t):=if_pos ht;rw [JaR,Jdf,zA9,JaR,zA9] at h;have hw:=JhG (q:=q) (a:=bS (recs m1)) (b:=bS (recs m2)) (s:=bS (recT t)) hq (by rw [JaN,JaN,JaN]; exact h)
 have hz:(bS (recs m1)).size+(bS (recs m2) ++ bS (recT t)).size<=1048576:=by
  rw [zI3,JaN,JaN,JaN];omega
 unfold appL appE;simp only [if_pos ht,he,hw.1,hw.2,JjM hq hz,(Jcf hq hz).1];refine ⟨by simp,?_,by simp,?_⟩
 ·simp only [zC7,and_false,if_false]
  rw [Ji9]
 ·simp only [and_self,if_true]
  congr 1;apply Jbs;simp only [Jas,Jb2,JaR,Jdf,zC0]
theorem UpIn.take (h:UpIn Reg K i s) (hr:LogP Reg) (hn:Reg.length<=300) {x:Txn} (hg:Jat x=0) (hz:Jao Reg<x.zxid) (hx:Jaz (runT newTr s.log) x=0) (safe:Bool) :
  JiV s x safe=0/\Jcm s x safe={ s with disk:=appL s.disk x safe,log:=s.log ++ [x] }/\UpIn (Reg ++ [x]) K i (Jcm s x safe)/\epOf (Jcm s x safe)=epOf s:=by
 obtain ⟨q,m1,m2,e,hl,hq⟩:=h.dk;have hr2:=JdD hr hg hz;have hin:LogIn (Reg ++ [x]) (s.log ++ [x]):=h.lg.snoc hx;have hzz:=JeP hr2 hin.sub qB1;rw [hl] at hzz;obtain ⟨a1,a2,a3,a4⟩:=app_no (q:=q) hq.size hg (zB5 hzz qG1);rw [<-e] at a1 a2 a3 a4;have hlt:¬ x.zxid<=Jao s.log:=by
  have:=Jlt hr h.lg.sub;omega
 have hE:JiV s x safe=0:=by
  unfold JiV;rw [if_neg hlt];cases safe
  ·exact a1
  ·exact a3
 have hS:Jcm s x safe={ s with disk:=appL s.disk x safe,log:=s.log ++ [x] }:=if_pos hE
 have hzl:=h.size hr qH1 hl;refine ⟨hE,hS,?_,?_⟩
 ·rw [hS]
  refine ⟨h.up,h.id,hin,?_,?_,h.wt,h.wl⟩
  ·cases safe
   ·exact ⟨q,m1,m2 ++ [x],a2,by simp [hl],hq⟩
   ·exact ⟨q,m1 ++ m2 ++ [x],[],a4,by simp [hl],hq⟩
  ·obtain ⟨d,d1,d2,d3⟩:=h.dn
   refine ⟨d,d1,by simp; omega,?_⟩
   show trOf s=_;rw [d3,zK5 d2]
 ·rw [hS]
  unfold epOf;rw [e,hq.is (zB5 hzl qG1)];have hz1:(recs (m1 ++ m2 ++ [x])).length<=1048576:=zB5 hzz qG1;cases safe
  ·rw [<-e]
   show Jce (appL s.disk x false)=_;rw [a2];refine hq.is ?_;rw [Jd7,<-JaR,<-zC0];exact hz1
  ·rw [<-e]
   show Jce (appL s.disk x true)=_;rw [a4];refine hq.is ?_;rw [Jd7,<-JaR,zE9];exact hz1
theorem UpIn.fol (h:UpIn Reg K i s) (hr:LogP Reg) (hn:Reg.length<=301) {l:List Txn} (hl:LogIn Reg l) {ep:Int} (hep:Half ep) (hd:s.done_<=(comK l s.log:Nat)) :
  folS s l ep (l.length - comK l s.log)={ s with disk:=dskB (some (epT ep,noB)) (bS (recs l)) noB,epoch:=ep,log:=l }/\UpIn Reg K i (folS s l ep (l.length - comK l s.log))/\epOf (folS s l ep (l.length - comK l s.log))=ep:=by
 have hA:folM l s.log (l.length - comK l s.log)=l:=Jin hr hl.sub h.lg.sub;have hS:folS s l ep (l.length - comK l s.log)={ s with disk:=dskB (some (epT ep,noB)) (bS (recs l)) noB,epoch:=ep,log:=l }:=by
  unfold folS;rw [hA]
 have hz:=JeP hr hl.sub hn;have hq:EpQ (some (epT ep,noB)) ep:=.inr ⟨rfl,hep⟩;refine ⟨hS,?_,?_⟩
 ·rw [hS]
  refine ⟨h.up,h.id,hl,⟨_,l,[],rfl,(zE9 l).symm,hq⟩,?_,h.wt,h.wl⟩;obtain ⟨d,d1,d2,d3⟩:=h.dn;have hc:=(JdI l s.log).1;have hdk:d<=comK l s.log:=qCE;refine ⟨d,d1,by simp only; omega,?_⟩
  show trOf s=_;have hs:=Jix hr hl.sub h.lg.sub;rw [d3];show runT newTr (s.log.take d)=runT newTr (l.take d);have e1:s.log.take d=(s.log.take (comK l s.log)).take d:=by rw [zN9,zF8 hdk]
  rw [e1,hs,zN9,zF8 hdk]
 ·rw [hS]
  exact hq.is qX0
theorem kept_sub (e:Event) (l:List Watch):(Jbb e l).Sublist l:=by
 unfold Jbb;exact List.filter_sublist
theorem Jio:∀ (evs:List Event) (s:List Note × List Watch),((evs.foldl (fun s e=>(s.1 ++ JaI e s.2,Jbb e s.2)) s).2).Sublist s.2
 | [],_=>List.Sublist.refl _
 | e :: evs,s=>(Jio evs _).trans (kept_sub e s.2)
theorem comS_sub (s:Tr × List Watch × List Note) (x:Txn):(comS s x).2.1.Sublist s.2.1:=by
 unfold comS;simp only;split
 ·exact List.filter_sublist.trans (Jio _ _)
 ·exact Jio _ _
theorem JlQ:∀ (m:List Txn) (s:Tr × List Watch × List Note),(comL s m).2.1.Sublist s.2.1
 | [],_=>List.Sublist.refl _
 | x :: m,s=>(JlQ m (comS s x)).trans (comS_sub s x)
theorem run_good {m:List Txn} (h:JcU newTr m):Jan (runT newTr m)=true:=Jhk m newTr Jll h
theorem JjA {m:List Txn} {r:List Txn} (hr:LogP r) (hs:m.Sublist r):∀ x∈m,Jat x=0:=(Ja0 hr hs).1.1
theorem UpIn.com (h:UpIn Reg K i s):s.done_=(s.done_.toNat:Int)/\s.done_.toNat<=s.log.length/\Jan (trOf s)=true/\JcU (trOf s) (segL s.log s.done_.toNat s.log.length)/\UpIn Reg K i (JbJ s s.done_.toNat s.log.length)/\
  epOf (JbJ s s.done_.toNat s.log.length)=epOf s/\(JbJ s s.done_.toNat s.log.length).log=s.log/\(JbJ s s.done_.toNat s.log.length).epoch=s.epoch/\(JbJ s s.done_.toNat s.log.length).done_=(s.log.length:Nat)/\trOf (JbJ s s.done_.toNat s.log.length)=runT newTr s.log:=by
 obtain ⟨d,d1,d2,d3⟩:=h.dn;have hd:s.done_.toNat=d:=qCE;rw [hd];have hseg:segL s.log d s.log.length=s.log.drop d:=by
  unfold segL;rw [zG4 qI1]
 have hT:trOf (JbJ s d s.log.length)=runT newTr s.log:=by
  have:trOf (JbJ s d s.log.length)=(comL (trOf s,s.watches,[]) (segL s.log d s.log.length)).1:=rfl;rw [this,JgV,hseg,d3];unfold runT;rw [<-zI2,zD7]
 refine ⟨d1,d2,?_,?_,?_,rfl,rfl,rfl,rfl,hT⟩
 ·rw [d3]
  exact run_good (JeS _ _ _ h.lg.run)
 ·rw [d3,hseg]
  exact Jjd _ _ _ h.lg.run
 ·refine ⟨h.up,h.id,h.lg,h.dk,⟨s.log.length,rfl,zA3 _,?_⟩,?_,?_⟩
  ·rw [hT]
   show _=runT newTr (s.log.take s.log.length);rw [zG1]
  ·intro x hx
   exact h.wt x ((JlQ (segL s.log d s.log.length) (trOf s,s.watches,[])).subset hx)
  ·have:=JfP (segL s.log d s.log.length) (trOf s,s.watches,[])
   have h2:=h.wl;show ((comL (trOf s,s.watches,[]) (segL s.log d s.log.length)).2.1).length<=K;simp only [zG6] at this;omega
end
structure LeadIn (Reg:List Txn) (E:Int) (σ:Wd) (l:Nat):Prop where
 lt:l<3
 fl:σ.f l=true
 all:∀ x∈Reg,E*2147483648<x.zxid->x∈(σ.s l).log
 same:∀ j,j<3->σ.f j=true->(σ.s j).up=true/\(σ.s j).epoch=E/\(σ.s j).log=(σ.s l).log
structure ClIn (Reg:List Txn) (K i:Nat) (c:Cli):Prop where
 se:c.session=(i:Int)+1
 s0:0<=c.seen
 s1:c.seen<=Jao Reg
 so:JbO c.cache
 len:c.cache.length<=K
structure Inv0 (Reg:List Txn) (E:Int) (K:Nat) (σ:Wd):Prop where
 n3:σ.srv.length=3
 f3:σ.fol.length=3
 c16:σ.cl.length=16
 reg:LogP Reg
 len:Reg.length<=K
 k300:K<=300
 srv:∀ i,i<3->UpIn Reg K i (σ.s i)\/DownIn Reg i (σ.s i)
 cl:∀ i,i<16->ClIn Reg K i (σ.c i)
 rep:∀ x∈Reg,x.zxid<(E+1)*2147483648
 e0:0<=E
 two:∃ i j,i<j/\j<3/\E<=epOf (σ.s i)/\E<=epOf (σ.s j)
 epK:∀ i,i<3->epOf (σ.s i)<=K
 dn:σ.dn.Sublist Reg
structure Inv (Reg:List Txn) (E:Int) (K:Nat) (σ:Wd):Prop extends Inv0 Reg E K σ where
 lead:σ.lead = -1\/∃ l:Nat,σ.lead=(l:Int)/\LeadIn Reg E σ l/\(σ.s l).done_=((σ.s l).log.length:Nat)
section
variable {Reg:List Txn} {E:Int} {K:Nat} {σ τ:Wd}
theorem ClIn.mono {i:Nat} {c:Cli} (h:ClIn Reg K i c) {K':Nat} (hk:K<=K'):ClIn Reg K' i c:={ h with len:=zB5 h.len hk }
theorem Inv0.mono (h:Inv0 Reg E K σ) {K':Nat} (hk:K<=K') (h3:K'<=300):Inv0 Reg E K' σ:=
 { h with
  len:=zB5 h.len hk
  k300:=h3
  srv:=fun i hi=>(h.srv i hi).imp (fun u=>u.mono hk) id
  cl:=fun i hi=>(h.cl i hi).mono hk
  epK:=fun i hi=>by have:=h.epK i hi; omega }
theorem Inv.mono (h:Inv Reg E K σ) {K':Nat} (hk:K<=K') (h3:K'<=300):Inv Reg E K' σ:=⟨h.toInv0.mono hk h3,h.lead⟩
theorem Inv0.small (h:Inv0 Reg E K σ):Reg.length<=301:=by
 have h1:=h.len;have h2:=h.k300;omega
/-! lists by number -/
theorem Jd0 {α:Type} (l:List α) (i j:Nat) (x d:α):(l.set i x).getD j d=if i=j/\i<l.length then x else l.getD j d:=by
 rw [zE6,zK4,zE6]
 by_cases e:i=j
 ·subst e
  by_cases h:i<l.length
  ·simp [h]
  ·simp [h]
 ·simp [e]
theorem JfF (σ:Wd) (f:List Bool) (i j:Nat) (s:Srv) (h:i<σ.srv.length):({ σ with srv:=σ.srv.set i s,fol:=f }:Wd).s j=if i=j then s else σ.s j:=by
 unfold Wd.s;rw [Jd0]
 by_cases e:i=j <;> simp [e,h]
 intro h2;omega
theorem Jow (σ:Wd) (v:List Srv) (g:Bool) {i:Nat} (hi:i<σ.fol.length) (j:Nat):({ σ with srv:=v,fol:=σ.fol.set i g }:Wd).f j=if i=j then g else σ.f j:=by
 show (σ.fol.set i g).getD j false=_;rw [Jd0]
 by_cases e:i=j
 ·rw [if_pos ⟨e,hi⟩,if_pos e]
 ·rw [if_neg (fun q=>e q.1),if_neg e]
  rfl
theorem Inv0.put (h:Inv0 Reg E K σ) {i:Nat} {s:Srv} (hi:i<3) (hs:UpIn Reg K i s\/DownIn Reg i s) (he:epOf (σ.s i)<=epOf s) (hk:epOf s<=K) (f:List Bool) (hf:f.length=3) :
  Inv0 Reg E K { σ with srv:=σ.srv.set i s,fol:=f }:=by
 have hg:=fun j=>JfF σ f i j s qt0
 refine { n3:=by simp [h.n3],f3:=hf,c16:=h.c16,reg:=h.reg,len:=h.len,k300:=h.k300,srv:=?_,cl:=h.cl,rep:=h.rep,e0:=h.e0,two:=?_,epK:=?_,dn:=h.dn }
 ·intro j hj
  rw [hg j]
  by_cases e:i=j
  ·subst e
   rw [if_pos rfl];exact hs
  ·rw [if_neg e]
   exact h.srv j hj
 ·obtain ⟨a,b,h1,h2,h3,h4⟩:=h.two
  refine ⟨a,b,h1,h2,?_,?_⟩
  ·rw [hg a]
   by_cases e:i=a
   ·subst e
    rw [if_pos rfl];omega
   ·rw [if_neg e]
    exact h3
  ·rw [hg b]
   by_cases e:i=b
   ·subst e
    rw [if_pos rfl];omega
   ·rw [if_neg e]
    exact h4
 ·intro j hj
  rw [hg j]
  by_cases e:i=j
  ·subst e
   rw [if_pos rfl];exact hk
  ·rw [if_neg e]
   exact h.epK j hj
theorem Inv0.resign (h:Inv0 Reg E K σ):Inv Reg E K (Jay σ):=⟨{ h with f3:=rfl },.inl rfl⟩
theorem Inv0.noLead (h:Inv0 Reg E K σ) (hl:σ.lead = -1):Inv Reg E K σ:=⟨h,.inl hl⟩
/-! a crash -/
theorem Inv.crash (h:Inv Reg E K σ) {i:Nat} (hi:i<3) (keep:Int):Inv Reg E K (JbI σ i keep).1:=by
 unfold JbI
 by_cases hu:(σ.s i).up=false
 ·rw [if_pos hu]
  exact h
 rw [if_neg hu]
 by_cases hc:Jbh (σ.s i).disk keep=0
 ·rw [if_neg (fun e=>e hc)]
  have hk:0<=keep:=by
   by_cases hk:0<=keep
   ·exact hk
   ·exact absurd hc (JjW qH1)
  have hup:UpIn Reg K i (σ.s i):=by
   rcases h.srv i hi with u | u
   ·exact u
   ·exfalso
    apply hu;rw [u.eq]
  obtain ⟨_,c2,c3⟩:=hup.crash h.reg h.small hk;have h0:Inv0 Reg E K (Jft σ i keep):=h.toInv0.put hi (.inr c2) (by rw [c3]; exact zD6 _) (by rw [c3]; exact h.epK i hi) _ (by simp [h.f3])
  by_cases hl:σ.lead=(i:Int)
  ·simp only [if_pos hl]
   exact h0.resign
  ·simp only [if_neg hl]
   refine ⟨h0,?_⟩;rcases h.lead with h1 | ⟨l,h1,h2,h3⟩
   ·exact .inl h1
   ·right
    have hil:i≠l:=fun e=>hl (by rw [h1,e])
    have hg:=fun j=>JfF σ (σ.fol.set i false) i j (JaQ (σ.s i) keep) qt0
    have hg:∀ j,(Jft σ i keep).s j=if i=j then JaQ (σ.s i) keep else σ.s j:=hg
    have hf:∀ j,(Jft σ i keep).f j=if i=j then false else σ.f j:=by
     exact fun j=>Jow σ _ false (by rw [h.f3]; exact hi) j
    refine ⟨l,h1,⟨h2.lt,?_,?_,?_⟩,?_⟩
    ·rw [hf,if_neg hil]
     exact h2.fl
    ·rw [hg,if_neg hil]
     exact h2.all
    ·intro j hj
     rw [hf,hg,hg]
     by_cases e:i=j
     ·rw [if_pos e]
      intro h;cases h
     ·rw [if_neg e,if_neg e,if_neg hil]
      exact h2.same j hj
    ·rw [hg,if_neg hil]
     exact h3
 ·rw [if_pos hc]
  exact h
/-! coming up -/
theorem Inv.wakes (h:Inv Reg E K σ) {i:Nat} (hi:i<3):Inv Reg E K (upW σ i).1:=by
 unfold upW
 by_cases hu:(σ.s i).up=true
 ·rw [if_pos hu]
  exact h
 rw [if_neg hu];have hdn:DownIn Reg i (σ.s i):=by
  rcases h.srv i hi with u | u
  ·exact absurd u.up hu
  ·exact u
 obtain ⟨b1,b2,b3,_⟩:=hdn.boot h.reg h.small;rw [if_neg (fun e=>e b1)]
 have h0:Inv0 Reg E K { σ with srv:=σ.srv.set i (JbU (i:Int) (σ.s i).disk),fol:=σ.fol }:=h.toInv0.put hi (.inl (b2.mono (zB9 _))) (by rw [b3]; exact zD6 _) (by rw [b3]; exact h.epK i hi) _ h.f3
 refine ⟨h0,?_⟩;rcases h.lead with h1 | ⟨l,h1,h2,h3⟩
 ·exact .inl h1
 ·right
  have hfi:∀ j,j<3->σ.f j=true->i≠j:=by
   intro j hj hf e;subst e;exact hu (h2.same i hj hf).1
  have hil:i≠l:=hfi l h2.lt h2.fl;have hg:∀ j,({ σ with srv:=σ.srv.set i (JbU (i:Int) (σ.s i).disk) }:Wd).s j=if i=j then JbU (i:Int) (σ.s i).disk else σ.s j:=fun j=>JfF σ σ.fol i j _ qt0
  refine ⟨l,h1,⟨h2.lt,h2.fl,?_,?_⟩,?_⟩
  ·rw [hg,if_neg hil]
   exact h2.all
  ·intro j hj hf
   rw [hg,hg,if_neg hil,if_neg (hfi j hj hf)];exact h2.same j hj hf
  ·rw [hg,if_neg hil]
   exact h3
/-! a choice -/
theorem JiZ (h:σ.srv.length=3):σ.srv=[σ.s 0,σ.s 1,σ.s 2]:=by
 obtain ⟨srv,cl,lead,fol,dn,deeds⟩:=σ;simp only at h
 match srv,h with
 | [a,b,c],_=>rfl
theorem Jkc (h:σ.srv.length=3) {p:Peer} (hp:p∈upsW σ):∃ i,i<3/\(σ.s i).up=true/\p=Jar (σ.s i):=by
 unfold upsW at hp;rw [JiZ h] at hp;obtain ⟨s,hs,rfl⟩:=zL6.1 hp;obtain ⟨h1,h2⟩:=zL7.1 hs;simp only [zE2,List.not_mem_nil,or_false] at h1;rcases h1 with rfl | rfl | rfl
 ·exact ⟨0,by decide,h2,rfl⟩
 ·exact ⟨1,by decide,h2,rfl⟩
 ·exact ⟨2,by decide,h2,rfl⟩
theorem ups_of (h:σ.srv.length=3) {i:Nat} (hi:i<3) (hu:(σ.s i).up=true):Jar (σ.s i)∈upsW σ:=by
 unfold upsW;rw [JiZ h];refine List.mem_map_of_mem (zL7.2 ⟨?_,hu⟩)
 match i,hi with
 | 0,_=>simp
 | 1,_=>simp
 | 2,_=>simp
theorem Jkb (h:σ.srv.length=3) (h2:2<=(upsW σ).length):∃ i j,i<j/\j<3/\(σ.s i).up=true/\(σ.s j).up=true:=by
 unfold upsW at h2;rw [JiZ h,zG0] at h2
 by_cases a:(σ.s 0).up=true
 ·by_cases b:(σ.s 1).up=true
  ·exact ⟨0,1,by decide,by decide,a,b⟩
  ·by_cases c:(σ.s 2).up=true
   ·exact ⟨0,2,by decide,by decide,a,c⟩
   ·simp [List.filter,a,b,c] at h2
 ·by_cases b:(σ.s 1).up=true
  ·by_cases c:(σ.s 2).up=true
   ·exact ⟨1,2,by decide,by decide,b,c⟩
   ·simp [List.filter,a,b,c] at h2
  ·by_cases c:(σ.s 2).up=true <;> simp [List.filter,a,b,c] at h2
theorem Jfi:∀ (l:List Peer) (m:Int),m<=l.foldl (fun m p=>max m (max p.epoch (Jbp (Jao p.log)))) m/\(∀ p∈l,p.epoch<=l.foldl (fun m p=>max m (max p.epoch (Jbp (Jao p.log)))) m)/\
  ∀ B,m<=B->(∀ p∈l,p.epoch<=B/\Jbp (Jao p.log)<=B)->l.foldl (fun m p=>max m (max p.epoch (Jbp (Jao p.log)))) m<=B
 | [],m=>⟨zD6 _,by simp,fun B h _=>h⟩
 | p :: l,m=>by
  obtain ⟨h1,h2,h3⟩:=Jfi l (max m (max p.epoch (Jbp (Jao p.log))));simp only [zJ3];refine ⟨by omega,?_,?_⟩
  ·intro q hq
   rcases zE2.1 hq with rfl | hq
   ·omega
   ·exact h2 q hq
  ·intro B hB hl
   have:=hl p zF5;exact h3 B qH1 (fun q hq=>hl q (zF2 _ hq))
theorem topE_ge {l:List Peer} {p:Peer} (h:p∈l):p.epoch<=topE l:=(Jfi l 0).2.1 p h
theorem topE_le {l:List Peer} {B:Int} (hB:0<=B) (h:∀ p∈l,p.epoch<=B/\Jbp (Jao p.log)<=B):topE l<=B:=(Jfi l 0).2.2 B hB h
theorem Inv0.last_ep (h:Inv0 Reg E K σ) {m:List Txn} (hm:m.Sublist Reg):Jbp (Jao m)<=E/\0<=Jbp (Jao m):=by
 have h0:=h.e0;unfold Jbp
 by_cases h1:0<=Jao m/\Jao m<4611686018427387904
 ·rw [if_pos h1]
  by_cases hn:m=[]
  ·subst hn
   rw [Jcb];exact ⟨by omega,by decide⟩
  ·obtain ⟨x,hx,e⟩:=JbW hn
   have:=h.rep x (hm.subset hx);rw [e] at h1 ⊢;omega
 ·rw [if_neg h1]
  omega
theorem Inv0.EK (h:Inv0 Reg E K σ):E<=K:=by
 obtain ⟨i,j,h1,h2,h3,h4⟩:=h.two;have:=h.epK j h2;omega
theorem Inv0.up (h:Inv0 Reg E K σ) {i:Nat} (hi:i<3) (hu:(σ.s i).up=true):UpIn Reg K i (σ.s i):=by
 rcases h.srv i hi with u | u
 ·exact u
 ·rw [u.eq] at hu
  cases hu
theorem Inv0.down (h:Inv0 Reg E K σ) {i:Nat} (hi:i<3) (hu:(σ.s i).up=false):DownIn Reg i (σ.s i):=by
 rcases h.srv i hi with u | u
 ·rw [u.up] at hu
  cases hu
 ·exact u
theorem Inv0.topE (h:Inv0 Reg E K σ) (h2:2<=(upsW σ).length):E<=topE (upsW σ)/\topE (upsW σ)<=K/\∀ i,i<3->(σ.s i).up=true->epOf (σ.s i)<=topE (upsW σ):=by
 have hep:∀ i,i<3->(σ.s i).up=true->epOf (σ.s i)<=Go.Proofs.YtjnooagaghdkdaaGreatDoor.topE (upsW σ):=by
  intro i hi hu;rw [((h.up hi hu).ep h.reg h.small).1];exact topE_ge (ups_of h.n3 hi hu)
 refine ⟨?_,?_,hep⟩
 ·obtain ⟨i,j,a1,a2,a3,a4⟩:=h.two
  obtain ⟨k,l,b1,b2,b3,b4⟩:=Jkb h.n3 h2;have:i=k\/i=l\/j=k\/j=l:=qCE;rcases this with rfl | rfl | rfl | rfl
  ·have:=hep i qH1 b3
   omega
  ·have:=hep i qH1 b4
   omega
  ·have:=hep j a2 b3
   omega
  ·have:=hep j a2 b4
   omega
 ·refine topE_le qH1 ?_
  intro p hp;obtain ⟨i,hi,hu,rfl⟩:=Jkc h.n3 hp;have u:=h.up hi hu;have e:=(u.ep h.reg h.small).1;have:=h.epK i hi;have h4:=(h.last_ep u.lg.sub).1;have h5:=h.EK;show (σ.s i).epoch<=_/\Jbp (Jao (σ.s i).log)<=_;omega
theorem JgL (h:Inv0 Reg E K σ) {i:Nat} (hi:i<3) (hu:(σ.s i).up=true) {l:List Txn} (hl:LogIn Reg l) {ep:Int} (hep:Half ep) (hk:ep<=K) (he:epOf (σ.s i)<=ep) (hd:(σ.s i).done_<=(comK l (σ.s i).log:Nat)) (ns:List Note) :
  Inv0 Reg E K (folW l ep (σ,ns) i).1/\(∀ j,(folW l ep (σ,ns) i).1.s j=if i=j then JbJ (folS (σ.s i) l ep (l.length - comK l (σ.s i).log)) (σ.s i).done_.toNat l.length else σ.s j)/\(∀ j,(folW l ep (σ,ns) i).1.f j=if i=j then true else σ.f j)/\
  ((folW l ep (σ,ns) i).1.s i).log=l/\((folW l ep (σ,ns) i).1.s i).epoch=ep/\((folW l ep (σ,ns) i).1.s i).done_=(l.length:Nat)/\((folW l ep (σ,ns) i).1.s i).up=true/\epOf ((folW l ep (σ,ns) i).1.s i)=ep:=by
 obtain ⟨f1,f2,f3⟩:=(h.up hi hu).fol h.reg h.small hl hep hd;obtain ⟨_,_,_,_,c1,c2,c3,c4,c5,_⟩:=f2.com;have fl:(folS (σ.s i) l ep (l.length - comK l (σ.s i).log)).log=l:=by rw [f1]
 have fd:(folS (σ.s i) l ep (l.length - comK l (σ.s i).log)).done_=(σ.s i).done_:=by rw [f1]
 have fe:(folS (σ.s i) l ep (l.length - comK l (σ.s i).log)).epoch=ep:=by rw [f1]
 rw [fl,fd] at c1 c2 c3 c4 c5;rw [fe] at c4;have hW:(folW l ep (σ,ns) i).1={ σ with srv:=σ.srv.set i (JbJ (folS (σ.s i) l ep (l.length - comK l (σ.s i).log)) (σ.s i).done_.toNat l.length),fol:=σ.fol.set i true }:=by
  have hA:folM l (σ.s i).log (l.length - comK l (σ.s i).log)=l:=Jin h.reg hl.sub (h.up hi hu).lg.sub;unfold folW comW;simp only [hA]
 have hS:∀ j,(folW l ep (σ,ns) i).1.s j=if i=j then JbJ (folS (σ.s i) l ep (l.length - comK l (σ.s i).log)) (σ.s i).done_.toNat l.length else σ.s j:=by
  intro j;rw [hW];exact JfF σ _ i j _ qt0
 have hSi:=hS i;rw [if_pos rfl] at hSi;refine ⟨?_,hS,?_,?_⟩
 ·rw [hW]
  exact h.put hi (.inl c1) (by rw [c2,f3]; exact he) (by rw [c2,f3]; exact hk) _ (by simp [h.f3])
 ·intro j
  rw [hW];exact Jow σ _ true (by rw [h.f3]; exact hi) j
 ·rw [hSi]
  exact ⟨c3,c4,c5,c1.up,by rw [c2,f3]⟩
end
section
variable {Reg:List Txn} {E:Int} {K:Nat} {σ τ:Wd}
theorem Inv0.id (h:Inv0 Reg E K σ) {i:Nat} (hi:i<3):(σ.s i).id=(i:Int):=by
 rcases h.srv i hi with u | u
 ·exact u.id
 ·rw [u.eq]
theorem JiL (h:Inv0 Reg E K σ):∀ i,Jj5 (upsW σ) i:=by
 have hp:(upsW σ).Pairwise (fun a b=>a.id≠b.id):=by
  unfold upsW;rw [zP7];refine List.Pairwise.filter _ ?_;rw [JiZ h.n3];have h0:=h.id (i:=0) qG1;have h1:=h.id (i:=1) qG1;have h2:=h.id (i:=2) qG1;simp [Jar,h0,h1,h2]
 intro i k x y hk hx hy;obtain ⟨a1,a2⟩:=zB3.1 hx;obtain ⟨b1,b2⟩:=zB3.1 hy;have:=zJ4.1 hp k i a1 b1 hk;rw [a2,b2] at this;exact this
theorem best_ex {l:List Peer} (hd:∀ i,Jj5 l i) (h0:0<l.length):∃ b,b<l.length/\Best l b:=by
 have hk:∀ k,k<=l.length->∃ b,Jm2 l k b:=by
  intro k
  induction k with
  | zero=>exact fun _=>⟨0,.inr ⟨rfl,rfl⟩,fun i _ _ hi=>absurd hi qH1⟩
  | succ k ih=>
   intro hk;obtain ⟨b,hb⟩:=ih qH1;have hbl:b<l.length:=by
    rcases hb.1 with h | h <;> omega
   have hx:l[k]?=some (l[k]'qH1):=zA8 _;have hy:l[b]?=some (l[b]'hbl):=zA8 _
   by_cases ha:JbK (l[k]'qH1) (l[b]'hbl)=true
   ·exact ⟨k,JlX hb hx hy ha⟩
   ·exact ⟨b,Jpl hb hx hy (by simpa using ha) hd⟩
 obtain ⟨b,hb⟩:=hk l.length (zA3 _);have hbl:b<l.length:=by
  rcases hb.1 with h | h <;> omega
 refine ⟨b,hbl,?_⟩;intro i x y hi hx hy;exact hb.2 i x y (zB3.1 hy).1 hi hx hy
theorem Jpk (h:Inv0 Reg E K σ) (h2:2<=(upsW σ).length):∃ k,k<(upsW σ).length/\Best (upsW σ) k/\Jfd (upsW σ)=k:=by
 obtain ⟨b,h3,h4⟩:=best_ex (JiL h) qH1;exact ⟨b,h3,h4,Jg1 h3 h4⟩
structure FolsIn (Reg:List Txn) (E:Int) (K:Nat) (l:List Txn) (ep:Int) (is:List Nat) (σ τ:Wd) (c:Int):Prop where
 inv:Inv0 Reg E K τ
 lead:τ.lead=σ.lead
 cl:τ.cl=σ.cl
 dn:τ.dn=σ.dn
 deeds:τ.deeds=σ.deeds
 out:∀ j,j∉is->τ.s j=σ.s j/\τ.f j=σ.f j
 up:∀ j,(τ.s j).up=(σ.s j).up
 no:∀ j,(σ.s j).up=false->τ.s j=σ.s j/\τ.f j=σ.f j
 yes:c=0->∀ j,j∈is->(σ.s j).up=true->(τ.s j).epoch=ep/\(τ.s j).log=l/\(τ.s j).done_=(l.length:Nat)/\τ.f j=true/\epOf (τ.s j)=ep
theorem JfM {l:List Txn} {ep:Int} (hl:LogIn Reg l) (hep:Half ep) (hk:ep<=K):∀ (is:List Nat) (σ:Wd) (ns:List Note),Inv0 Reg E K σ->is.Nodup->(∀ i∈is,i<3)->(∀ i∈is,(σ.s i).up=true->epOf (σ.s i)<=ep)->
  FolsIn Reg E K l ep is σ (JbT l ep is (σ,ns)).1 (JbT l ep is (σ,ns)).2.2
 | [],σ,ns,h,_,_,_=>⟨h,rfl,rfl,rfl,rfl,fun _ _=>⟨rfl,rfl⟩,fun _=>rfl,fun _ _=>⟨rfl,rfl⟩,fun _ j hj=>absurd hj qI1⟩
 | i :: is,σ,ns,h,hn,h3,he=>by
  obtain ⟨n1,n2⟩:=zK6.1 hn;unfold JbT
  by_cases hu:(σ.s i).up=false
  ·rw [if_pos hu]
   have r:=JfM hl hep hk is σ ns h n2 (fun j hj=>h3 j (zF2 _ hj)) (fun j hj=>he j (zF2 _ hj))
   refine { r with out:=fun j hj=>r.out j (fun e=>hj (zF2 _ e)),yes:=?_ }
   intro hc j hj hj2;rcases zE2.1 hj with rfl | hj
   ·rw [hu] at hj2
    cases hj2
   ·exact r.yes hc j hj hj2
  ·rw [if_neg hu]
   have hu:(σ.s i).up=true:=by simpa using hu
   by_cases hd:((comK l (σ.s i).log:Nat):Int)<(σ.s i).done_
   ·rw [if_pos hd]
    exact ⟨h,rfl,rfl,rfl,rfl,fun _ _=>⟨rfl,rfl⟩,fun _=>rfl,fun _ _=>⟨rfl,rfl⟩,fun e=>absurd (show (13:Int)=0 from e) qG1⟩
   ·rw [if_neg hd]
    obtain ⟨g1,g2,g3,g4,g5,g6,g7,g8⟩:=JgL h (h3 i zF5) hu hl hep hk (he i zF5 hu) qH1 ns;have hother:∀ j,i≠j->(folW l ep (σ,ns) i).1.s j=σ.s j/\(folW l ep (σ,ns) i).1.f j=σ.f j:=by
     intro j e;rw [g2,g3,if_neg e,if_neg e];exact ⟨rfl,rfl⟩
    have r:=JfM hl hep hk is (folW l ep (σ,ns) i).1 (folW l ep (σ,ns) i).2 g1 n2 (fun j hj=>h3 j (zF2 _ hj)) (fun j hj hj2=>by
     have e:i≠j:=fun e=>n1 (e▸hj)
     rw [(hother j e).1] at hj2 ⊢;exact he j (zF2 _ hj) hj2)
    have hup:∀ j,((folW l ep (σ,ns) i).1.s j).up=(σ.s j).up:=by
     intro j
     by_cases e:i=j
     ·subst e
      rw [g7,hu]
     ·rw [(hother j e).1]
    refine ⟨r.inv,r.lead,r.cl,r.dn,r.deeds,?_,?_,?_,?_⟩
    ·intro j hj
     have e:i≠j:=fun e=>hj (e▸zF5)
     have:=r.out j (fun e=>hj (zF2 _ e))
     rw [this.1,this.2];exact hother j e
    ·intro j
     rw [r.up j,hup j]
    ·intro j hj
     have e:i≠j:=by
      intro e;subst e;rw [hu] at hj;cases hj
     have:=r.no j (by rw [hup j]; exact hj)
     rw [this.1,this.2];exact hother j e
    ·intro hc j hj hj2
     by_cases e:i=j
     ·subst e
      have:=r.out i n1;rw [this.1,this.2,g3 i,if_pos rfl];exact ⟨g5,g4,g6,rfl,g8⟩
     ·have hj:j∈is:=by
       rcases zE2.1 hj with h | h
       ·exact absurd h.symm e
       ·exact h
      exact r.yes hc j hj (by rw [hup j]; exact hj2)
theorem ClIn.tell {i:Nat} {c:Cli} (h:ClIn Reg K i c) (ns:List Note):ClIn Reg K i (Jf2 ns c):=
 ⟨h.se,h.s0,h.s1,(tellL_is h.so ns).1,zB5 (Jf0 _ _ _) h.len⟩
theorem c_map (h:σ.cl.length=16) (g:Cli->Cli) {i:Nat} (hi:i<16):({ σ with cl:=σ.cl.map g }:Wd).c i=g (σ.c i):=by
 unfold Wd.c;simp only [zE6,zI0];rw [zA8 (by rw [h]; exact hi)]
 rfl
theorem Inv0.tell (h:Inv0 Reg E K σ) (ns:List Note):Inv0 Reg E K (Jb1 σ ns):=
 { h with
  c16:=by simp [Jb1,h.c16]
  cl:=fun i hi=>by
   have:=c_map h.c16 (Jf2 ns) hi;show ClIn Reg K i (({ σ with cl:=σ.cl.map (Jf2 ns) }:Wd).c i)
   rw [this];exact (h.cl i hi).tell ns }
structure ElectIn (Reg:List Txn) (K:Nat) (σ τ:Wd) (j:Nat) (ep:Int):Prop where
 lt:j<3
 up:(σ.s j).up=true
 lead:τ.lead=(j:Int)
 epe:ep=topE (upsW σ)+1
 all:∀ i,i<3->(σ.s i).up=true->(τ.s i).up=true/\(τ.s i).epoch=ep/\(τ.s i).log=(σ.s j).log/\(τ.s i).done_=((σ.s j).log.length:Nat)/\τ.f i=true
 no:∀ i,(σ.s i).up=false->τ.s i=σ.s i/\τ.f i=false
 inv:Inv Reg ep K τ
theorem fol_none (j:Nat):(Jay σ).f j=false:=by
 unfold Wd.f Jay
 match j with
 | 0=>rfl
 | 1=>rfl
 | 2=>rfl
 | j+3=>rfl
theorem Inv.elect (h:Inv Reg E K σ) (hK:K+1<=300) :
  (∃ E',E<=E'/\Inv Reg E' (K+1) (Ja7 σ).1)/\((Ja7 σ).2.code=0->2<=(upsW σ).length/\E<topE (upsW σ)+1/\∃ j,ElectIn Reg (K+1) σ (Ja7 σ).1 j (topE (upsW σ)+1))/\(Ja7 σ).1.dn=σ.dn/\(Ja7 σ).1.deeds=σ.deeds/\((Ja7 σ).2.code≠0->(Ja7 σ).2.notes=[]):=by
 unfold Ja7
 by_cases h2:(upsW σ).length<2
 ·rw [if_pos h2]
  exact ⟨⟨E,zD6 _,h.mono qH1 hK⟩,fun e=>absurd (show (14:Int)=0 from e) qG1,rfl,rfl,fun _=>rfl⟩
 rw [if_neg h2];obtain ⟨k,hk1,_,hk2⟩:=Jpk h.toInv0 qH1;obtain ⟨t1,t2,t3⟩:=h.toInv0.topE qH1;have hmem:(upsW σ).getD (Jfd (upsW σ)) Jmk∈upsW σ:=by
  rw [hk2,zE6,zA8 hk1];exact zI1 hk1
 obtain ⟨j,hj,hju,hjp⟩:=Jkc h.n3 hmem;rw [hjp];simp only;have h0:=h.e0;have hep:Half (topE (upsW σ)+1):=⟨by omega,by omega⟩
 have hm:Inv Reg E (K+1) (Jay σ):=(h.toInv0.mono (zC6 K) hK).resign;have hs:∀ i,(Jay σ).s i=σ.s i:=fun _=>rfl
 have hlg:=(h.toInv0.up hj hju).lg;have F:=JfM (l:=(Jar (σ.s j)).log) hlg hep (K:=K+1) qH1 [0,1,2] (Jay σ) [] hm.toInv0 qG1 qI1 (fun i hi hu=>by
  have:=t3 i (by simp at hi; omega) hu
  show epOf (σ.s i)<=_;omega)
 generalize hr:JbT (Jar (σ.s j)).log (topE (upsW σ)+1) [0,1,2] (Jay σ,[])=r at F ⊢;obtain ⟨τ,ns,c⟩:=r;simp only at F ⊢
 by_cases hc:c=0
 ·rw [if_neg (fun e=>e hc)]
  have hT:∀ i,(Jb1 { τ with lead:=(Jar (σ.s j)).id } ns).s i=τ.s i:=fun _=>rfl
  have hF:∀ i,(Jb1 { τ with lead:=(Jar (σ.s j)).id } ns).f i=τ.f i:=fun _=>rfl
  have hid:(Jar (σ.s j)).id=(j:Int):=(h.toInv0.up hj hju).id;have hall:∀ i,i<3->(σ.s i).up=true->(τ.s i).up=true/\(τ.s i).epoch=topE (upsW σ)+1/\(τ.s i).log=(σ.s j).log/\(τ.s i).done_=((σ.s j).log.length:Nat)/\τ.f i=true/\epOf (τ.s i)=topE (upsW σ)+1:=by
   intro i hi hu;obtain ⟨y1,y2,y3,y4,y5⟩:=F.yes hc i qB1 hu;exact ⟨by rw [F.up i]; exact hu,y1,y2,y3,y4,y5⟩
  have hno:∀ i,(σ.s i).up=false->τ.s i=σ.s i/\τ.f i=false:=by
   intro i hu;have:=F.no i hu;rw [fol_none] at this;exact this
  have hinv0:Inv0 Reg (topE (upsW σ)+1) (K+1) (Jb1 { τ with lead:=(Jar (σ.s j)).id } ns):=by
   refine Inv0.tell (σ:={ τ with lead:=(Jar (σ.s j)).id }) ?_ ns
   have hi:=F.inv;refine { n3:=hi.n3,f3:=hi.f3,c16:=hi.c16,reg:=hi.reg,len:=hi.len,k300:=hi.k300,srv:=hi.srv,cl:=hi.cl,rep:=?_,e0:=by omega,two:=?_,epK:=hi.epK,dn:=hi.dn }
   ·intro x hx
    have:=h.rep x hx;omega
   ·obtain ⟨a,b,h1,h2,h3,h4⟩:=Jkb h.n3 qH1
    refine ⟨a,b,h1,h2,?_,?_⟩
    ·rw [show ({ τ with lead:=(Jar (σ.s j)).id }:Wd).s a=τ.s a from rfl,(hall a qH1 h3).2.2.2.2.2]
     exact zD6 _
    ·rw [show ({ τ with lead:=(Jar (σ.s j)).id }:Wd).s b=τ.s b from rfl,(hall b h2 h4).2.2.2.2.2]
     exact zD6 _
  have hinv:Inv Reg (topE (upsW σ)+1) (K+1) (Jb1 { τ with lead:=(Jar (σ.s j)).id } ns):=by
   refine ⟨hinv0,.inr ⟨j,hid,⟨hj,?_,?_,?_⟩,?_⟩⟩
   ·rw [hF]
    exact (hall j hj hju).2.2.2.2.1
   ·intro x hx hlt
    have:=h.rep x hx;omega
   ·intro i hi hfi
    rw [hF] at hfi;rw [hT,hT]
    by_cases hu:(σ.s i).up=true
    ·have a:=hall i hi hu
     have b:=hall j hj hju;rw [b.2.2.1];exact ⟨a.1,a.2.1,a.2.2.1⟩
    ·have:=(hno i (by simpa using hu)).2
     rw [this] at hfi;cases hfi
   ·rw [hT]
    have b:=hall j hj hju;rw [b.2.2.1];exact b.2.2.2.1
  refine ⟨⟨_,by omega,hinv⟩,fun _=>⟨by omega,by omega,j,⟨hj,hju,hid,rfl,?_,?_,hinv⟩⟩,F.dn,F.deeds,fun e=>absurd rfl e⟩
  ·intro i hi hu
   rw [hT,hF];have a:=hall i hi hu;exact ⟨a.1,a.2.1,a.2.2.1,a.2.2.2.1,a.2.2.2.2.1⟩
  ·intro i hu
   rw [hT,hF];exact hno i hu
 ·rw [if_pos hc]
  exact ⟨⟨E,zD6 _,F.inv.noLead F.lead⟩,fun e=>absurd e hc,F.dn,F.deeds,fun _=>rfl⟩
end
section
variable {Reg:List Txn} {E:Int} {K:Nat} {σ τ:Wd}
theorem Inv0.grow (h:Inv0 Reg E K σ) (hK:K+1<=300) {x:Txn} (hg:Jat x=0) (hz:Jao Reg<x.zxid) (hE:x.zxid<(E+1)*2147483648):Inv0 (Reg ++ [x]) E (K+1) σ:=
  { n3:=h.n3,f3:=h.f3,c16:=h.c16,reg:=JdD h.reg hg hz
    len:=by have:=h.len; simp; omega
    k300:=hK
    srv:=fun i hi=>(h.srv i hi).imp (fun u=>(u.more x).mono (zC6 K)) (fun u=>u.more x)
    cl:=fun i hi=>by
      have c:=h.cl i hi
      refine ⟨c.se,c.s0,?_,c.so,zB5 c.len (zC6 K)⟩
      have:=c.s1
      rw [Jcs]
      omega
    rep:=fun y hy=>by
      rcases zE7.1 hy with hy | hy
      · exact h.rep y hy
      · rw [zE3.1 hy]
        exact hE
    e0:=h.e0,two:=h.two
    epK:=fun i hi=>by have:=h.epK i hi; omega
    dn:=h.dn.trans (zQ3 _ _) }
theorem Inv0.fols (h:Inv0 Reg E K σ) (f:List Bool) (hf:f.length=3):Inv0 Reg E K { σ with fol:=f }:={ h with f3:=hf }
theorem Jh5 (h:Inv0 Reg E K σ) {l:Nat} (hl:LeadIn Reg E σ l) (hc:(Jbj (Jar (σ.s l))).2=0):Jao Reg<(Jbj (Jar (σ.s l))).1/\(Jbj (Jar (σ.s l))).1<(E+1)*2147483648:=by
 have h0:=h.e0;have hup:=(hl.same l hl.lt hl.fl).2.1;have hlg:=(h.up hl.lt (hl.same l hl.lt hl.fl).1).lg;have hsub:=Jlt h.reg hlg.sub;have hn0:=Jcx (Ja0 h.reg hlg.sub);have hmax:Jao Reg<=E*2147483648\/Jao Reg<=Jao (σ.s l).log:=by
  by_cases h0:Reg=[]
  ·left
   rw [h0,Jcb];omega
  ·obtain ⟨x,hx,e⟩:=JbW h0
   rw [e]
   by_cases hlt:E*2147483648<x.zxid
   ·right
    exact Jer (Ja0 h.reg hlg.sub) (hl.all x hx hlt)
   ·left
    omega
 have hlast:Jao (σ.s l).log<(E+1)*2147483648:=by
  by_cases h0:(σ.s l).log=[]
  ·rw [h0,Jcb]
   omega
  ·obtain ⟨x,hx,e⟩:=JbW h0
   rw [e];exact h.rep x (hlg.sub.subset hx)
 have hEK:=h.EK;have hk3:=h.k300;unfold Jbj at hc ⊢;simp only [Jar,hup] at hc ⊢;unfold Jh6 Jbp at *;generalize Jao (σ.s l).log=z at *;generalize Jao Reg=y at *;rw [if_pos (show 0<=z/\z<4611686018427387904 by omega)] at hc ⊢
 by_cases h1:z / 2147483648<E
 ·rw [if_pos h1] at hc ⊢
  rw [if_pos (show 0<=E/\E<=2147483647 by omega)] at hc ⊢
  rw [if_pos (show 0<=E*2147483648/\E*2147483648<4611686018427387904 by omega),if_pos (show E*2147483648 % 2147483648<2147483647 by omega)] at hc ⊢
  simp only;omega
 ·rw [if_neg h1] at hc ⊢
  rw [if_pos (show 0<=z/\z<4611686018427387904 by omega)] at hc ⊢
  by_cases h2:z % 2147483648<2147483647
  ·rw [if_pos h2] at hc ⊢
   simp only;omega
  ·rw [if_neg h2] at hc
   exact absurd hc qG1
/-! who gets a transaction keeps it -/
structure TakeIn (Reg:List Txn) (E:Int) (K:Nat) (σ:Wd) (l:Nat) (x:Txn) (P:List Nat) (τ:Wd) (hv:List Nat):Prop where
 inv:Inv0 (Reg ++ [x]) E (K+1) τ
 lead:τ.lead=σ.lead
 cl:τ.cl=σ.cl
 dn:τ.dn=σ.dn
 deeds:τ.deeds=σ.deeds
 out:∀ j,j∉P->τ.s j=σ.s j/\τ.f j=σ.f j
 no:∀ j,j∈P->τ.f j=false->τ.s j=σ.s j
 yes:∀ j,j∈P->τ.f j=true->σ.f j=true/\∃ safe,τ.s j=Jcm (σ.s j) x safe/\(safe=true↔j∈hv)
 hvs:∀ j,j∈hv->j∈P/\τ.f j=true
 ld:l∈P->τ.f l=true/\l∈hv
 nd:hv.Nodup
theorem JdS (h:Inv0 Reg E K σ) {l:Nat} (hl:LeadIn Reg E σ l) (hlead:σ.lead=(l:Int)) {x:Txn} (hg:Jat x=0) (hz:Jao Reg<x.zxid) (hx:Jaz (runT newTr (σ.s l).log) x=0) (d:Deed) {P:List Nat} {hv:List Nat} (H:TakeIn Reg E K σ l x P τ hv) {i:Nat} (hi:i<3) (hP:i∉P) :
  TakeIn Reg E K σ l x (P ++ [i]) (Jcl d x (τ,hv) i).1 (Jcl d x (τ,hv) i).2:=by
 obtain ⟨o1,o2⟩:=H.out i hP;have hmem:∀ {j},j∈P ++ [i]->j∈P\/i=j:=by
  intro j hj;rcases zE7.1 hj with hj | hj
  ·exact .inl hj
  ·exact .inr (zE3.1 hj).symm
 have hnhv:i∉hv:=fun e=>hP (H.hvs i e).1
 unfold Jcl
 by_cases hf:τ.f i=false
 ·rw [if_pos hf]
  refine { H with out:=fun j hj=>H.out j (fun e=>hj (zI7 _ e)),no:=?_,yes:=?_,hvs:=fun j hj=>⟨zI7 _ (H.hvs j hj).1,(H.hvs j hj).2⟩,ld:=?_ }
  ·intro j hj hfj
   rcases hmem hj with hj | rfl
   ·exact H.no j hj hfj
   ·exact o1
  ·intro j hj hfj
   rcases hmem hj with hj | rfl
   ·exact H.yes j hj hfj
   ·rw [hf] at hfj
    cases hfj
  ·intro hj
   rcases hmem hj with hj | rfl
   ·exact H.ld hj
   ·rw [o2,hl.fl] at hf
    cases hf
 rw [if_neg hf];have hf:τ.f i=true:=by simpa using hf
 have hf3:i<τ.fol.length:=by rw [H.inv.f3]; exact hi
 have hs3:i<τ.srv.length:=by rw [H.inv.n3]; exact hi
 by_cases hgt:(decide ((i:Int)=τ.lead) || !bitI d.lost i)=true
 ·rw [if_pos hgt]
  have hfol:σ.f i=true:=by rw [<-o2]; exact hf
  obtain ⟨u1,u2,u3⟩:=hl.same i hi hfol;have up:=h.up hi u1;generalize hsafe:(decide ((i:Int)=τ.lead) || !bitI d.slow i)=safe;have hn:Reg.length<=300:=qbE;obtain ⟨t1,t2,t3,t4⟩:=up.take h.reg hn hg hz (by rw [u3]; exact hx) safe
  have hput:=H.inv.put hi (s:=Jcm (σ.s i) x safe) (.inl (t3.mono (zC6 K))) (by rw [o1,t4]; exact zD6 _) (by rw [t4]; have:=h.epK i hi; omega) (τ.fol.set i true) (by simp [H.inv.f3])
  simp only [o1];have hS:∀ j,({ τ with srv:=τ.srv.set i (Jcm (σ.s i) x safe),fol:=τ.fol.set i true }:Wd).s j=if i=j then Jcm (σ.s i) x safe else τ.s j:=fun j=>JfF τ _ i j _ hs3
  have hF:∀ j,({ τ with srv:=τ.srv.set i (Jcm (σ.s i) x safe),fol:=τ.fol.set i true }:Wd).f j=if i=j then true else τ.f j:=fun j=>Jow τ _ true hf3 j
  have hpi:i∈P ++ [i]:=zM6 _ (zE3.2 rfl);have hiff:∀ j,i≠j->(j∈(if safe=true then hv ++ [i] else hv)↔j∈hv):=by
   intro j e;split
   ·have e2:¬ j=i:=fun q=>e q.symm
    simp [e2]
   ·rfl
  refine { inv:=hput,lead:=H.lead,cl:=H.cl,dn:=H.dn,deeds:=H.deeds,out:=?_,no:=?_,yes:=?_,hvs:=?_,ld:=?_,nd:=?_ }
  ·intro j hj
   have e:i≠j:=fun e=>hj (e▸hpi)
   rw [hS,hF,if_neg e,if_neg e];exact H.out j (fun q=>hj (zI7 _ q))
  ·intro j hj hfj
   rw [hF] at hfj;rw [hS]
   by_cases e:i=j
   ·rw [if_pos e] at hfj
    cases hfj
   ·rw [if_neg e] at hfj ⊢
    rcases hmem hj with hj | hj
    ·exact H.no j hj hfj
    ·exact absurd hj e
  ·intro j hj hfj
   rw [hF] at hfj;rw [hS]
   by_cases e:i=j
   ·subst e
    rw [if_pos rfl];refine ⟨hfol,safe,rfl,?_⟩;cases safe
    ·simp [hnhv]
    ·simp
   ·rw [if_neg e] at hfj ⊢
    rcases hmem hj with hj | hj
    ·obtain ⟨y1,sf,y2,y3⟩:=H.yes j hj hfj
     exact ⟨y1,sf,y2,y3.trans (hiff j e).symm⟩
    ·exact absurd hj e
  ·intro j hj
   rw [hF]
   by_cases e:i=j
   ·subst e
    rw [if_pos rfl];exact ⟨hpi,rfl⟩
   ·rw [if_neg e]
    have:=H.hvs j ((hiff j e).1 hj);exact ⟨zI7 _ this.1,this.2⟩
  ·intro hj
   rw [hF]
   by_cases e:i=l
   ·subst e
    rw [if_pos rfl];have:safe=true:=by
     rw [<-hsafe,H.lead,hlead];simp
    rw [this];exact ⟨rfl,by simp⟩
   ·rw [if_neg e]
    rcases hmem hj with hj | hj
    ·have:=H.ld hj
     exact ⟨this.1,(hiff l e).2 this.2⟩
    ·exact absurd hj e
  ·split
   ·exact List.nodup_append.2 ⟨H.nd,by simp,fun a ha b hb e=>hnhv (by rw [<-zE3.1 hb,<-e]; exact ha)⟩
   ·exact H.nd
 ·rw [if_neg hgt]
  have hF:∀ j,({ τ with fol:=τ.fol.set i false }:Wd).f j=if i=j then false else τ.f j:=fun j=>Jow τ τ.srv false hf3 j
  have hS:∀ j,({ τ with fol:=τ.fol.set i false }:Wd).s j=τ.s j:=fun _=>rfl
  have hil:i≠l:=by
   intro e;apply hgt;rw [H.lead,hlead,e];simp
  refine { inv:=H.inv.fols _ (by simp [H.inv.f3]),lead:=H.lead,cl:=H.cl,dn:=H.dn,deeds:=H.deeds,out:=?_,no:=?_,yes:=?_,hvs:=?_,ld:=?_,nd:=H.nd }
  ·intro j hj
   have e:i≠j:=fun e=>hj (e▸zM6 _ (zE3.2 rfl))
   rw [hS,hF,if_neg e];exact H.out j (fun q=>hj (zI7 _ q))
  ·intro j hj hfj
   rw [hF] at hfj;rw [hS]
   by_cases e:i=j
   ·rw [<-e]
    exact o1
   ·rw [if_neg e] at hfj
    rcases hmem hj with hj | hj
    ·exact H.no j hj hfj
    ·exact absurd hj e
  ·intro j hj hfj
   rw [hF] at hfj;rw [hS]
   by_cases e:i=j
   ·rw [if_pos e] at hfj
    cases hfj
   ·rw [if_neg e] at hfj
    rcases hmem hj with hj | hj
    ·exact H.yes j hj hfj
    ·exact absurd hj e
  ·intro j hj
   have e:i≠j:=fun e=>hnhv (e▸hj)
   rw [hF,if_neg e];exact ⟨zI7 _ (H.hvs j hj).1,(H.hvs j hj).2⟩
  ·intro hj
   rw [hF,if_neg hil];rcases hmem hj with hj | hj
   ·exact H.ld hj
   ·exact absurd hj hil
theorem Jk6 (h:Inv0 Reg E K σ) (hK:K+1<=300) {l:Nat} (hl:LeadIn Reg E σ l) (hlead:σ.lead=(l:Int)) {x:Txn} (hg:Jat x=0) (hz:Jao Reg<x.zxid) (hE:x.zxid<(E+1)*2147483648) (hx:Jaz (runT newTr (σ.s l).log) x=0) (d:Deed) :
  TakeIn Reg E K σ l x [0,1,2] ([0,1,2].foldl (Jcl d x) (σ,[])).1 ([0,1,2].foldl (Jcl d x) (σ,[])).2:=by
 have h0:TakeIn Reg E K σ l x [] σ []:=⟨h.grow hK hg hz hE,rfl,rfl,rfl,rfl,fun _ _=>⟨rfl,rfl⟩,by simp,by simp,by simp,by simp,by simp⟩
 have h1:=JdS h hl hlead hg hz hx d h0 (i:=0) qG1 qI1;have h2:=JdS h hl hlead hg hz hx d h1 (i:=1) qG1 qI1;exact JdS h hl hlead hg hz hx d h2 (i:=2) qG1 qI1
end
section
variable {Reg:List Txn} {E:Int} {K:Nat} {σ τ:Wd}
abbrev comD (s:Srv):Srv:=JbJ s s.done_.toNat s.log.length
structure ComIn (Reg:List Txn) (E:Int) (K:Nat) (P:List Nat) (σ τ:Wd):Prop where
 inv:Inv0 Reg E K τ
 lead:τ.lead=σ.lead
 cl:τ.cl=σ.cl
 dn:τ.dn=σ.dn
 deeds:τ.deeds=σ.deeds
 fol:τ.fol=σ.fol
 s:∀ j,τ.s j=if j∈P then comD (σ.s j) else σ.s j
theorem Jiv:∀ (hv:List Nat) (σ:Wd) (ns:List Note),Inv0 Reg E K σ->hv.Nodup->(∀ i∈hv,i<3/\(σ.s i).up=true)->ComIn Reg E K hv σ (hv.foldl Jiw (σ,ns)).1
 | [],σ,ns,h,_,_=>⟨h,rfl,rfl,rfl,rfl,rfl,fun _=>by simp⟩
 | i :: hv,σ,ns,h,hn,hu=>by
  obtain ⟨n1,n2⟩:=zK6.1 hn;obtain ⟨hi,hup⟩:=hu i zF5;obtain ⟨_,_,_,_,c1,c2,_⟩:=(h.up hi hup).com;have hput:=h.put hi (s:=comD (σ.s i)) (.inl c1) (by rw [c2]; exact zD6 _) (by rw [c2]; exact h.epK i hi) σ.fol h.f3
  have hS:∀ j,(comW σ i (σ.s i)).s j=if i=j then comD (σ.s i) else σ.s j:=fun j=>JfF σ σ.fol i j _ qt0
  have r:=Jiv hv (comW σ i (σ.s i)) (ns ++ Ja2 (σ.s i) (σ.s i).done_.toNat (σ.s i).log.length) hput n2 (fun j hj=>by
   obtain ⟨j3,ju⟩:=hu j (zF2 _ hj);refine ⟨j3,?_⟩;rw [hS,if_neg (fun e:i=j=>n1 (e▸hj))]
   exact ju)
  refine ⟨r.inv,r.lead,r.cl,r.dn,r.deeds,r.fol,?_⟩;intro j;have:=r.s j;show (hv.foldl Jiw (comW σ i (σ.s i),ns ++ Ja2 (σ.s i) (σ.s i).done_.toNat (σ.s i).log.length)).1.s j=_;rw [this,hS]
  by_cases e:i=j
  ·subst e
   simp [n1]
  ·have e2:¬ j=i:=fun q=>e q.symm
   simp [e,e2]
structure WrIn (Reg:List Txn) (E:Int) (K:Nat) (σ:Wd) (d:Deed) (l:Nat) (x:Txn) (τ:Wd) (hv:List Nat):Prop where
 cl:0<=d.client/\d.client<16
 lead:σ.lead=(l:Int)
 li:LeadIn Reg E σ l
 ld:(σ.s l).done_=((σ.s l).log.length:Nat)
 pe:Jbi (trOf (σ.s l)) (Jbj (Jar (σ.s l))).1 (Jgh σ d)=0
 xe:x=JaS (trOf (σ.s l)) (Jbj (Jar (σ.s l))).1 (Jgh σ d)
 new:Jao Reg<x.zxid
 lt:x.zxid<(E+1)*2147483648
 gt:Jat x=0
 tr:trOf (σ.s l)=runT newTr (σ.s l).log
 run:Jaz (runT newTr (σ.s l).log) x=0
 tk:TakeIn Reg E K σ l x [0,1,2] τ hv
theorem Inv.tree (h:Inv Reg E K σ) {l:Nat} (hl:LeadIn Reg E σ l) (hd:(σ.s l).done_=((σ.s l).log.length:Nat)):trOf (σ.s l)=runT newTr (σ.s l).log:=by
 obtain ⟨d,d1,d2,d3⟩:=(h.toInv0.up hl.lt (hl.same l hl.lt hl.fl).1).dn;have:d=(σ.s l).log.length:=qCE;rw [d3,this,zG1]
theorem Jn2 (p:Peer):(Jbj p).2=0\/(Jbj p).2=3\/(Jbj p).2=6:=by
 unfold Jbj Jh6
 repeat' split
 all_goals simp
theorem JmC (x:Txn):Jat x≠16:=by
 unfold Jat
 repeat' split
 all_goals first | decide | (simp; done)
theorem JkB (t:Tr) (x:Txn):Jfy t x≠16:=by
 unfold Jfy
 repeat' split
 all_goals first | decide | (simp; done)
theorem JkX (t:Tr) (x:Txn):Jaz t x≠16:=by
 have h1:=JmC x;have h2:=JkB t x;have hw:JbA t x≠16:=by
  unfold JbA
  repeat' split
  all_goals first | assumption | decide | (simp; done)
 unfold Jaz
 repeat' split
 all_goals first | assumption | decide | (simp; done)
theorem Jl2 (t:Tr) (r:Request):(Jeb t r).2≠16:=by
 unfold Jeb
 repeat' split
 all_goals first | decide | (simp; done)
theorem Jmu (a b:ByteArray):(JcR a b).2≠16:=by
 unfold JcR
 repeat' split
 all_goals first | decide | (simp; done)
theorem JnG (s:ByteArray) (n:Int):(serR s n).2≠16:=by
 unfold serR
 repeat' split
 all_goals first | decide | (simp; done)
theorem JoU (t:Tr) (r:Request):(creR t r).2≠16:=by
 have hs:∀ p,(seqR t p).2≠16:=by
  intro p;unfold seqR
  repeat' split
  all_goals first | exact Jmu _ _ | exact JnG _ _ | decide | (simp; done)
 unfold creR
 repeat' split
 all_goals first | exact hs _ | decide | (simp; done)
theorem JnQ (t:Tr) (z:Int) (r:Request):Jbi t z r≠16:=by
 have h1:=Jl2 t r;have h2:=JoU t r;have h3:(JbS t z r).2≠16:=by
  unfold JbS
  repeat' split
  all_goals first | assumption | decide | (simp; done)
 have h4:=JkX t (JbS t z r).1;unfold Jbi
 repeat' split
 all_goals first | assumption | decide | (simp; done)
theorem Jcu (h:Inv Reg E K σ) (hK:K+1<=300) (d:Deed) :
  (∃ c,c≠0/\c≠16/\Jbg σ d=(σ,rp c))\/
  (∃ l x τ hv,WrIn Reg E K σ d l x τ hv/\hv.length<2/\Jbg σ d=(Jay τ,{ rp 16 with zxid:=x.zxid }))\/
  (∃ l x τ hv,WrIn Reg E K σ d l x τ hv/\2<=hv.length/\Jbg σ d=JaM τ d.client.toNat x hv):=by
 unfold Jbg
 by_cases h1:d.client<0\/16<=d.client
 ·rw [if_pos h1]
  exact .inl ⟨3,by decide,by decide,rfl⟩
 rw [if_neg h1]
 by_cases h2:σ.lead<0
 ·rw [if_pos h2]
  exact .inl ⟨14,by decide,by decide,rfl⟩
 rw [if_neg h2];rcases h.lead with h3 | ⟨l,h3,hl,hd⟩
 ·rw [h3] at h2
  exact absurd qG1 h2
 simp only [h3,zG9]
 by_cases h4:(Jbj (Jar (σ.s l))).2=0
 ·rw [if_neg (fun e=>e h4)]
  by_cases h5:Jbi (trOf (σ.s l)) (Jbj (Jar (σ.s l))).1 (Jgh σ d)=0
  ·rw [if_neg (fun e=>e h5)]
   obtain ⟨n1,n2⟩:=Jh5 h.toInv0 hl h4;obtain ⟨p1,_,p3,_,_,p6,_⟩:=Jcw h5;have ht:=h.tree hl hd;rw [ht] at p1;generalize hx:JaS (trOf (σ.s l)) (Jbj (Jar (σ.s l))).1 (Jgh σ d)=x at p3 p6 ⊢;have hxr:Jaz (runT newTr (σ.s l).log) x=0:=by rw [<-hx,ht]; exact p1
   have T:=Jk6 h.toInv0 hK hl h3 p6 (by rw [p3]; exact n1) (by rw [p3]; exact n2) hxr d
   generalize [0,1,2].foldl (Jcl d x) (σ,[])=r at T ⊢;obtain ⟨τ,hv⟩:=r;have W:WrIn Reg E K σ d l x τ hv:=⟨by omega,h3,hl,hd,h5,hx.symm,by rw [p3]; exact n1,by rw [p3]; exact n2,p6,ht,hxr,T⟩
   by_cases h6:hv.length<2
   ·rw [if_pos h6]
    exact .inr (.inl ⟨l,x,τ,hv,W,h6,rfl⟩)
   ·rw [if_neg h6]
    exact .inr (.inr ⟨l,x,τ,hv,W,by omega,rfl⟩)
  ·rw [if_pos h5]
   refine .inl ⟨_,h5,?_,rfl⟩;exact JnQ _ _ _
 ·rw [if_pos h4]
  refine .inl ⟨_,h4,?_,rfl⟩;rcases Jn2 (Jar (σ.s l)) with e | e | e <;> rw [e] <;> decide
theorem WrIn.commit {d:Deed} {l:Nat} {x:Txn} {hv:List Nat} (h:Inv Reg E K σ) (W:WrIn Reg E K σ d l x τ hv) :
  Inv (Reg ++ [x]) E (K+1) (JaM τ d.client.toNat x hv).1/\(JaM τ d.client.toNat x hv).1.dn=σ.dn ++ [x]/\(JaM τ d.client.toNat x hv).1.deeds=σ.deeds/\(JaM τ d.client.toNat x hv).1.lead=σ.lead/\(∀ j,(JaM τ d.client.toNat x hv).1.f j=τ.f j)/\
  (∀ j,(JaM τ d.client.toNat x hv).1.s j=if j∈hv then comD (τ.s j) else τ.s j):=by
 have T:=W.tk;have hl3:=W.li.lt;have hlm:l∈[0,1,2]:=qXE;obtain ⟨hfl,hlhv⟩:=T.ld hlm;have hyes:∀ j,j<3->τ.f j=true->σ.f j=true/\(τ.s j).up=true/\(τ.s j).epoch=E/\(τ.s j).log=(σ.s l).log ++ [x]:=by
  intro j hj hf;obtain ⟨y1,sf,y2,_⟩:=T.yes j qB1 hf;obtain ⟨u1,u2,u3⟩:=W.li.same j hj y1;have hn:Reg.length<=300:=qbE;obtain ⟨_,t2,t3,_⟩:=(h.toInv0.up hj u1).take h.reg hn W.gt W.new (by rw [u3]; exact W.run) sf
  rw [y2];refine ⟨y1,t3.up,?_,?_⟩
  ·rw [t2]
   exact u2
  ·rw [t2]
   show (σ.s j).log ++ [x]=_;rw [u3]
 have hhv:∀ i∈hv,i<3/\(τ.s i).up=true:=by
  intro i hi;obtain ⟨a,b⟩:=T.hvs i hi;have h3:i<3:=by simp at a; omega
  exact ⟨h3,(hyes i h3 b).2.1⟩
 have C:=Jiv hv τ [] T.inv T.nd hhv;unfold JaM;generalize hv.foldl Jiw (τ,[])=r at C ⊢;obtain ⟨υ,ns⟩:=r;simp only at C ⊢;have hS:∀ (v:List Cli) j,({ Jb1 { υ with dn:=υ.dn ++ [x] } ns with cl:=v }:Wd).s j=υ.s j:=fun _ _=>rfl
 have hF:∀ (v:List Cli) j,({ Jb1 { υ with dn:=υ.dn ++ [x] } ns with cl:=v }:Wd).f j=τ.f j:=fun _ j=>by show υ.fol.getD j false=_; rw [C.fol]; rfl
 have hdn:υ.dn ++ [x]=σ.dn ++ [x]:=by rw [C.dn,T.dn]
 have hreg:=JdD h.reg W.gt W.new;have h1:Inv0 (Reg ++ [x]) E (K+1) { υ with dn:=υ.dn ++ [x] }:=
  { C.inv with dn:=hdn▸h.dn.append (List.Sublist.refl _) }
 have h2:=h1.tell ns;have hlog:∀ j,(υ.s j).log=(τ.s j).log/\(υ.s j).up=(τ.s j).up/\(υ.s j).epoch=(τ.s j).epoch:=by
  intro j;rw [C.s j];split <;> exact ⟨rfl,rfl,rfl⟩
 refine ⟨⟨{ h2 with c16:=by simp [h2.c16],cl:=?_ },.inr ⟨l,by show υ.lead=_; rw [C.lead,T.lead]; exact W.lead,⟨hl3,?_,?_,?_⟩,?_⟩⟩,hdn,by show υ.deeds=_; rw [C.deeds,T.deeds],by show υ.lead=_; rw [C.lead,T.lead],fun j=>hF _ j,fun j=>by rw [hS,C.s j]⟩
 ·intro i hi
  have hc:=h2.cl i hi;have e:({ Jb1 { υ with dn:=υ.dn ++ [x] } ns with cl:=(Jb1 { υ with dn:=υ.dn ++ [x] } ns).cl.set d.client.toNat { (Jb1 { υ with dn:=υ.dn ++ [x] } ns).c d.client.toNat with seen:=x.zxid } }:Wd).c i=if d.client.toNat=i then { (Jb1 { υ with dn:=υ.dn ++ [x] } ns).c d.client.toNat with seen:=x.zxid } else (Jb1 { υ with dn:=υ.dn ++ [x] } ns).c i:=by
   show (List.set _ _ _).getD i noCl=_;rw [Jd0,h2.c16]
   by_cases e:d.client.toNat=i
   ·simp [e,hi]
   ·simp [e,Wd.c]
  rw [e]
  by_cases e:d.client.toNat=i
  ·rw [if_pos e,e]
   refine ⟨hc.se,?_,?_,hc.so,hc.len⟩
   ·have:=Jcx h.reg
    have:=W.new;show 0<=x.zxid;omega
   ·rw [Jcs]
    exact zD6 _
  ·rw [if_neg e]
   exact hc
 ·rw [hF]
  exact hfl
 ·intro y hy hlt
  rw [hS,(hlog l).1,(hyes l hl3 hfl).2.2.2];rcases zE7.1 hy with hy | hy
  ·exact zI7 _ (W.li.all y hy hlt)
  ·exact zM6 _ hy
 ·intro j hj hf
  rw [hF] at hf;rw [hS,hS,(hlog j).1,(hlog l).1,(hlog j).2.1,(hlog j).2.2,(hyes l hl3 hfl).2.2.2];exact (hyes j hj hf).2
 ·rw [hS,C.s l,if_pos hlhv]
  rfl
theorem Inv.write (h:Inv Reg E K σ) (hK:K+1<=300) (d:Deed):∃ Reg',Reg <+: Reg'/\Inv Reg' E (K+1) (Jbg σ d).1:=by
 rcases Jcu h hK d with ⟨c,_,_,e⟩ | ⟨l,x,τ,hv,W,h2,e⟩ | ⟨l,x,τ,hv,W,h2,e⟩
 ·rw [e]
  exact ⟨Reg,zH4 _,h.mono (zC6 K) hK⟩
 ·rw [e]
  exact ⟨Reg ++ [x],zP4 _ _,W.tk.inv.resign⟩
 ·rw [e]
  exact ⟨Reg ++ [x],zP4 _ _,(W.commit h).1⟩
end
section
variable {Reg:List Txn} {E:Int} {K:Nat} {σ τ:Wd}
theorem Inv0.putCl (h:Inv0 Reg E K σ) {i:Nat} {c:Cli} (hc:ClIn Reg K i c):Inv0 Reg E K { σ with cl:=σ.cl.set i c }:=
 { h with
  c16:=by simp [h.c16]
  cl:=fun j hj=>by
   show ClIn Reg K j ((σ.cl.set i c).getD j noCl);rw [Jd0,h.c16]
   by_cases e:i=j
   ·subst e
    rw [if_pos ⟨rfl,hj⟩];exact hc
   ·rw [if_neg (fun q=>e q.1)]
    exact h.cl j hj }
theorem Inv.putCl (h:Inv Reg E K σ) {i:Nat} {c:Cli} (hc:ClIn Reg K i c):Inv Reg E K { σ with cl:=σ.cl.set i c }:=by
 refine ⟨h.toInv0.putCl hc,?_⟩;rcases h.lead with e | ⟨l,e,li,d⟩
 ·exact .inl e
 ·exact .inr ⟨l,e,⟨li.lt,li.fl,li.all,li.same⟩,d⟩
theorem Inv.putWt (h:Inv Reg E K σ) {i:Nat} (hi:i<3) (hu:(σ.s i).up=true) {ws:List Watch} (hw:∀ x∈ws,Jaw x.path=true/\x.kind=1/\1<=x.session/\x.session<=16) (hl:ws.length<=K):Inv Reg E K { σ with srv:=σ.srv.set i { σ.s i with watches:=ws } }:=by
 have u:=h.toInv0.up hi hu;have h0:=h.toInv0.put hi (s:={ σ.s i with watches:=ws }) (.inl ⟨u.up,u.id,u.lg,u.dk,u.dn,hw,hl⟩) (zD6 _) (h.epK i hi) σ.fol h.f3
 refine ⟨h0,?_⟩;have hS:∀ j,({ σ with srv:=σ.srv.set i { σ.s i with watches:=ws } }:Wd).s j=if i=j then { σ.s i with watches:=ws } else σ.s j:=fun j=>JfF σ σ.fol i j _ qt0
 have hL:∀ j,(({ σ with srv:=σ.srv.set i { σ.s i with watches:=ws } }:Wd).s j).log=(σ.s j).log/\(({ σ with srv:=σ.srv.set i { σ.s i with watches:=ws } }:Wd).s j).up=(σ.s j).up/\(({ σ with srv:=σ.srv.set i { σ.s i with watches:=ws } }:Wd).s j).epoch=(σ.s j).epoch/\(({ σ with srv:=σ.srv.set i { σ.s i with watches:=ws } }:Wd).s j).done_=(σ.s j).done_:=by
  intro j;rw [hS]
  by_cases e:i=j
  ·subst e
   rw [if_pos rfl];exact ⟨rfl,rfl,rfl,rfl⟩
  ·rw [if_neg e]
   exact ⟨rfl,rfl,rfl,rfl⟩
 rcases h.lead with e | ⟨l,e,li,d⟩
 ·exact .inl e
 ·refine .inr ⟨l,e,⟨li.lt,li.fl,?_,?_⟩,?_⟩
  ·rw [(hL l).1]
   exact li.all
  ·intro j hj hf
   rw [(hL j).1,(hL l).1,(hL j).2.1,(hL j).2.2.1];exact li.same j hj hf
  ·rw [(hL l).1,(hL l).2.2.2]
   exact d
theorem addL_in {l:List Watch} {x y:Watch} (h:addE l x=0) (hy:y∈addL l x):y∈l\/y=x:=by
 unfold addE at h;unfold addL at hy;split at hy
 ·rename_i h1
  split at hy
  ·exact .inl hy
  ·split at hy
   ·simp at hy
   ·rcases zE7.1 hy with h | h
    ·exact .inl h
    ·exact .inr (zE3.1 h)
 ·simp at hy
theorem addL_len (l:List Watch) (x:Watch):(addL l x).length<=l.length+1:=by
 unfold addL
 repeat' split
 all_goals simp
theorem addE_ok {l:List Watch} {x:Watch} (h:addE l x=0):okW x:=by
 unfold addE at h
 by_cases hx:okW x
 ·exact hx
 ·rw [if_neg hx] at h
  exfalso
  revert h
  repeat' split
  all_goals decide
theorem Inv0.tz (h:Inv0 Reg E K σ) {i:Nat} (hi:i<3):0<=(σ.s i).tz/\(σ.s i).tz<=Jao Reg:=by
 have h0:=Jcx h.reg;rcases h.srv i hi with u | u
 ·obtain ⟨d,d1,d2,d3⟩:=u.dn
  have hz:(σ.s i).tz=(runT newTr ((σ.s i).log.take d)).zxid:=by rw [<-d3]; rfl
  rw [hz];have hrun:=JeS (σ.s i).log newTr d u.lg.run;have hsub:=Jk7 u.lg.sub d;generalize (σ.s i).log.take d=m at hrun hsub
  by_cases hm:m=[]
  ·subst hm
   exact ⟨zD6 0,h0⟩
  ·have e:=List.dropLast_concat_getLast hm
   rw [<-e] at hrun ⊢;have hx:Jaz (runT newTr m.dropLast) (m.getLast hm)=0:=by
    have:=Jfp (m.dropLast ++ [m.getLast hm]) newTr m.dropLast.length (m.getLast hm) hrun qI1;simpa using this
   rw [Ji5];have hz:(JaO (runT newTr m.dropLast) (m.getLast hm)).zxid=(m.getLast hm).zxid:=by
    unfold JaO;rw [if_pos hx]
   rw [hz];have hin:=hsub.subset (List.getLast_mem hm);have:=h.reg.2 _ hin;have:=Jer h.reg hin;omega
 ·rw [u.eq]
  exact ⟨zD6 0,h0⟩
theorem Inv.read (h:Inv Reg E K σ) (hK:K+1<=300) (d:Deed):Inv Reg E (K+1) (JcY σ d).1:=by
 have hm:=h.mono (zC6 K) hK;unfold JcY
 by_cases h1:d.client<0\/16<=d.client\/d.server<0\/3<=d.server
 ·rw [if_pos h1]
  exact hm
 rw [if_neg h1];have hi:d.server.toNat<3:=qCE;have hk:d.client.toNat<16:=qCE;generalize d.server.toNat=i at hi ⊢;generalize d.client.toNat=k at hk ⊢;simp only
 by_cases h2:(σ.s i).up=false
 ·rw [if_pos h2]
  exact hm
 rw [if_neg h2];have hu:(σ.s i).up=true:=by simpa using h2
 by_cases h3:(σ.s i).tz<(σ.c k).seen
 ·rw [if_pos h3]
  exact hm
 rw [if_neg h3];obtain ⟨z0,z1⟩:=h.toInv0.tz hi;have hc:=h.cl k hk
 by_cases h4:d.watch=true
 ·rw [if_pos h4]
  by_cases h5:addE (σ.s i).watches ⟨(σ.c k).session,1,d.path⟩=0
  ·rw [if_neg (fun e=>e h5)]
   have hok:=addE_ok h5;have u:=h.toInv0.up hi hu;have hw:=Inv.putWt hm hi hu (ws:=addL (σ.s i).watches ⟨(σ.c k).session,1,d.path⟩) (fun x hx=>by
    rcases addL_in h5 hx with hx | rfl
    ·exact u.wt x hx
    ·have:=hc.se
     refine ⟨hok.2.1,rfl,?_,?_⟩ <;> show _<=_ <;> simp only <;> omega) (by have:=addL_len (σ.s i).watches ⟨(σ.c k).session,1,d.path⟩; have:=u.wl; omega)
   refine hw.putCl (i:=k) ⟨hc.se,z0,z1,?_,?_⟩
   ·exact Jjp hc.so _
   ·exact zB5 (Jjq _ _) (by have:=hc.len; omega)
  ·rw [if_pos h5]
   exact hm
 ·rw [if_neg h4]
  exact hm.putCl (i:=k) ⟨hc.se,z0,z1,hc.so,zB5 hc.len (zC6 K)⟩
theorem Inv.deeds (h:Inv Reg E K σ) (n:Nat):Inv Reg E K { σ with deeds:=n }:=by
 refine ⟨{ h.toInv0 with srv:=h.srv },?_⟩
 rcases h.lead with e | ⟨l,e,li,d⟩
 ·exact .inl e
 ·exact .inr ⟨l,e,⟨li.lt,li.fl,li.all,li.same⟩,d⟩
theorem JfU (h:Inv Reg E K σ) (hK:K+1<=300) (d:Deed):(Jbg σ d).1.deeds=σ.deeds:=by
 rcases Jcu h hK d with ⟨c,_,_,e⟩ | ⟨l,x,τ,hv,W,h2,e⟩ | ⟨l,x,τ,hv,W,h2,e⟩
 ·rw [e]
 ·rw [e]
  exact W.tk.deeds
 ·rw [e]
  exact (W.commit h).2.2.1
theorem Jhi (σ:Wd) (d:Deed):(JcY σ d).1.deeds=σ.deeds:=by
 unfold JcY;simp only
 repeat' split
 all_goals rfl
theorem JhS (σ:Wd) (i:Nat):(upW σ i).1.deeds=σ.deeds:=by
 unfold upW
 repeat' split
 all_goals rfl
theorem Jew (σ:Wd) (i:Nat) (k:Int):(JbI σ i k).1.deeds=σ.deeds:=by
 unfold JbI
 repeat' split
 all_goals first | rfl | (simp only; split <;> rfl)
theorem do_inv (h:Inv Reg E σ.deeds σ) (d:Deed):∃ Reg' E',Reg <+: Reg'/\E<=E'/\Inv Reg' E' (doW σ d).1.deeds (doW σ d).1:=by
 unfold doW
 by_cases h0:300<=σ.deeds
 ·rw [if_pos h0]
  exact ⟨Reg,E,zH4 _,zD6 _,h⟩
 rw [if_neg h0];have hK:σ.deeds+1<=300:=qCE;have hτ:=h.deeds (σ.deeds+1);have hm:=hτ.mono (zC6 _) hK;have fin:∀ {Reg':List Txn} {E':Int} {r:Wd × Rp},Reg <+: Reg'->E<=E'->Inv Reg' E' (σ.deeds+1) r.1->r.1.deeds=σ.deeds+1->∃ Reg' E',Reg <+: Reg'/\E<=E'/\Inv Reg' E' r.1.deeds r.1:=
  fun h1 h2 h3 h4=>⟨_,_,h1,h2,by rw [h4]; exact h3⟩
 simp only
 by_cases h1:d.kind=1
 ·rw [if_pos h1]
  obtain ⟨Reg',a,b⟩:=hτ.write hK d;exact fin a (zD6 _) b (JfU hτ hK d)
 rw [if_neg h1]
 by_cases h2:d.kind=2
 ·rw [if_pos h2]
  exact fin (zH4 _) (zD6 _) (hτ.read hK d) (Jhi _ d)
 rw [if_neg h2]
 by_cases h3:d.kind=5
 ·rw [if_pos h3]
  obtain ⟨⟨E',a,b⟩,_,_,c,_⟩:=hτ.elect hK;exact fin (zH4 _) a b c
 rw [if_neg h3]
 by_cases h4:d.kind=3\/d.kind=4
 ·rw [if_pos h4]
  by_cases h5:d.server<0\/3<=d.server
  ·rw [if_pos h5]
   exact fin (zH4 _) (zD6 _) hm rfl
  rw [if_neg h5];have hi:d.server.toNat<3:=qCE
  by_cases h6:d.kind=4
  ·rw [if_pos h6]
   exact fin (zH4 _) (zD6 _) (hm.wakes hi) (JhS _ _)
  ·rw [if_neg h6]
   exact fin (zH4 _) (zD6 _) (hm.crash hi d.keep) (Jew _ _ _)
 ·rw [if_neg h4]
  exact fin (zH4 _) (zD6 _) hm rfl
end
def At (cs:List Value) (o:Nat) (vs:List Value):Prop:=∀ j v,vs[j]?=some v->cs[o+j]?=some v
theorem At.far {cs vs:List Value} {o n:Nat} (h:At cs o vs) (hn:n<o\/o+vs.length<=n) (u:Value):At (cs.set n u) o vs:=by
 intro j v hv;have:=(zB3.1 hv).1;rw [List.getElem?_set_ne qH1];exact h j v hv
theorem At.put {cs vs:List Value} {o:Nat} (h:At cs o vs) {j:Nat} (hj:j<vs.length) (u:Value):At (cs.set (o+j) u) o (vs.set j u):=by
 intro k v hv;rw [zK4] at hv
 by_cases e:j=k
 ·subst e
  rw [if_pos rfl,if_pos hj] at hv;have h1:=(zB3.1 (h j _ (zA8 hj))).1;rw [zJ7 h1];exact hv
 ·rw [if_neg e] at hv
  rw [List.getElem?_set_ne qH1];exact h k v hv
theorem Jj2 {cs vs:List Value} {o:Nat} (h:o+vs.length<=cs.length):At (splice cs o vs) o vs:=by
 intro j v hv;have:=(zB3.1 hv).1;unfold splice;rw [zI5 qB1];rw [zF1 qB1];simp;rw [zF8 qH1,Nat.add_sub_cancel_left];exact hv
theorem At.spl {cs vs us:List Value} {o n:Nat} (h:At cs o vs) (hn:n+us.length<=o\/o+vs.length<=n) (hl:n+us.length<=cs.length):At (splice cs n us) o vs:=by
 intro j v hv;have h1:=(zB3.1 hv).1;have h2:=h j v hv;unfold splice;rcases hn with hn | hn
 ·rw [zI5 qB1,zI5 qB1,zF3]
  simp;rw [zF8 qH1,show n+us.length+(o+j - n - us.length)=o+j by omega]
  exact h2
 ·rw [zF1 qB1,zL5 qH1]
  exact h2
structure Keeps (p:Nat->Prop) (w w':World):Prop where
 os:w'.os=w.os
 tape:w'.tape=w.tape
 output:w'.output=w.output
 size:w.heap.size<=w'.heap.size
 block:∀ k,k<w.heap.size->¬ p k->w'.heap[k]?=w.heap[k]?
section
variable {p:Nat->Prop} {w w' w2:World}
theorem Keeps.refl (p:Nat->Prop) (w:World):Keeps p w w:=⟨rfl,rfl,rfl,zA3 _,fun _ _ _=>rfl⟩
theorem Keeps.trans {q:Nat->Prop} (h:Keeps p w w') (h2:Keeps q w' w2) (hq:∀ k,k<w.heap.size->q k->p k):Keeps p w w2:=
 ⟨h2.os.trans h.os,h2.tape.trans h.tape,h2.output.trans h.output,zB5 h.size h2.size,fun k hk hp=>(h2.block k (zD0 hk h.size) (fun e=>hp (hq k hk e))).trans (h.block k hk hp)⟩
theorem Keeps.of_below (h:Below w.heap.size w w'):Keeps p w w':=⟨h.os,h.tape,h.output,h.size,fun k hk _=>h.block k hk⟩
theorem Keeps.of_grown {r:Option Nat} (h:w.grownBy w' r) (hr:∀ q,r=some q->p q):Keeps p w w':=
 ⟨h.os,h.tape,h.output,h.size,fun k hk hn=>h.block k hk (fun e=>hn (hr k e.symm))⟩
theorem Keeps.more {q:Nat->Prop} (h:Keeps p w w') (hq:∀ k,k<w.heap.size->p k->q k):Keeps q w w':=⟨h.os,h.tape,h.output,h.size,fun k hk hn=>h.block k hk (fun e=>hn (hq k hk e))⟩
theorem Keeps.low {B:Nat} (h:Keeps p w w') (hB:B<=w.heap.size) (hp:∀ k,p k->B<=k):Below B w w':=⟨h.os,h.tape,h.output,h.size,fun k hk=>h.block k qH1 (fun e=>by have:=hp k e; omega)⟩
theorem Bk.keeps {g:Nat} {cs:List Value} {t:TypeId} (h:Bk w g cs t) (hk:Keeps p w w') (hp:¬ p g):Bk w' g cs t:=(hk.block g h.lt hp).trans h
end
/-! the cells -/
def srvC (s:Srv) (v:SrvV):List Value:=[.bool s.up,.slice v.da s.disk.length v.dc,.int .i64 s.id,.int .i64 s.epoch,.slice v.la s.log.length v.lc,.int .i64 s.done_,.int .i64 s.tz,.slice v.na s.nodes.length v.nc,.slice v.sa s.sess.length v.sc,.slice v.wa s.watches.length v.wc]
structure ClV where
 a:Option Addr
 c:Nat
def clC (c:Cli) (v:ClV):List Value:=[.int .i64 c.session,.int .i64 c.seen,.slice v.a c.cache.length v.c]
def Jkt (σ:Wd) (dv:Value):List Value:=[.int .i64 σ.lead,.bool (σ.f 0),.bool (σ.f 1),.bool (σ.f 2),dv,.int .i64 (σ.deeds:Int)]
structure WBox (b:Nat) (w:World) (σ:Wd) (sv:Nat->SrvV) (cv:Nat->ClV) (dv:Value) (cs:List Value):Prop where
 bk:Bk w b cs 96
 len:cs.length=84
 srv:∀ i,i<3->At cs (i*10) (srvC (σ.s i) (sv i))
 cl:∀ i,i<16->At cs (30+i*3) (clC (σ.c i) (cv i))
 rest:At cs 78 (Jkt σ dv)
def pW (p0:Nat->Prop) (b:Nat) (dv:Value):Nat->Prop:=fun q=>p0 q\/q=b\/dv.ownBlock=some q
structure WIn (p0:Nat->Prop) (b:Nat) (w:World) (σ:Wd) (sv:Nat->SrvV) (cv:Nat->ClV) (dv:Value):Prop where
 n3:σ.srv.length=3
 f3:σ.fol.length=3
 c16:σ.cl.length=16
 box:∃ cs,WBox b w σ sv cv dv cs
 srv:∀ i,i<3->SrvIn (pW p0 b dv) w (σ.s i) (sv i)
 cl:∀ i,i<16->SlA (pW p0 b dv) Jae 3 w (.slice (cv i).a (σ.c i).cache.length (cv i).c) (σ.c i).cache
 dn:Ow cTxn 7 39 w (b+1) dv σ.dn
 bp:¬ p0 b
 dp:∀ q,p0 q->dv.ownBlock≠some q
section
variable {p0:Nat->Prop} {b:Nat} {w w':World} {σ:Wd} {sv:Nat->SrvV} {cv:Nat->ClV} {dv:Value}
theorem WIn.lt (h:WIn p0 b w σ sv cv dv):b<w.heap.size:=by
 obtain ⟨cs,hb⟩:=h.box;exact hb.bk.lt
theorem WIn.frozen (h:WIn p0 b w σ sv cv dv) (j:Nat):w.frozen? ⟨b,j,none⟩=false:=by
 obtain ⟨cs,hb⟩:=h.box;exact hb.bk.frozen j
theorem WIn.srvAt (h:WIn p0 b w σ sv cv dv) {i:Nat} (hi:i<3) {j:Nat} {v:Value} (hv:(srvC (σ.s i) (sv i))[j]?=some v):w.cell? ⟨b,i*10+j,none⟩=some v:=by
 obtain ⟨cs,hb⟩:=h.box;rw [hb.bk.cell];exact hb.srv i hi j v hv
theorem WIn.clAt (h:WIn p0 b w σ sv cv dv) {i:Nat} (hi:i<16) {j:Nat} {v:Value} (hv:(clC (σ.c i) (cv i))[j]?=some v):w.cell? ⟨b,30+i*3+j,none⟩=some v:=by
 obtain ⟨cs,hb⟩:=h.box;rw [hb.bk.cell];exact hb.cl i hi j v hv
theorem WIn.restAt (h:WIn p0 b w σ sv cv dv) {j:Nat} {v:Value} (hv:(Jkt σ dv)[j]?=some v):w.cell? ⟨b,78+j,none⟩=some v:=by
 obtain ⟨cs,hb⟩:=h.box;rw [hb.bk.cell];exact hb.rest j v hv
theorem WIn.below (h:WIn p0 b w σ sv cv dv) (hb:Below w.heap.size w w'):WIn p0 b w' σ sv cv dv:=
 { h with
  box:=by obtain ⟨cs,k⟩:=h.box; exact ⟨cs,{ k with bk:=k.bk.below hb }⟩
  srv:=fun i hi=>(h.srv i hi).below hb
  cl:=fun i hi=>(h.cl i hi).below hb
  dn:=h.dn.below hb }
theorem SrvIn.own {p:Nat->Prop} {s:Srv} {v:SrvV} (h:SrvIn p w s v) {r:Option Nat} (hg:w.grownBy w' r) (hr:∀ q,r=some q->p q):SrvIn p w' s v:=
 ⟨h.disk.grow hg hr (fun _=>.inl),h.log.grow hg hr (fun _=>.inl),h.nodes.grow hg hr (fun _=>.inl),h.sess.grow hg hr (fun _=>.inl),h.watches.grow hg hr (fun _=>.inl)⟩
theorem WIn.dnNe (h:WIn p0 b w σ sv cv dv):dv.ownBlock=none\/dv.ownBlock≠some b:=by
 right;intro e;have:=(h.dn.own_in e).1;omega
theorem WIn.putSrv (h:WIn p0 b w σ sv cv dv) {i:Nat} (hi:i<3) {s:Srv} {v:SrvV} (hs:SrvIn (pW p0 b dv) w s v):WIn p0 b (w.setCells b (i*10) (srvC s v)) { σ with srv:=σ.srv.set i s } (fun j=>if i=j then v else sv j) cv dv:=by
 have hg:=zI9 b (srvC s v) (i*10) w;have hr:∀ q,some b=some q->pW p0 b dv q:=fun q e=>.inr (.inl qa0)
 have hS:∀ j,({ σ with srv:=σ.srv.set i s }:Wd).s j=if i=j then s else σ.s j:=fun j=>by
  show (σ.srv.set i s).getD j JcQ=_;rw [zE6,zK4,h.n3]
  by_cases e:i=j
  ·subst e
   simp [hi]
  ·simp [e,Wd.s]
 obtain ⟨cs,k⟩:=h.box;have hl:i*10+(srvC s v).length<=cs.length:=by
  rw [k.len];show i*10+10<=84;omega
 refine ⟨by simp [h.n3],h.f3,h.c16,⟨splice cs (i*10) (srvC s v),k.bk.puts _ _ hl,by rw [zI8 _ _ _ hl,k.len],?_,?_,?_⟩,?_,?_,h.dn.kept hg h.dnNe,h.bp,h.dp⟩
 ·intro j hj
  rw [hS]
  by_cases e:i=j
  ·subst e
   rw [if_pos rfl,if_pos rfl];exact Jj2 hl
  ·rw [if_neg e,if_neg e]
   refine (k.srv j hj).spl ?_ hl;show i*10+10<=j*10\/j*10+10<=i*10;omega
 ·intro j hj
  refine (k.cl j hj).spl ?_ hl;show i*10+10<=30+j*3\/30+j*3+3<=i*10;omega
 ·refine k.rest.spl ?_ hl
  show i*10+10<=78\/78+6<=i*10;omega
 ·intro j hj
  rw [hS]
  by_cases e:i=j
  ·rw [if_pos e,if_pos e]
   exact hs.own hg hr
  ·rw [if_neg e,if_neg e]
   exact (h.srv j hj).own hg hr
 ·intro j hj
  exact (h.cl j hj).grow hg hr (fun _=>.inl)
theorem WIn.putCl (h:WIn p0 b w σ sv cv dv) {i:Nat} (hi:i<16) {c:Cli} {v:ClV} (hs:SlA (pW p0 b dv) Jae 3 w (.slice v.a c.cache.length v.c) c.cache):WIn p0 b (w.setCells b (30+i*3) (clC c v)) { σ with cl:=σ.cl.set i c } sv (fun j=>if i=j then v else cv j) dv:=by
 have hg:=zI9 b (clC c v) (30+i*3) w;have hr:∀ q,some b=some q->pW p0 b dv q:=fun q e=>.inr (.inl qa0)
 have hS:∀ j,({ σ with cl:=σ.cl.set i c }:Wd).c j=if i=j then c else σ.c j:=fun j=>by
  show (σ.cl.set i c).getD j noCl=_;rw [zE6,zK4,h.c16]
  by_cases e:i=j
  ·subst e
   simp [hi]
  ·simp [e,Wd.c]
 obtain ⟨cs,k⟩:=h.box;have hl:30+i*3+(clC c v).length<=cs.length:=by
  rw [k.len];show 30+i*3+3<=84;omega
 refine ⟨h.n3,h.f3,by simp [h.c16],⟨splice cs (30+i*3) (clC c v),k.bk.puts _ _ hl,by rw [zI8 _ _ _ hl,k.len],?_,?_,?_⟩,?_,?_,h.dn.kept hg h.dnNe,h.bp,h.dp⟩
 ·intro j hj
  refine (k.srv j hj).spl ?_ hl;show 30+i*3+3<=j*10\/j*10+10<=30+i*3;omega
 ·intro j hj
  rw [hS]
  by_cases e:i=j
  ·subst e
   rw [if_pos rfl,if_pos rfl];exact Jj2 hl
  ·rw [if_neg e,if_neg e]
   refine (k.cl j hj).spl ?_ hl;show 30+i*3+3<=30+j*3\/30+j*3+3<=30+i*3;omega
 ·refine k.rest.spl ?_ hl
  show 30+i*3+3<=78\/78+6<=30+i*3;omega
 ·intro j hj
  exact (h.srv j hj).own hg hr
 ·intro j hj
  rw [hS]
  by_cases e:i=j
  ·rw [if_pos e,if_pos e]
   exact hs.grow hg hr (fun _=>.inl)
  ·rw [if_neg e,if_neg e]
   exact (h.cl j hj).grow hg hr (fun _=>.inl)
theorem WIn.putRest (h:WIn p0 b w σ sv cv dv) {j:Nat} (hj:j<6) (u:Value) {τ:Wd} (hτs:τ.srv=σ.srv) (hτc:τ.cl=σ.cl) (hτd:τ.dn=σ.dn) (hf:τ.fol.length=3) (hu:(Jkt σ dv).set j u=Jkt τ dv):WIn p0 b (w.setCell ⟨b,78+j,none⟩ u) τ sv cv dv:=by
 have hg:=zD9 w b (78+j) u;have hr:∀ q,some b=some q->pW p0 b dv q:=fun q e=>.inr (.inl qa0)
 have hS:∀ j,τ.s j=σ.s j:=fun j=>by unfold Wd.s; rw [hτs]
 have hC:∀ j,τ.c j=σ.c j:=fun j=>by unfold Wd.c; rw [hτc]
 obtain ⟨cs,k⟩:=h.box;refine ⟨by rw [hτs]; exact h.n3,hf,by rw [hτc]; exact h.c16,⟨cs.set (78+j) u,k.bk.put _ _,by rw [zF4,k.len],?_,?_,?_⟩,?_,?_,by rw [hτd]; exact h.dn.kept hg h.dnNe,h.bp,h.dp⟩
 ·intro i hi
  rw [hS];refine (k.srv i hi).far ?_ u;show 78+j<i*10\/i*10+10<=78+j;omega
 ·intro i hi
  rw [hC];refine (k.cl i hi).far ?_ u;show 78+j<30+i*3\/30+i*3+3<=78+j;omega
 ·rw [<-hu]
  exact k.rest.put hj u
 ·intro i hi
  rw [hS];exact (h.srv i hi).own hg hr
 ·intro i hi
  rw [hC];exact (h.cl i hi).grow hg hr (fun _=>.inl)
theorem WIn.putFol (h:WIn p0 b w σ sv cv dv) {i:Nat} (hi:i<3) (g:Bool):WIn p0 b (w.setCell ⟨b,79+i,none⟩ (.bool g)) { σ with fol:=σ.fol.set i g } sv cv dv:=by
 have e:(Jkt σ dv).set (1+i) (.bool g)=Jkt { σ with fol:=σ.fol.set i g } dv:=by
  obtain ⟨srv,cl,lead,fol,dn,deeds⟩:=σ;have h3:=h.f3;simp only at h3
  match fol,h3,i,hi with
  | [x,y,z],_,0,_=>rfl
  | [x,y,z],_,1,_=>rfl
  | [x,y,z],_,2,_=>rfl
 have:=h.putRest (j:=1+i) qH1 (.bool g) (τ:={ σ with fol:=σ.fol.set i g }) rfl rfl rfl (by simp [h.f3]) e
 rw [show 79+i=78+(1+i) by omega]
 exact this
theorem WIn.putSrvC (h:WIn p0 b w σ sv cv dv) {i:Nat} (hi:i<3) {s:Srv} {v:SrvV} (hs:SrvIn (pW p0 b dv) w s v) :
  WIn p0 b ((((((((((w.setCell ⟨b,i*10,none⟩ (.bool s.up)).setCell ⟨b,i*10+1,none⟩ (.slice v.da s.disk.length v.dc)).setCell ⟨b,i*10+2,none⟩ (.int .i64 s.id)).setCell ⟨b,i*10+3,none⟩ (.int .i64 s.epoch)).setCell ⟨b,i*10+4,none⟩ (.slice v.la s.log.length v.lc)).setCell ⟨b,i*10+5,none⟩ (.int .i64 s.done_)).setCell ⟨b,i*10+6,none⟩ (.int .i64 s.tz)).setCell ⟨b,i*10+7,none⟩ (.slice v.na s.nodes.length v.nc)).setCell ⟨b,i*10+8,none⟩ (.slice v.sa s.sess.length v.sc)).setCell ⟨b,i*10+9,none⟩ (.slice v.wa s.watches.length v.wc)) { σ with srv:=σ.srv.set i s } (fun j=>if i=j then v else sv j) cv dv/\w.grownBy ((((((((((w.setCell ⟨b,i*10,none⟩ (.bool s.up)).setCell ⟨b,i*10+1,none⟩ (.slice v.da s.disk.length v.dc)).setCell ⟨b,i*10+2,none⟩ (.int .i64 s.id)).setCell ⟨b,i*10+3,none⟩ (.int .i64 s.epoch)).setCell ⟨b,i*10+4,none⟩ (.slice v.la s.log.length v.lc)).setCell ⟨b,i*10+5,none⟩ (.int .i64 s.done_)).setCell ⟨b,i*10+6,none⟩ (.int .i64 s.tz)).setCell ⟨b,i*10+7,none⟩ (.slice v.na s.nodes.length v.nc)).setCell ⟨b,i*10+8,none⟩ (.slice v.sa s.sess.length v.sc)).setCell ⟨b,i*10+9,none⟩ (.slice v.wa s.watches.length v.wc)) (some b):=by
 have h1:=h.putSrv hi hs;have h2:=zI9 b (srvC s v) (i*10) w;simp only [World.setCells,srvC,Nat.add_assoc,Nat.reduceAdd] at h1 h2 ⊢;exact ⟨h1,h2⟩
theorem WIn.putClC (h:WIn p0 b w σ sv cv dv) {i:Nat} (hi:i<16) {c:Cli} {v:ClV} (hs:SlA (pW p0 b dv) Jae 3 w (.slice v.a c.cache.length v.c) c.cache) :
  WIn p0 b (((w.setCell ⟨b,30+i*3,none⟩ (.int .i64 c.session)).setCell ⟨b,30+i*3+1,none⟩ (.int .i64 c.seen)).setCell ⟨b,30+i*3+2,none⟩ (.slice v.a c.cache.length v.c)) { σ with cl:=σ.cl.set i c } sv (fun j=>if i=j then v else cv j) dv/\w.grownBy (((w.setCell ⟨b,30+i*3,none⟩ (.int .i64 c.session)).setCell ⟨b,30+i*3+1,none⟩ (.int .i64 c.seen)).setCell ⟨b,30+i*3+2,none⟩ (.slice v.a c.cache.length v.c)) (some b):=by
 have h1:=h.putCl hi hs;have h2:=zI9 b (clC c v) (30+i*3) w;simp only [World.setCells,clC,Nat.add_assoc,Nat.reduceAdd] at h1 h2 ⊢;exact ⟨h1,h2⟩
theorem WIn.folCell (h:WIn p0 b w σ sv cv dv) {i:Nat} (hi:i<3):w.cell? ⟨b,79+i,none⟩=some (.bool (σ.f i)):=by
 rw [show 79+i=78+(1+i) by omega]
 refine h.restAt ?_
 match i,hi with
 | 0,_=>rfl
 | 1,_=>rfl
 | 2,_=>rfl
theorem WIn.srvCells (h:WIn p0 b w σ sv cv dv) {i:Nat} (hi:i<3) :
  w.cell? ⟨b,i*10,none⟩=some (.bool (σ.s i).up)/\w.cell? ⟨b,i*10+1,none⟩=some (.slice (sv i).da (σ.s i).disk.length (sv i).dc)/\w.cell? ⟨b,i*10+2,none⟩=some (.int .i64 (σ.s i).id)/\w.cell? ⟨b,i*10+3,none⟩=some (.int .i64 (σ.s i).epoch)/\
  w.cell? ⟨b,i*10+4,none⟩=some (.slice (sv i).la (σ.s i).log.length (sv i).lc)/\w.cell? ⟨b,i*10+5,none⟩=some (.int .i64 (σ.s i).done_)/\w.cell? ⟨b,i*10+6,none⟩=some (.int .i64 (σ.s i).tz)/\w.cell? ⟨b,i*10+7,none⟩=some (.slice (sv i).na (σ.s i).nodes.length (sv i).nc)/\
  w.cell? ⟨b,i*10+8,none⟩=some (.slice (sv i).sa (σ.s i).sess.length (sv i).sc)/\w.cell? ⟨b,i*10+9,none⟩=some (.slice (sv i).wa (σ.s i).watches.length (sv i).wc):=
 ⟨h.srvAt hi (j:=0) rfl,h.srvAt hi (j:=1) rfl,h.srvAt hi (j:=2) rfl,h.srvAt hi (j:=3) rfl,h.srvAt hi (j:=4) rfl,h.srvAt hi (j:=5) rfl,h.srvAt hi (j:=6) rfl,h.srvAt hi (j:=7) rfl,h.srvAt hi (j:=8) rfl,h.srvAt hi (j:=9) rfl⟩
theorem WIn.clCells (h:WIn p0 b w σ sv cv dv) {i:Nat} (hi:i<16) :
  w.cell? ⟨b,30+i*3,none⟩=some (.int .i64 (σ.c i).session)/\w.cell? ⟨b,30+i*3+1,none⟩=some (.int .i64 (σ.c i).seen)/\w.cell? ⟨b,30+i*3+2,none⟩=some (.slice (cv i).a (σ.c i).cache.length (cv i).c):=
 ⟨h.clAt hi (j:=0) rfl,h.clAt hi (j:=1) rfl,h.clAt hi (j:=2) rfl⟩
theorem WIn.more (h:WIn p0 b w σ sv cv dv) {p1:Nat->Prop} (hp:∀ q,p1 q->p0 q\/w.heap.size<=q):WIn p1 b w σ sv cv dv:=by
 have hq:∀ q,pW p1 b dv q->pW p0 b dv q\/w.heap.size<=q:=by
  intro q hq;rcases hq with hq | hq | hq
  ·exact (hp q hq).imp .inl id
  ·exact .inl (.inr (.inl hq))
  ·exact .inl (.inr (.inr hq))
 refine { h with srv:=fun i hi=>(h.srv i hi).more hq,cl:=fun i hi=>(h.cl i hi).more hq,bp:=?_,dp:=?_ }
 ·intro e
  rcases hp b e with e | e
  ·exact h.bp e
  ·have:=h.lt
   omega
 ·intro q e e2
  rcases hp q e with e | e
  ·exact h.dp q e e2
  ·have:=(h.dn.own_in e2).2
   omega
theorem SrvIn.sub {p p1:Nat->Prop} {s:Srv} {v:SrvV} (h:SrvIn p w s v) (hp:∀ q,p1 q->p q):SrvIn p1 w s v:=h.more (fun q e=>.inl (hp q e))
theorem WIn.other (h:WIn p0 b w σ sv cv dv) {g:Nat} (hg:w.grownBy w' (some g)) (hp:p0 g):WIn p0 b w' σ sv cv dv:=by
 have hr:∀ q,some g=some q->pW p0 b dv q:=fun q e=>.inl (by injection e with e; exact e▸hp)
 have hb:g≠b:=fun e=>h.bp (e▸hp)
 refine { h with
  box:=by obtain ⟨cs,k⟩:=h.box; exact ⟨cs,{ k with bk:=k.bk.grown hg (fun e=>hb qa0) }⟩
  srv:=fun i hi=>(h.srv i hi).own hg hr
  cl:=fun i hi=>(h.cl i hi).grow hg hr (fun _=>.inl)
  dn:=h.dn.kept hg (.inr (h.dp g hp)) }
theorem WIn.low (h:WIn p0 b w σ sv cv dv) (hp:∀ q,p0 q->q<w.heap.size):∀ q,pW p0 b dv q->q<w.heap.size:=by
 intro q hq;rcases hq with hq | hq | hq
 ·exact hp q hq
 ·exact hq▸h.lt
 ·exact (h.dn.own_in hq).2
theorem Jgg {W:World} {ext:Array Obj} {d n:Nat} (h:n<W.heap.size) (o0 o1 o2:Nat) (v0 v1 v2:Value):((((grow W ext d).setCell ⟨n,o0,none⟩ v0).setCell ⟨n,o1,none⟩ v1).setCell ⟨n,o2,none⟩ v2)=grow (((W.setCell ⟨n,o0,none⟩ v0).setCell ⟨n,o1,none⟩ v1).setCell ⟨n,o2,none⟩ v2) ext d:=by
 rw [JaB _ _ _ _ _ _ h,JaB _ _ _ _ _ _ qA1,JaB _ _ _ _ _ _ qA1]
theorem Jhg {W:World} {ext:Array Obj} {d n:Nat} (h:n<W.heap.size) (o0 o1 o2 o3 o4 o5 o6 o7 o8 o9:Nat) (v0 v1 v2 v3 v4 v5 v6 v7 v8 v9:Value):(((((((((((grow W ext d).setCell ⟨n,o0,none⟩ v0).setCell ⟨n,o1,none⟩ v1).setCell ⟨n,o2,none⟩ v2).setCell ⟨n,o3,none⟩ v3).setCell ⟨n,o4,none⟩ v4).setCell ⟨n,o5,none⟩ v5).setCell ⟨n,o6,none⟩ v6).setCell ⟨n,o7,none⟩ v7).setCell ⟨n,o8,none⟩ v8).setCell ⟨n,o9,none⟩ v9)=grow ((((((((((W.setCell ⟨n,o0,none⟩ v0).setCell ⟨n,o1,none⟩ v1).setCell ⟨n,o2,none⟩ v2).setCell ⟨n,o3,none⟩ v3).setCell ⟨n,o4,none⟩ v4).setCell ⟨n,o5,none⟩ v5).setCell ⟨n,o6,none⟩ v6).setCell ⟨n,o7,none⟩ v7).setCell ⟨n,o8,none⟩ v8).setCell ⟨n,o9,none⟩ v9) ext d:=by
 rw [JaB _ _ _ _ _ _ h,JaB _ _ _ _ _ _ qA1,JaB _ _ _ _ _ _ qA1,JaB _ _ _ _ _ _ qA1,JaB _ _ _ _ _ _ qA1,JaB _ _ _ _ _ _ qA1,JaB _ _ _ _ _ _ qA1,JaB _ _ _ _ _ _ qA1,JaB _ _ _ _ _ _ qA1,JaB _ _ _ _ _ _ qA1]
end
abbrev zC3:=@Keeps.of_below
abbrev zE8:=@Keeps.of_grown
abbrev rpV (r:Rp) (A:Option Addr) (c:Nat):Value:=.agg #[.int .i64 r.code,.int .i64 r.zxid,.string r.path,.string r.data,.int .i64 r.st.cz,.int .i64 r.st.mz,.int .i64 r.st.pz,.int .i64 r.st.ver,.int .i64 r.st.cver,.int .i64 r.st.own,.int .i64 r.st.kids,.slice A r.notes.length c]
def JkL (w:World) (dv dv':Value):Prop:=dv'.ownBlock=dv.ownBlock\/∃ q,dv'.ownBlock=some q/\w.heap.size<=q
abbrev rpZ:List Value:=[.int .i64 0,.int .i64 0,.string ⟨#[]⟩,.string ⟨#[]⟩,.int .i64 0,.int .i64 0,.int .i64 0,.int .i64 0,.int .i64 0,.int .i64 0,.int .i64 0,.slice none 0 0]
theorem JnJ {w:World} {g:Nat} {t:TypeId} (h:Bk w g rpZ t):w.cell? ⟨g,0,none⟩=some (.int .i64 0)/\w.cell? ⟨g,1,none⟩=some (.int .i64 0)/\w.cell? ⟨g,2,none⟩=some (.string ⟨#[]⟩)/\w.cell? ⟨g,3,none⟩=some (.string ⟨#[]⟩)/\w.cell? ⟨g,4,none⟩=some (.int .i64 0)/\w.cell? ⟨g,5,none⟩=some (.int .i64 0)/\w.cell? ⟨g,6,none⟩=some (.int .i64 0)/\
  w.cell? ⟨g,7,none⟩=some (.int .i64 0)/\w.cell? ⟨g,8,none⟩=some (.int .i64 0)/\w.cell? ⟨g,9,none⟩=some (.int .i64 0)/\w.cell? ⟨g,10,none⟩=some (.int .i64 0)/\w.cell? ⟨g,11,none⟩=some (.slice none 0 0):=
 ⟨h.cell 0,h.cell 1,h.cell 2,h.cell 3,h.cell 4,h.cell 5,h.cell 6,h.cell 7,h.cell 8,h.cell 9,h.cell 10,h.cell 11⟩
def DoRes (p0:Nat->Prop) (b:Nat) (dv:Value) (τ:Wd) (r:Rp) (w:World) (e:Ending) (w':World):Prop:=
 ∃ sv cv dv' A c,e=.returned (rpV r A c)/\WIn p0 b w' τ sv cv dv'/\SlA (pW p0 b dv') JbZ 3 w' (.slice A r.notes.length c) r.notes/\Keeps (fun q=>q=b\/dv.ownBlock=some q) w w'/\JkL w dv dv'
theorem WIn.reply {p0:Nat->Prop} {b:Nat} {w W:World} {σ:Wd} {sv:Nat->SrvV} {cv:Nat->ClV} {dv dv0:Value} {g:Nat} (h:WIn (fun q=>p0 q\/q=g) b W σ sv cv dv) (hg:w.heap.size<=g) (hk:Keeps (fun q=>q=b\/dv0.ownBlock=some q\/w.heap.size<=q) w W) (hd:JkL w dv0 dv) (r:Rp) (A:Option Addr) (c:Nat) (hn:SlA (pW (fun q=>p0 q\/q=g) b dv) JbZ 3 W (.slice A r.notes.length c) r.notes) {W':World} (hw:W.grownBy W' (some g)) :
  DoRes p0 b dv0 σ r w (.returned (rpV r A c)) W':=by
 refine ⟨sv,cv,dv,A,c,rfl,(h.other hw (.inr rfl)).more (fun q e=>.inl (.inl e)),?_,?_,hd⟩
 ·refine hn.grow hw ?_ ?_
  ·intro q e
   injection e with e
   exact .inl (.inr e.symm)
  ·intro q e
   rcases e with e | e
   ·exact .inl (.inl (.inl e))
   ·exact .inl (.inr e)
 ·have h1:Keeps (fun q=>q=g) W W':=zE8 hw (fun q e=>by injection e with e; exact e.symm)
  have h2:=hk.trans h1 (q:=fun q=>q=g) (fun k hk e=>by omega)
  exact h2.more (fun k hk e=>by
   rcases e with e | e | e
   ·exact .inl e
   ·exact .inr e
   ·omega)
theorem Jkn (W:World) (g:Nat) (v0 v1 v2 v3 v4 v5 v6 v7 v8 v9 v10 v11:Value):W.grownBy ((((((((((((W.setCell ⟨g,0,none⟩ v0).setCell ⟨g,1,none⟩ v1).setCell ⟨g,2,none⟩ v2).setCell ⟨g,3,none⟩ v3).setCell ⟨g,4,none⟩ v4).setCell ⟨g,5,none⟩ v5).setCell ⟨g,6,none⟩ v6).setCell ⟨g,7,none⟩ v7).setCell ⟨g,8,none⟩ v8).setCell ⟨g,9,none⟩ v9).setCell ⟨g,10,none⟩ v10).setCell ⟨g,11,none⟩ v11) (some g):=
 zI9 g [v0,v1,v2,v3,v4,v5,v6,v7,v8,v9,v10,v11] 0 W
theorem Jj8 (p0:Nat->Prop) (b:Nat) (w:World) (σ:Wd) (sv:Nat->SrvV) (cv:Nat->ClV) (dv:Value) (h:WIn p0 b w σ sv cv dv) :
  Calls Tryz.prog 74 #[.pointer (some ⟨b,0,none⟩)] w fun e w'=>e=.returned (.tuple #[])/\WIn p0 b w' (Jay σ) sv cv dv/\w.grownBy w' (some b):=by
 have H:=zA0 h;have hlt:b<w.heap.size:=h.lt;have f0:w.frozen? ⟨b,78,none⟩=false:=h.frozen 78;have f1:w.frozen? ⟨b,79,none⟩=false:=h.frozen 79;have f2:w.frozen? ⟨b,80,none⟩=false:=h.frozen 80;have f3:w.frozen? ⟨b,81,none⟩=false:=h.frozen 81;have k0:w.cell? ⟨b,78,none⟩=some (.int .i64 σ.lead):=h.restAt (j:=0) rfl;have k1:w.cell? ⟨b,79,none⟩=some (.bool (σ.f 0)):=h.restAt (j:=1) rfl;have k2:w.cell? ⟨b,80,none⟩=some (.bool (σ.f 1)):=h.restAt (j:=2) rfl;have k3:w.cell? ⟨b,81,none⟩=some (.bool (σ.f 2)):=h.restAt (j:=3) rfl;clear h;go_enter Tryz.func74,Tryz.ntmps74
 go_wp2;refine bodyPost_end (v:=.tuple #[]) (by simp [results,Tryz.results74,go_sem]) rfl ?_
 have e0:=H.out.putRest (j:=0) qG1 (.int .i64 (-1)) (τ:={ σ with lead:=-1 }) rfl rfl rfl H.out.f3 rfl
 have e1:=e0.putRest (j:=1) qG1 (.bool false) (τ:={ σ with lead:=-1,fol:=[false,σ.f 1,σ.f 2] }) rfl rfl rfl rfl rfl
 have e2:=e1.putRest (j:=2) qG1 (.bool false) (τ:={ σ with lead:=-1,fol:=[false,false,σ.f 2] }) rfl rfl rfl rfl rfl
 have e3:=e2.putRest (j:=3) qG1 (.bool false) (τ:=Jay σ) rfl rfl rfl rfl rfl;exact ⟨rfl,e3,(((zD9 _ _ _ _).trans (zD9 _ _ _ _)).trans (zD9 _ _ _ _)).trans (zD9 _ _ _ _)⟩
theorem WIn.push {p0:Nat->Prop} {b:Nat} {W W':World} {σ:Wd} {sv:Nat->SrvV} {cv:Nat->ClV} {dv nv v2:Value} (h:WIn (fun q=>p0 q\/nv.ownBlock=some q) b W σ sv cv dv) (hg:W.grownBy W' nv.ownBlock) (hat:v2.ownBlock=nv.ownBlock\/v2.ownBlock=some W.heap.size) :
  WIn (fun q=>p0 q\/v2.ownBlock=some q) b W' σ sv cv dv:=by
 have h1:=h.more (p1:=fun q=>(p0 q\/nv.ownBlock=some q)\/v2.ownBlock=some q) (fun q e=>by
  rcases e with e | e
  ·exact .inl e
  ·rcases hat with a | a
   ·exact .inl (.inr (a▸e))
   ·rw [a] at e
    injection e with e
    exact .inr (zH1 e))
 have h2:WIn (fun q=>(p0 q\/nv.ownBlock=some q)\/v2.ownBlock=some q) b W' σ sv cv dv:=by
  cases hn:nv.ownBlock with
  | none=>
   rw [hn] at hg;exact (h1.below (Below.of_grown hg)) |> (hn▸·)
  | some g=>
   rw [hn] at hg;exact (h1.other hg (.inl (.inr hn))) |> (hn▸·)
 exact h2.more (fun q e=>.inl (by
  rcases e with e | e
  ·exact .inl (.inl e)
  ·exact .inr e))
theorem SlA.push {α:Type} {p p1:Nat->Prop} {f:α->List Value} {s:Nat} {W W':World} {v nv v2:Value} {l:List α} (h:SlA p f s W v l) (hn:∀ q,nv.ownBlock=some q->p q) (hg:W.grownBy W' nv.ownBlock) (hp:∀ q,p1 q->p q\/W.heap.size<=q):SlA p1 f s W' v l:=
 h.grow hg hn hp
def TabB (b : Nat) (w : World) : Prop := Tab w ∧ ∀ g, Tryz.prog.globalNamed "internal/strconv.uint64pow10" = some g → g < b
theorem TabB.low {b:Nat} {w w':World} (h:TabB b w) (hb:Below b w w'):TabB b w':=by
 obtain ⟨⟨h1,g,hg⟩,h2⟩:=h;refine ⟨⟨?_,g,hg⟩,h2⟩;unfold Lib.TabIs World.var? at h1 ⊢;rw [hg] at h1 ⊢;simp only [Option.bind_some] at h1 ⊢;rw [hb.block g (h2 g hg)];exact h1
theorem TabB.keeps {b:Nat} {p:Nat->Prop} {w w':World} (h:TabB b w) (hk:Keeps p w w') (hb:b<=w.heap.size) (hp:∀ k,p k->b<=k):TabB b w':=h.low (hk.low hb hp)
abbrev zD2:=@Jkn
abbrev zD4:=@JnJ
theorem wCrash (p0:Nat->Prop) (b:Nat) (w:World) (σ:Wd) (sv:Nat->SrvV) (cv:Nat->ClV) (dv:Value) (h:WIn p0 b w σ sv cv dv) (hp0:∀ q,p0 q->q<w.heap.size) (i:Nat) (hi:i<3) (keep:Int) (hz:∀ x∈(σ.s i).disk,x.sized) :
  Calls Tryz.prog 54 #[.pointer (some ⟨b,0,none⟩),.int .i64 (i:Int),.int .i64 keep] w (DoRes p0 b dv (JbI σ i keep).1 (JbI σ i keep).2 w):=by
 have H:=zA0 (h.more (p1:=fun q=>p0 q\/q=w.heap.size) (fun q e=>e.imp id (fun e=>by omega)))
 have hlt:b<w.heap.size:=h.lt;have HC:=zA0 (fun (W:World) (hb:Below w.heap.size w W) (hW:w.heap.size<W.heap.size)=>Jmc (pW (fun q=>p0 q\/q=w.heap.size) b dv) _ (σ.s i) (sv i) keep W ((H.out.srv i hi).below hb) (fun q hq=>by
  rcases hq with (hq | hq) | hq | hq
  ·have:=hp0 q hq; omega
  ·omega
  ·omega
  ·have:=(h.dn.own_in hq).2; omega) hz)
 have g0:(0:Int)<=(i:Int):=qCE;have g1:(i:Int)<3:=qCE;have hgb:w.heap.size≠b:=qCE;clear h hz hp0;go_enter Tryz.func54,Tryz.ntmps54
 go_upto_region 1 with fail
 refine Jax (fun W0 hW0=>?_)
 have hB0:Below w.heap.size w W0:=qaE;have hs0:w.heap.size<W0.heap.size:=by rw [hW0.out]; simp
 have HR0:=zA0 (show Bk W0 w.heap.size rpZ 35 by rw [hW0.out]; exact Bk.new _ _ _ rfl)
 have H0:=zA0 (H.out.below hB0);clear hW0 H;obtain ⟨c0,c1,c2,c3,c4,c5,c6,c7,c8,c9⟩:=H0.out.srvCells hi;have hlt0:b<W0.heap.size:=qCE;have hcr:Hid (JbI σ i keep=if (σ.s i).up=false then (σ,rp 14) else if Jbh (σ.s i).disk keep≠0 then (σ,rp (Jbh (σ.s i).disk keep)) else (if σ.lead=(i:Int) then Jay (Jft σ i keep) else Jft σ i keep,rp 0)):=zA0 rfl
 have hdn:Hid (Jft σ i keep={ σ with srv:=σ.srv.set i (JaQ (σ.s i) keep),fol:=σ.fol.set i false }):=zA0 rfl
 by_cases hu:(σ.s i).up=false
 ·have HQ:=zA0 (hcr.out.trans (if_pos hu))
  rw [hu] at c0;clear hcr HC;have hff:∀ j,W0.frozen? ⟨w.heap.size,j,none⟩=false:=fun j=>HR0.out.frozen j
  obtain ⟨q0,q1,q2,q3,q4,q5,q6,q7,q8,q9,q10,q11⟩:=zD4 HR0.out;go_wp2_with fail;refine zA1 (v:=rpV (rp 14) none 0) (by simp [results,Tryz.results54,go_sem,q0,q1,q2,q3,q4,q5,q6,q7,q8,q9,q10,q11]) rfl ?_
  rw [HQ.out];exact H0.out.reply (zA3 _) (zC3 hB0) (.inl rfl) (rp 14) none 0 (SlA.nil _ _ _ _) (zD2 _ _ _ _ _ _ _ _ _ _ _ _ _ _)
 have hu':(σ.s i).up=true:=by simpa using hu
 by_cases hE:Jbh (σ.s i).disk keep=0
 ·have HR:=zA0 (hcr.out.trans (if_neg hu) |>.trans (if_neg (fun e=>e hE)))
  have hS:JaQ (σ.s i) keep=⟨false,JdG (σ.s i).disk keep,(σ.s i).id,0,[],0,0,[rootN],[],[]⟩:=if_pos hE;rw [hS] at HC hdn;rw [hE] at HC;rw [hu'] at c0;unfold Jdu at HC;have hvs:vSrv (σ.s i) (sv i)=.agg #[.bool true,.slice (sv i).da (σ.s i).disk.length (sv i).dc,.int .i64 (σ.s i).id,.int .i64 (σ.s i).epoch,.slice (sv i).la (σ.s i).log.length (sv i).lc,.int .i64 (σ.s i).done_,.int .i64 (σ.s i).tz,.slice (sv i).na (σ.s i).nodes.length (sv i).nc,.slice (sv i).sa (σ.s i).sess.length (sv i).sc,.slice (sv i).wa (σ.s i).watches.length (sv i).wc]:=by unfold vSrv; rw [hu']
  rw [hvs] at HC;clear hS hvs hcr hu hE hu';generalize JdG (σ.s i).disk keep=D at *;go_upto_region 5 with ((go_at_call 34; refine (HC.out _ hB0 hs0).mono ?_; rintro e w1 ⟨⟨da,dc,la,lc,na,nc,sa,sc,wa,wc⟩,rfl,hin,hb⟩; obtain ⟨ext1,d1,rfl⟩:=zA2 _ hb; have HIN:=zA0 hin; clear hin hb))
  refine Jax (fun W1 hW1=>?_)
  have hB1:Below W0.heap.size W0 W1:=qNE;have d0:W1.cell? ⟨W0.heap.size+ext1.size,0,none⟩=some (.bool false):=qDE;have d1:W1.cell? ⟨W0.heap.size+ext1.size,1,none⟩=some (.slice da D.length dc):=qDE;have d2:W1.cell? ⟨W0.heap.size+ext1.size,2,none⟩=some (.int .i64 (σ.s i).id):=qDE;have d3:W1.cell? ⟨W0.heap.size+ext1.size,3,none⟩=some (.int .i64 0):=qDE;have d4:W1.cell? ⟨W0.heap.size+ext1.size,4,none⟩=some (.slice la 0 lc):=qDE;have d5:W1.cell? ⟨W0.heap.size+ext1.size,5,none⟩=some (.int .i64 0):=qDE;have d6:W1.cell? ⟨W0.heap.size+ext1.size,6,none⟩=some (.int .i64 0):=qDE;have d7:W1.cell? ⟨W0.heap.size+ext1.size,7,none⟩=some (.slice na 1 nc):=qDE;have d8:W1.cell? ⟨W0.heap.size+ext1.size,8,none⟩=some (.slice sa 0 sc):=qDE;have d9:W1.cell? ⟨W0.heap.size+ext1.size,9,none⟩=some (.slice wa 0 wc):=qDE;have hg8:W0.heap.size+ext1.size<W1.heap.size:=by rw [hW1.out]; simp
  have hin1:=zA0 (HIN.out.below (show Below _ _ W1 by rw [hW1.out]; exact zR))
  have H1:=zA0 (H0.out.below hB1);have HR1:=zA0 (HR0.out.below hB1);have hbB1:=zA0 (zB8 hB0 hB1);clear hW1 HIN H0 HR0 HC c0 c1 c2 c3 c4 c5 c6 c7 c8 c9 hB0;obtain ⟨c0,c1,c2,c3,c4,c5,c6,c7,c8,c9⟩:=H1.out.srvCells hi;have hfb:∀ j,W1.frozen? ⟨b,j,none⟩=false:=fun j=>H1.out.frozen j
  have hlt1:b<W1.heap.size:=H1.out.lt;go_upto_region 8 with fail
  refine Jax (fun W2 hW2=>?_)
  have hput:=H1.out.putSrvC hi hin1.out;simp only [zG6,zD5,zG3] at hput;rw [<-hW2.out] at hput;obtain ⟨hp1,hp2⟩:=hput;have H2:=zA0 hp1;have hG2:=zA0 hp2;have HR2:=zA0 (HR1.out.grown hp2 (fun e=>hgb qD1))
  clear hW2 hp1 hp2 d0 d1 d2 d3 d4 d5 d6 d7 d8 d9 c0 c1 c2 c3 c4 c5 c6 c7 c8 c9 hfb H1 HR1 hin1;have e0:W2.cell? ⟨b,79+i,none⟩=some (.bool (σ.f i)):=H2.out.folCell hi;have hfb:∀ j,W2.frozen? ⟨b,j,none⟩=false:=fun j=>H2.out.frozen j
  go_upto_region 9 with fail
  refine Jax (fun W3 hW3=>?_)
  have H3:=zA0 (show WIn _ b W3 _ _ _ _ from hW3.out▸H2.out.putFol hi false)
  have hG3:=zA0 (show W2.grownBy W3 (some b) by rw [hW3.out]; exact zD9 _ _ _ _)
  have HR3:=zA0 (HR2.out.grown hG3.out (fun e=>hgb qD1))
  have hK3:Hid (Keeps (fun q=>q=b\/dv.ownBlock=some q\/w.heap.size<=q) w W3):=zA0 (((zC3 hbB1.out (p:=fun q=>q=b)).trans (zE8 (p:=fun q=>q=b) hG2.out (fun q e=>by injection e with e; exact e.symm)) (fun _ _ e=>e)).trans (zE8 (p:=fun q=>q=b) hG3.out (fun q e=>by injection e with e; exact e.symm)) (fun _ _ e=>e) |>.more (fun k _ e=>.inl e))
  rw [<-hdn.out] at H3;clear hW3 e0 hfb H2 HR2 hG2 hG3 hbB1;have e0:W3.cell? ⟨b,78,none⟩=some (.int .i64 σ.lead):=H3.out.restAt (j:=0) (by rw [hdn.out]; rfl)
  have hff:∀ j,W3.frozen? ⟨w.heap.size,j,none⟩=false:=fun j=>HR3.out.frozen j
  by_cases hl:σ.lead=(i:Int)
  ·have HQ:=zA0 (HR.out)
   rw [if_pos hl] at HQ;have b0:(σ.lead == (i:Int))=true:=zH0.2 hl;have HWR:=zA0 (Jj8 _ b W3 _ _ _ _ H3.out);go_upto_region 11 with ((go_at_call 74; refine (HWR.out).mono ?_; rintro e w1 ⟨rfl,hin4,hg4⟩; skip))
   have HR4:=zA0 (HR3.out.grown hg4 (fun e=>hgb qD1))
   have hK4:=zA0 (hK3.out.trans (zE8 (p:=fun q=>q=b) hg4 (fun q e=>by injection e with e; exact e.symm)) (fun _ _ e=>.inl e))
   have H4:=zA0 hin4;clear hin4 hg4 HWR hK3 H3 HR3 hff e0;have hff:∀ j,w1.frozen? ⟨w.heap.size,j,none⟩=false:=fun j=>HR4.out.frozen j
   obtain ⟨q0,q1,q2,q3,q4,q5,q6,q7,q8,q9,q10,q11⟩:=zD4 HR4.out;go_wp2_with fail;refine zA1 (v:=rpV (rp 0) none 0) (by simp [results,Tryz.results54,go_sem,q0,q1,q2,q3,q4,q5,q6,q7,q8,q9,q10,q11]) rfl ?_
   rw [HQ.out];exact H4.out.reply (zA3 _) hK4.out (.inl rfl) (rp 0) none 0 (SlA.nil _ _ _ _) (zD2 _ _ _ _ _ _ _ _ _ _ _ _ _ _)
  ·have HQ:=zA0 (HR.out)
   rw [if_neg hl] at HQ;have b0:(σ.lead == (i:Int))=false:=zB7.2 hl;clear hdn HR hl hff;have hff:∀ j,W3.frozen? ⟨w.heap.size,j,none⟩=false:=fun j=>HR3.out.frozen j
   obtain ⟨q0,q1,q2,q3,q4,q5,q6,q7,q8,q9,q10,q11⟩:=zD4 HR3.out;go_wp2_with fail;refine zA1 (v:=rpV (rp 0) none 0) (by simp [results,Tryz.results54,go_sem,q0,q1,q2,q3,q4,q5,q6,q7,q8,q9,q10,q11]) rfl ?_
   rw [HQ.out];exact H3.out.reply (zA3 _) hK3.out (.inl rfl) (rp 0) none 0 (SlA.nil _ _ _ _) (zD2 _ _ _ _ _ _ _ _ _ _ _ _ _ _)
 ·have HQ:=zA0 (hcr.out.trans (if_neg hu) |>.trans (if_pos hE))
  have hS:JaQ (σ.s i) keep=JcQ:=if_neg hE;rw [hS] at HC;rw [hu'] at c0;unfold Jdu at HC;have hvs:vSrv (σ.s i) (sv i)=.agg #[.bool true,.slice (sv i).da (σ.s i).disk.length (sv i).dc,.int .i64 (σ.s i).id,.int .i64 (σ.s i).epoch,.slice (sv i).la (σ.s i).log.length (sv i).lc,.int .i64 (σ.s i).done_,.int .i64 (σ.s i).tz,.slice (sv i).na (σ.s i).nodes.length (sv i).nc,.slice (sv i).sa (σ.s i).sess.length (sv i).sc,.slice (sv i).wa (σ.s i).watches.length (sv i).wc]:=by unfold vSrv; rw [hu']
  rw [hvs] at HC;clear hS hvs hcr hu hu' hdn;generalize Jbh (σ.s i).disk keep=cd at *;have b8:(cd == 0)=false:=zB7.2 hE;have b9:(cd != 0)=true:=zC9.2 hE;go_upto_region 5 with ((go_at_call 34; refine (HC.out _ hB0 hs0).mono ?_; rintro e w1 ⟨⟨da,dc,la,lc,na,nc,sa,sc,wa,wc⟩,rfl,hin,hb⟩; obtain ⟨ext1,d1,rfl⟩:=zA2 _ hb; clear hin hb))
  refine Jax (fun W1 hW1=>?_)
  have hB1:Below W0.heap.size W0 W1:=qNE;have H1:=zA0 (H0.out.below hB1);have HR1:=zA0 (HR0.out.below hB1);have hbB1:=zA0 (zB8 hB0 hB1);clear hW1 H0 HR0 HC c0 c1 c2 c3 c4 c5 c6 c7 c8 c9 hB0;have hff:∀ j,W1.frozen? ⟨w.heap.size,j,none⟩=false:=fun j=>HR1.out.frozen j
  obtain ⟨q0,q1,q2,q3,q4,q5,q6,q7,q8,q9,q10,q11⟩:=zD4 HR1.out;go_wp2_with fail;refine zA1 (v:=rpV (rp cd) none 0) (by simp [results,Tryz.results54,go_sem,q0,q1,q2,q3,q4,q5,q6,q7,q8,q9,q10,q11]) rfl ?_
  rw [HQ.out];exact H1.out.reply (zA3 _) (zC3 hbB1.out) (.inl rfl) (rp cd) none 0 (SlA.nil _ _ _ _) (zD2 _ _ _ _ _ _ _ _ _ _ _ _ _ _)
end
end Go.Proofs.YtjnooagaghdkdaaGreatDoor
