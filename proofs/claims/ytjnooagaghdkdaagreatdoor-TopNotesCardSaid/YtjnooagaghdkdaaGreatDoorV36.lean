/-L-/
import Derived.Test.YtjnooagaghdkdaaGreatDoorV34
set_option maxHeartbeats 10000000
set_option maxRecDepth 100000
set_option linter.all false
namespace Go.Proofs.YtjnooagaghdkdaaGreatDoor
section
open Go.RowKit Go.ChangeShapes Go.WideShapes Go.ChangeAt
theorem boot0 (i:Int):Jce i [] ⟨true,dskB none noB noB,i,0,[],0,0,[rootN],[],[]⟩ 0:=by
 refine ⟨[],dskB none noB noB,.inl ⟨?_,rfl,?_,?_⟩,.inl ⟨rfl,?_⟩⟩
 ·rfl
 ·have h:JaI []=true:=by kernel_rfl
  have h2:JaK (bs logN)=true:=by kernel_rfl
  unfold JbI;rw [if_pos h,if_pos h2];rfl
 ·have h:JaI []=true:=by kernel_rfl
  have h2:JaK (bs logN)=true:=by kernel_rfl
  unfold Jbv;rw [if_pos h,if_pos h2];rfl
 ·have:Jb9 []=0:=JhB qJ1
  rw [this]
theorem up0 (i:Nat):UpIn [] 0 i (srv0 i):=
 { up:=rfl,id:=rfl,lg:=⟨List.Sublist.refl _,trivial⟩,dk:=⟨none,[],[],rfl,rfl,.inl ⟨rfl,rfl⟩⟩,dn:=⟨0,rfl,zA3 _,rfl⟩,wt:=fun x hx=>absurd hx (by simp [srv0]),wl:=zA3 _ }
theorem ep0 (i:Nat):epOf (srv0 i)=0:=EpQ.is (q:=none) (.inl ⟨rfl,rfl⟩) qJ1
theorem new_inv:Inv [] 0 0 newW:=by
 have hs:∀ i,i<3->newW.s i=srv0 i:=fun i hi=>by
  match i,hi with
  | 0,_=>rfl
  | 1,_=>rfl
  | 2,_=>rfl
 have hc:∀ i,i<16->newW.c i=⟨(i:Int)+1,0,[]⟩:=fun i hi=>by
  show ((List.range 16).map (fun i:Nat=>(⟨(i:Int)+1,0,[]⟩:Cli))).getD i noCl=_
  rw [zE3,zH2,List.getElem?_range hi];rfl
 refine ⟨{ n3:=rfl,f3:=rfl,c16:=rfl,reg:=⟨⟨by simp,List.Pairwise.nil⟩,by simp⟩,len:=zA3 _,k300:=by decide,srv:=fun i hi=>.inl (by rw [hs i hi]; exact up0 i),cl:=fun i hi=>?_,rep:=by simp,e0:=zD9 _,two:=⟨0,1,by decide,by decide,?_,?_⟩,epK:=fun i hi=>?_,dn:=List.Sublist.refl _ },.inl rfl⟩
 ·rw [hc i hi]
  exact ⟨rfl,zD9 _,zD9 _,fun i j x y _ hx _=>by simp at hx,zA3 _⟩
 ·rw [hs 0 qJ1,ep0]
  exact zD9 _
 ·rw [hs 1 qJ1,ep0]
  exact zD9 _
 ·rw [hs i hi,ep0]
  exact zD9 _
section
variable {Reg:List Txn} {E:Int} {K:Nat} {σ τ:Wd}
theorem Inv0.logs (h:Inv0 Reg E K σ) {i:Nat} (hi:i<3):(σ.s i).log.Sublist Reg:=by
 rcases h.srv i hi with u | u
 ·exact u.lg.sub
 ·rw [u.eq]
  exact List.nil_sublist _
theorem Inv0.owned (h:Inv0 Reg E K σ) {i:Nat} (hi:i<3):Jam (trOf (σ.s i))=true:=by
 rcases h.srv i hi with u | u
 ·exact u.com.2.2.1
 ·rw [u.eq]
  exact Jlt
theorem Inv.led (h:Inv Reg E K σ) (hl:¬ σ.lead<0):∃ l:Nat,σ.lead=(l:Int)/\l<3/\(σ.s l).up=true/\(σ.s l).id=(l:Int)/\(σ.s l).done_=((σ.s l).log.length:Nat)/\(σ.s l).epoch=E/\LeadIn Reg E σ l:=by
 rcases h.lead with e | ⟨l,e,li,d⟩
 ·rw [e] at hl
  exact absurd qJ1 hl
 ·have:=li.same l li.lt li.fl
  exact ⟨l,e,li.lt,this.1,h.toInv0.id li.lt,d,this.2.1,li⟩
theorem Je5 (σ:Wd) (d:Deed):(300<=σ.deeds/\doW σ d=(σ,rp 6))\/(σ.deeds<300/\(
  (d.kind=1/\doW σ d=JbA { σ with deeds:=σ.deeds+1 } d)\/
  (d.kind=2/\doW σ d=Jdz { σ with deeds:=σ.deeds+1 } d)\/
  (d.kind=5/\doW σ d=Ja0 { σ with deeds:=σ.deeds+1 })\/
  (d.kind≠1/\d.kind≠2/\d.kind≠5/\((∃ c,(c=3\/c=4)/\doW σ d=({ σ with deeds:=σ.deeds+1 },rp c))\/
   (∃ i,i<3/\doW σ d=upW { σ with deeds:=σ.deeds+1 } i)\/(∃ i,i<3/\doW σ d=Jch { σ with deeds:=σ.deeds+1 } i d.keep))))):=by
 unfold doW
 by_cases h0:300<=σ.deeds
 ·rw [if_pos h0]
  exact .inl ⟨h0,rfl⟩
 rw [if_neg h0];refine .inr ⟨by omega,?_⟩
 simp only
 by_cases h1:d.kind=1
 ·rw [if_pos h1]
  exact .inl ⟨h1,rfl⟩
 rw [if_neg h1]
 by_cases h2:d.kind=2
 ·rw [if_pos h2]
  exact .inr (.inl ⟨h2,rfl⟩)
 rw [if_neg h2]
 by_cases h3:d.kind=5
 ·rw [if_pos h3]
  exact .inr (.inr (.inl ⟨h3,rfl⟩))
 rw [if_neg h3];refine .inr (.inr (.inr ⟨h1,h2,h3,?_⟩))
 by_cases h4:d.kind=3\/d.kind=4
 ·rw [if_pos h4]
  by_cases h5:d.server<0\/3<=d.server
  ·rw [if_pos h5]
   exact .inl ⟨3,.inl rfl,rfl⟩
  rw [if_neg h5];have hi:d.server.toNat<3:=qCE
  by_cases h6:d.kind=4
  ·rw [if_pos h6]
   exact .inr (.inl ⟨_,hi,rfl⟩)
  ·rw [if_neg h6]
   exact .inr (.inr ⟨_,hi,rfl⟩)
 ·rw [if_neg h4]
  exact .inl ⟨4,.inr rfl,rfl⟩
theorem JpB (l:List Watch) (x:Watch):addE l x≠7/\addE l x≠16:=by
 unfold addE
 repeat' split
 all_goals decide
theorem JjA (l:List Node) (p:ByteArray):getE l p=0\/getE l p=7:=by
 unfold getE;split
 ·exact .inl rfl
 ·exact .inr rfl
structure RdIn (σ τ:Wd) (d:Deed) (r:Rp) (i k:Nat):Prop where
 ie:d.server=(i:Int)
 i3:i<3
 ke:d.client=(k:Int)
 k16:k<16
 up:(σ.s i).up=true
 le:(σ.c k).seen<=(σ.s i).tz
 rz:r.zxid=(σ.s i).tz
 rc:r.code=getE (σ.s i).nodes d.path
 rn:r.notes=[]
 lead:τ.lead=σ.lead
 dn:τ.dn=σ.dn
 s:∀ j,∃ ws,τ.s j={ σ.s j with watches:=ws }
 c:∀ j,j<16->(τ.c j).seen=if k=j then (σ.s i).tz else (σ.c j).seen
theorem c_set (h:σ.cl.length=16) (c:Cli) {k:Nat} (hk:k<16) (v:List Srv) (j:Nat):({ σ with srv:=v,cl:=σ.cl.set k c }:Wd).c j=if k=j then c else σ.c j:=by
 show (σ.cl.set k c).getD j noCl=_;rw [JdZ,h]
 by_cases e:k=j
 ·rw [if_pos ⟨e,hk⟩,if_pos e]
 ·rw [if_neg (fun q=>e q.1),if_neg e]
  rfl
theorem Jfo (h:Inv0 Reg E K σ) (d:Deed):(∃ c,c≠0/\c≠7/\c≠16/\Jdz σ d=(σ,rp c))\/(∃ i k,RdIn σ (Jdz σ d).1 d (Jdz σ d).2 i k):=by
 unfold Jdz
 by_cases h1:d.client<0\/16<=d.client\/d.server<0\/3<=d.server
 ·rw [if_pos h1]
  exact .inl ⟨3,by decide,by decide,by decide,rfl⟩
 rw [if_neg h1];have hi:d.server.toNat<3:=qCE;have hk:d.client.toNat<16:=qCE;have ei:d.server=(d.server.toNat:Int):=qCE;have ek:d.client=(d.client.toNat:Int):=qCE;generalize d.server.toNat=i at hi ei ⊢;generalize d.client.toNat=k at hk ek ⊢;simp only
 by_cases h2:(σ.s i).up=false
 ·rw [if_pos h2]
  exact .inl ⟨14,by decide,by decide,by decide,rfl⟩
 rw [if_neg h2];have hu:(σ.s i).up=true:=by simpa using h2
 by_cases h3:(σ.s i).tz<(σ.c k).seen
 ·rw [if_pos h3]
  exact .inl ⟨15,by decide,by decide,by decide,rfl⟩
 rw [if_neg h3]
 by_cases h4:d.watch=true
 ·rw [if_pos h4]
  by_cases h5:addE (σ.s i).watches ⟨(σ.c k).session,1,d.path⟩=0
  ·rw [if_neg (fun e=>e h5)]
   refine .inr ⟨i,k,{ ie:=ei,i3:=hi,ke:=ek,k16:=hk,up:=hu,le:=by omega,rz:=rfl,rc:=rfl,rn:=rfl,lead:=rfl,dn:=rfl,s:=?_,c:=?_ }⟩
   ·intro j
    have:=Jh0 σ σ.fol i j { σ.s i with watches:=addL (σ.s i).watches ⟨(σ.c k).session,1,d.path⟩ } qv0
    show ∃ ws,({ σ with srv:=σ.srv.set i { σ.s i with watches:=addL (σ.s i).watches ⟨(σ.c k).session,1,d.path⟩ },fol:=σ.fol }:Wd).s j=_
    rw [this]
    by_cases e:i=j
    ·subst e
     rw [if_pos rfl];exact ⟨_,rfl⟩
    ·rw [if_neg e]
     exact ⟨_,rfl⟩
   ·intro j hj
    rw [c_set h.c16 _ hk];split <;> rfl
  ·rw [if_pos h5]
   have:=JpB (σ.s i).watches ⟨(σ.c k).session,1,d.path⟩;exact .inl ⟨_,h5,this.1,this.2,rfl⟩
 ·rw [if_neg h4]
  refine .inr ⟨i,k,{ ie:=ei,i3:=hi,ke:=ek,k16:=hk,up:=hu,le:=by omega,rz:=rfl,rc:=rfl,rn:=rfl,lead:=rfl,dn:=rfl,s:=fun j=>⟨_,rfl⟩,c:=?_ }⟩
  intro j hj;have:=c_set h.c16 ⟨(σ.c k).session,(σ.s i).tz,(σ.c k).cache⟩ hk σ.srv j;rw [this];split <;> rfl
theorem Jfx (σ:Wd) (i:Nat) (k:Int):(Jch σ i k).2.code≠16/\(Jch σ i k).2.notes=[]/\(Jch σ i k).1.cl=σ.cl/\(Jch σ i k).1.dn=σ.dn:=by
 have hE:Jbw (σ.s i).disk k≠16:=by
  unfold Jbw
  repeat' split
  all_goals decide
 unfold Jch;split
 ·exact ⟨fun e=>absurd (show (14:Int)=16 from e) qJ1,rfl,rfl,rfl⟩
 ·split
  ·exact ⟨hE,rfl,rfl,rfl⟩
  ·refine ⟨fun e=>absurd (show (0:Int)=16 from e) qJ1,rfl,?_,?_⟩
   ·simp only
    split <;> rfl
   ·simp only
    split <;> rfl
theorem Jj8 (h:Inv0 Reg E K σ) {i:Nat} (hi:i<3):(upW σ i).2.code≠16/\(upW σ i).2.notes=[]/\(upW σ i).1.cl=σ.cl/\(upW σ i).1.dn=σ.dn:=by
 unfold upW
 by_cases hu:(σ.s i).up=true
 ·rw [if_pos hu]
  exact ⟨fun e=>absurd (show (8:Int)=16 from e) qJ1,rfl,rfl,rfl⟩
 rw [if_neg hu];obtain ⟨b1,_⟩:=(h.down hi (by simpa using hu)).boot h.reg h.small
 rw [if_neg (fun e=>e b1)]
 exact ⟨fun e=>absurd (show (0:Int)=16 from e) qJ1,rfl,rfl,rfl⟩
theorem JgK (l:List Txn) (ep:Int):∀ (is:List Nat) (r:Wd × List Note),(Jbs l ep is r).2.2=0\/(Jbs l ep is r).2.2=13
 | [],r=>.inl rfl
 | i :: is,r=>by
  unfold Jbs;split
  ·exact JgK l ep is r
  ·split
   ·exact .inr rfl
   ·exact JgK l ep is _
theorem JhD (h:Inv Reg E K σ) (hK:K+1<=300):((Ja0 σ).2.code=0\/(Ja0 σ).2.code=13\/(Ja0 σ).2.code=14)/\(∀ i,i<16->((Ja0 σ).1.c i).seen=(σ.c i).seen):=by
 unfold Ja0
 by_cases h2:(upsW σ).length<2
 ·rw [if_pos h2]
  exact ⟨.inr (.inr rfl),fun _ _=>rfl⟩
 rw [if_neg h2];obtain ⟨k,hk1,_,hk2⟩:=Jk1 h.toInv0 qK1;obtain ⟨t1,t2,t3⟩:=h.toInv0.topE qK1;have hmem:(upsW σ).getD (Jei (upsW σ)) Jku∈upsW σ:=by
  rw [hk2,zE3,zA8 hk1];exact zI0 hk1
 obtain ⟨j,hj,hju,hjp⟩:=JhS h.n3 hmem;rw [hjp];simp only;have h0:=h.e0;have hep:Half (topE (upsW σ)+1):=⟨by omega,by have:=h.k300; omega⟩
 have hm:Inv Reg E (K+1) (Jax σ):=(h.toInv0.mono (zC9 K) hK).resign;have hlg:=(h.toInv0.up hj hju).lg;have F:=Je0 (l:=(Jas (σ.s j)).log) hlg hep (K:=K+1) qK1 [0,1,2] (Jax σ) [] hm.toInv0 qJ1 qL1 (fun i hi hu=>by
  have:=t3 i (by simp at hi; omega) hu
  show epOf (σ.s i)<=_;omega)
 have hc:(Jbs (Jas (σ.s j)).log (topE (upsW σ)+1) [0,1,2] (Jax σ,[])).2.2=0\/(Jbs (Jas (σ.s j)).log (topE (upsW σ)+1) [0,1,2] (Jax σ,[])).2.2=13:=JgK _ _ _ _;generalize Jbs (Jas (σ.s j)).log (topE (upsW σ)+1) [0,1,2] (Jax σ,[])=r at F hc ⊢;obtain ⟨τ,ns,c⟩:=r;simp only at F hc ⊢
 by_cases hc0:c=0
 ·rw [if_neg (fun e=>e hc0)]
  refine ⟨.inl rfl,fun i hi=>?_⟩
  have hcl:τ.cl=σ.cl:=F.cl;have:=Jpn (σ:={ τ with lead:=(Jas (σ.s j)).id }) F.inv.c16 (JcQ ns) hi
  show (Wd.c { ({ τ with lead:=(Jas (σ.s j)).id }:Wd) with cl:=τ.cl.map (JcQ ns) } i).seen=_
  rw [this];show (τ.c i).seen=_;unfold Wd.c;rw [hcl]
 ·rw [if_pos hc0]
  refine ⟨.inr (.inl (hc.resolve_left hc0)),fun i hi=>?_⟩
  have hcl:τ.cl=σ.cl:=F.cl;show (τ.c i).seen=_;unfold Wd.c;rw [hcl]
end
section
variable {Reg:List Txn} {E:Int} {K:Nat} {σ τ:Wd}
theorem do_lost (h:Inv Reg E σ.deeds σ) (d:Deed) (hc:(doW σ d).2.code=16):d.kind=1/\(doW σ d).1.lead = -1/\∀ x∈(doW σ d).1.dn,x.zxid≠(doW σ d).2.zxid:=by
 rcases Je5 σ d with ⟨_,e⟩ | ⟨hK,hp⟩
 ·rw [e] at hc
  exact absurd (show (6:Int)=16 from hc) qJ1
 have hτ:=h.deeds (σ.deeds+1);rcases hp with ⟨hk,e⟩ | ⟨hk,e⟩ | ⟨hk,e⟩ | ⟨k1,k2,k5,hp⟩
 ·refine ⟨hk,?_⟩
  rw [e] at hc ⊢;rcases JbX hτ hK d with ⟨c,_,c16,e2⟩ | ⟨l,x,υ,hv,W,h2,e2⟩ | ⟨l,x,υ,hv,W,h2,e2⟩
  ·rw [e2] at hc
   exact absurd hc c16
  ·rw [e2]
   refine ⟨rfl,fun y hy=>?_⟩
   have hdn:y∈σ.dn:=by
    have:y∈υ.dn:=hy;rw [W.tk.dn] at this;exact this
   have:=Jie h.reg (h.dn.subset hdn);have hn:=W.new;show y.zxid≠x.zxid;omega
  ·rw [e2] at hc
   exact absurd (show (0:Int)=16 from hc) qJ1
 ·exfalso
  rw [e] at hc;rcases Jfo hτ.toInv0 d with ⟨c,_,_,c16,e2⟩ | ⟨i,k,R⟩
  ·rw [e2] at hc
   exact c16 hc
  ·rw [R.rc] at hc
   rcases JjA (({ σ with deeds:=σ.deeds+1 }:Wd).s i).nodes d.path with e3 | e3 <;> rw [e3] at hc <;> exact absurd hc qJ1
 ·exfalso
  rw [e] at hc;have:=(JhD hτ hK).1;omega
 ·exfalso
  rcases hp with ⟨c,c34,e2⟩ | ⟨i,hi,e2⟩ | ⟨i,hi,e2⟩
  ·rw [e2] at hc
   have:c=16:=hc;omega
  ·rw [e2] at hc
   exact (Jj8 hτ.toInv0 hi).1 hc
  ·rw [e2] at hc
   exact (Jfx _ _ _).1 hc
structure DnIn (Reg:List Txn) (σ τ:Wd) (d:Deed) (r:Rp) (x:Txn):Prop where
 k:0<=d.client/\d.client<16
 code:r.code=0
 rz:r.zxid=x.zxid
 new:Jaq Reg<x.zxid
 dn:τ.dn=σ.dn ++ [x]
 c:∀ i,i<16->(τ.c i).seen=if d.client.toNat=i then x.zxid else (σ.c i).seen
theorem JkZ {d:Deed} {l:Nat} {x:Txn} {hv:List Nat} (h:Inv Reg E K σ) (W:WrIn Reg E K σ d l x τ hv):DnIn Reg σ (JaZ τ d.client.toNat x hv).1 d (JaZ τ d.client.toNat x hv).2 x:=by
 have hdn:=(W.commit h).2.1;have hcl:(hv.foldl Je7 (τ,[])).1.cl=σ.cl:=by
  have:∀ (hv:List Nat) (r:Wd × List Note),(hv.foldl Je7 r).1.cl=r.1.cl:=by
   intro hv
   induction hv with
   | nil=>exact fun _=>rfl
   | cons i hv ih=>exact fun r=>ih _
  rw [this];exact W.tk.cl
 refine ⟨W.cl,rfl,rfl,W.new,hdn,fun i hi=>?_⟩
 unfold JaZ;generalize hv.foldl Je7 (τ,[])=r at hcl ⊢;obtain ⟨υ,ns⟩:=r;simp only at hcl ⊢;have hk:d.client.toNat<16:=by have:=W.cl; omega
 have c16:(JaS { υ with dn:=υ.dn ++ [x] } ns).cl.length=16:=by
  show (υ.cl.map (JcQ ns)).length=16;rw [zF4,hcl];exact h.c16
 have e:=c_set (σ:=JaS { υ with dn:=υ.dn ++ [x] } ns) c16 { (JaS { υ with dn:=υ.dn ++ [x] } ns).c d.client.toNat with seen:=x.zxid } hk (JaS { υ with dn:=υ.dn ++ [x] } ns).srv i
 have e2:(JaS { υ with dn:=υ.dn ++ [x] } ns).c i=JcQ ns (σ.c i):=by
  have:=Jpn (σ:={ υ with dn:=υ.dn ++ [x] }) (by show υ.cl.length=16; rw [hcl]; exact h.c16) (JcQ ns) hi
  show ({ ({ υ with dn:=υ.dn ++ [x] }:Wd) with cl:=υ.cl.map (JcQ ns) }:Wd).c i=_
  rw [this];show JcQ ns (υ.c i)=_;unfold Wd.c;rw [hcl]
 show (({ (JaS { υ with dn:=υ.dn ++ [x] } ns) with srv:=(JaS { υ with dn:=υ.dn ++ [x] } ns).srv,cl:=(JaS { υ with dn:=υ.dn ++ [x] } ns).cl.set d.client.toNat { (JaS { υ with dn:=υ.dn ++ [x] } ns).c d.client.toNat with seen:=x.zxid } }:Wd).c i).seen=_
 rw [e]
 by_cases e3:d.client.toNat=i
 ·rw [if_pos e3,if_pos e3]
 ·rw [if_neg e3,if_neg e3,e2]
  rfl
def JcP (k c:Int):Bool:=(decide (k=2) && (decide (c=0) || decide (c=7))) || (decide (k=1) && decide (c=0))
theorem do_seen (h:Inv Reg E σ.deeds σ) (d:Deed) :
  (JcP d.kind (doW σ d).2.code=false->∀ i,i<16->((doW σ d).1.c i).seen=(σ.c i).seen)/\
  (JcP d.kind (doW σ d).2.code=true->0<=d.client/\d.client<16/\(σ.c d.client.toNat).seen<=(doW σ d).2.zxid/\∀ i,i<16->((doW σ d).1.c i).seen=if d.client.toNat=i then (doW σ d).2.zxid else (σ.c i).seen):=by
 rcases Je5 σ d with ⟨_,e⟩ | ⟨hK,hp⟩
 ·rw [e]
  refine ⟨fun _ _ _=>rfl,fun e=>?_⟩
  simp [JcP] at e
 have hτ:=h.deeds (σ.deeds+1);rcases hp with ⟨hk,e⟩ | ⟨hk,e⟩ | ⟨hk,e⟩ | ⟨k1,k2,k5,hp⟩
 ·rw [e]
  rcases JbX hτ hK d with ⟨c,c0,c16,e2⟩ | ⟨l,x,υ,hv,W,h2,e2⟩ | ⟨l,x,υ,hv,W,h2,e2⟩
  ·rw [e2]
   refine ⟨fun _ _ _=>rfl,fun e=>?_⟩
   simp [JcP,hk,c0] at e
  ·rw [e2]
   refine ⟨fun _ i hi=>?_,fun e=>?_⟩
   ·show (υ.c i).seen=(σ.c i).seen
    unfold Wd.c;rw [W.tk.cl]
   ·simp [JcP,hk] at e
  ·have D:=JkZ hτ W
   rw [e2];refine ⟨fun e=>?_,fun _=>⟨D.k.1,D.k.2,?_,fun i hi=>?_⟩⟩
   ·simp [JcP,hk,D.code] at e
   ·rw [D.rz]
    have:=(h.cl d.client.toNat (by have:=D.k; omega)).s1
    have:=D.new;omega
   ·rw [D.c i hi,D.rz]
    rfl
 ·rw [e]
  rcases Jfo hτ.toInv0 d with ⟨c,c0,c7,c16,e2⟩ | ⟨i,k,R⟩
  ·rw [e2]
   refine ⟨fun _ _ _=>rfl,fun e=>?_⟩
   simp [JcP,hk,c0,c7] at e
  ·have hke:d.client.toNat=k:=by have:=R.ke; omega
   refine ⟨fun e=>?_,fun _=>⟨by have:=R.ke; omega,by have:=R.ke; have:=R.k16; omega,?_,fun j hj=>?_⟩⟩
   ·exfalso
    rw [R.rc] at e;rcases JjA (({ σ with deeds:=σ.deeds+1 }:Wd).s i).nodes d.path with e3 | e3 <;> rw [e3] at e <;> simp [JcP,hk] at e
   ·rw [R.rz,hke]
    exact R.le
   ·rw [R.c j hj,R.rz,hke]
    rfl
 ·rw [e]
  refine ⟨fun _ i hi=>(JhD hτ hK).2 i hi,fun e=>?_⟩
  simp [JcP,hk] at e
 ·have ht:∀ c,JcP d.kind c=false:=fun c=>by simp [JcP,k1,k2]
  refine ⟨fun _ i hi=>?_,fun e=>by rw [ht] at e; cases e⟩
  rcases hp with ⟨c,c34,e2⟩ | ⟨j,hj,e2⟩ | ⟨j,hj,e2⟩
  ·rw [e2]
   rfl
  ·rw [e2]
   unfold Wd.c;rw [(Jj8 hτ.toInv0 hj).2.2.1]
  ·rw [e2]
   unfold Wd.c;rw [(Jfx _ _ _).2.2.1]
theorem do_inv2 (h:Inv Reg E σ.deeds σ) (d:Deed):∃ Reg' E',Reg <+: Reg'/\E<=E'/\Inv Reg' E' (doW σ d).1.deeds (doW σ d).1/\(d.kind=5->(doW σ d).2.code=0->E<E')/\(doW σ d).1.deeds<=σ.deeds+1:=by
 have hD:(doW σ d).1.deeds<=σ.deeds+1:=by
  rcases Je5 σ d with ⟨_,e⟩ | ⟨hK,hp⟩
  ·rw [e]
   exact zC9 _
  have hτ:=h.deeds (σ.deeds+1);rcases hp with ⟨hk,e⟩ | ⟨hk,e⟩ | ⟨hk,e⟩ | ⟨k1,k2,k5,⟨c,c34,e⟩ | ⟨i,hi,e⟩ | ⟨i,hi,e⟩⟩ <;> rw [e]
  ·exact zG6 (JfY hτ hK d)
  ·exact zG6 (Jhk _ d)
  ·exact zG6 ((hτ.elect hK).2.2.2.1)
  ·exact zA3 _
  ·exact zG6 (Jlc _ _)
  ·exact zG6 (JgV _ _ _)
 by_cases h5:d.kind=5/\(doW σ d).2.code=0
 ·rcases Je5 σ d with ⟨_,e⟩ | ⟨hK,hp⟩
  ·have:=h5.2
   rw [e] at this;exact absurd (show (6:Int)=0 from this) qJ1
  have hτ:=h.deeds (σ.deeds+1);rcases hp with ⟨hk,e⟩ | ⟨hk,e⟩ | ⟨hk,e⟩ | ⟨k1,k2,k5,hp⟩
  ·have:=h5.1
   omega
  ·have:=h5.1
   omega
  ·obtain ⟨_,h2,_,h4,_⟩:=hτ.elect hK
   have hc:=h5.2;rw [e] at hc;obtain ⟨_,hlt,j,Z⟩:=h2 hc;refine ⟨Reg,_,zI9 _,Int.le_of_lt hlt,?_,fun _ _=>hlt,hD⟩
   rw [e,h4];exact Z.inv
  ·exact absurd h5.1 k5
 ·obtain ⟨Reg',E',a,b,c⟩:=do_inv h d
  exact ⟨Reg',E',a,b,c,fun h1 h2=>absurd ⟨h1,h2⟩ h5,hD⟩
/-! what is told -/
def Jff (n:Note):Prop:=1<=n.session/\n.session<=16/\Jay n.path=true/\1<=n.kind/\n.kind<4
def WtP (x:Watch):Prop:=Jay x.path=true/\x.kind=1/\1<=x.session/\x.session<=16
theorem notes_ok {ev:Event} {l:List Watch} (h:∀ x∈l,WtP x):∀ n∈JaE ev l,Jff n:=by
 intro n hn;unfold JaE at hn;obtain ⟨x,hx,rfl⟩:=zJ0.1 hn;obtain ⟨h1,h2⟩:=zK6.1 hx;obtain ⟨w1,w2,w3,w4⟩:=h x h1;unfold Jbf at h2
 by_cases hp:x.path=ev.path
 ·rw [if_pos hp,if_neg qK1] at h2
  simp only [zK5,zG1] at h2;exact ⟨w3,w4,by show Jay ev.path=true; rw [<-hp]; exact w1,by show 1<=ev.kind; omega,by show ev.kind<4; omega⟩
 ·rw [if_neg hp] at h2
  cases h2
theorem JoH:∀ (evs:List Event) (s:List Note × List Watch),(∀ n∈s.1,Jff n)->(∀ x∈s.2,WtP x)->∀ n∈(evs.foldl (fun s e=>(s.1 ++ JaE e s.2,Ja8 e s.2)) s).1,Jff n
 | [],_,h,_=>h
 | e :: evs,s,h,h2=>JoH evs _ (fun n hn=>by
   rcases zE4.1 hn with hn | hn
   ·exact h n hn
   ·exact notes_ok h2 n hn) (fun x hx=>h2 x ((JlD e s.2).subset hx))
theorem Jo9 (s:Tr × List Watch × List Note) (x:Txn) (h:∀ n∈s.2.2,Jff n) (h2:∀ x∈s.2.1,WtP x):(∀ n∈(comS s x).2.2,Jff n)/\∀ y∈(comS s x).2.1,WtP y:=by
 refine ⟨?_,fun y hy=>h2 y ((JlW s x).subset hy)⟩
 intro n hn;unfold comS at hn;simp only at hn;rcases zE4.1 hn with hn | hn
 ·exact h n hn
 ·exact JoH _ ([],s.2.1) qL1 h2 n hn
theorem Jpc:∀ (m:List Txn) (s:Tr × List Watch × List Note),(∀ n∈s.2.2,Jff n)->(∀ x∈s.2.1,WtP x)->∀ n∈(comL s m).2.2,Jff n
 | [],_,h,_=>h
 | x :: m,s,h,h2=>Jpc m (comS s x) (Jo9 s x h h2).1 (Jo9 s x h h2).2
theorem com_ok {s:Srv} (h:∀ x∈s.watches,WtP x) (a b:Nat):∀ n∈JaM s a b,Jff n:=by
 unfold JaM;exact Jpc _ _ qL1 h
theorem UpIn.wtp {i:Nat} {s:Srv} (h:UpIn Reg K i s):∀ x∈s.watches,WtP x:=h.wt
theorem Jo7:∀ (hv:List Nat) (σ:Wd) (ns:List Note),Inv0 Reg E K σ->hv.Nodup->(∀ i∈hv,i<3/\(σ.s i).up=true)->(∀ n∈ns,Jff n)->∀ n∈(hv.foldl Je7 (σ,ns)).2,Jff n
 | [],σ,ns,_,_,_,hp=>hp
 | i :: hv,σ,ns,h,hn,hu,hp=>by
  obtain ⟨n1,n2⟩:=zK8.1 hn;obtain ⟨hi,hup⟩:=hu i zF7;obtain ⟨_,_,_,_,c1,c2,_⟩:=(h.up hi hup).com;have hput:=h.put hi (s:=comD (σ.s i)) (.inl c1) (by rw [c2]; exact zD9 _) (by rw [c2]; exact h.epK i hi) σ.fol h.f3
  have hS:∀ j,(comW σ i (σ.s i)).s j=if i=j then comD (σ.s i) else σ.s j:=fun j=>Jh0 σ σ.fol i j _ qv0
  exact Jo7 hv (comW σ i (σ.s i)) (ns ++ JaM (σ.s i) (σ.s i).done_.toNat (σ.s i).log.length) hput n2 (fun j hj=>by
   obtain ⟨j3,ju⟩:=hu j (zF2 _ hj);refine ⟨j3,?_⟩;rw [hS,if_neg (fun e:i=j=>n1 (e▸hj))]
   exact ju) (fun n hn=>by
   rcases zE4.1 hn with hn | hn
   ·exact hp n hn
   ·exact com_ok (h.up hi hup).wtp _ _ n hn)
theorem JkL {l:List Txn} {ep:Int} (hl:LogIn Reg l) (hep:Half ep) (hk:ep<=K):∀ (is:List Nat) (σ:Wd) (ns:List Note),Inv0 Reg E K σ->is.Nodup->(∀ i∈is,i<3)->(∀ i∈is,(σ.s i).up=true->epOf (σ.s i)<=ep)->(∀ n∈ns,Jff n)->∀ n∈(Jbs l ep is (σ,ns)).2.1,Jff n
 | [],σ,ns,_,_,_,_,hp=>hp
 | i :: is,σ,ns,h,hn,h3,he,hp=>by
  obtain ⟨n1,n2⟩:=zK8.1 hn;unfold Jbs
  by_cases hu:(σ.s i).up=false
  ·rw [if_pos hu]
   exact JkL hl hep hk is σ ns h n2 (fun j hj=>h3 j (zF2 _ hj)) (fun j hj=>he j (zF2 _ hj)) hp
  ·rw [if_neg hu]
   have hu:(σ.s i).up=true:=by simpa using hu
   by_cases hd:((comK l (σ.s i).log:Nat):Int)<(σ.s i).done_
   ·rw [if_pos hd]
    exact hp
   ·rw [if_neg hd]
    obtain ⟨g1,g2,_⟩:=JgL h (h3 i zF7) hu hl hep hk (he i zF7 hu) qK1 ns;exact JkL hl hep hk is (folW l ep (σ,ns) i).1 (folW l ep (σ,ns) i).2 g1 n2 (fun j hj=>h3 j (zF2 _ hj)) (fun j hj hj2=>by
     have e:i≠j:=fun e=>n1 (e▸hj)
     rw [g2,if_neg e] at hj2 ⊢;exact he j (zF2 _ hj) hj2) (fun n hn=>by
     rcases zE4.1 hn with hn | hn
     ·exact hp n hn
     ·have hf:=((h.up (h3 i zF7) hu).fol h.reg h.small hl hep qK1).2.1
      exact com_ok hf.wtp _ _ n hn)
theorem JiR (h:Inv0 Reg E K σ) {ns:List Note} {n:Note} (hn:n∈ns) (hp:Jff n):isK (((JaS σ ns).c (n.session - 1).toNat).cache.map Entry.path) n.path=false:=by
 have hi:(n.session - 1).toNat<16:=by have:=hp.1; have:=hp.2.1; omega
 have e:=Jpn h.c16 (JcQ ns) hi;show isK ((({ σ with cl:=σ.cl.map (JcQ ns) }:Wd).c (n.session - 1).toNat).cache.map Entry.path) n.path=false
 rw [e];have hc:=h.cl _ hi;refine (Jon hc.so ⟨n,hn,?_,rfl⟩).1;unfold JgD;have h1:n.session=(σ.c (n.session - 1).toNat).session:=by
  rw [hc.se];have:=hp.1;omega
 have h2:¬ n.kind=4:=by have:=hp.2.2.2.2; omega
 rw [zB2 h1,zA5 h2];rfl
def NtIn (τ:Wd) (ns:List Note):Prop:=∀ n∈ns,Jff n/\isK ((τ.c (n.session - 1).toNat).cache.map Entry.path) n.path=false
theorem do_notes (h:Inv Reg E σ.deeds σ) (d:Deed):(d.kind≠1->d.kind≠5->(doW σ d).2.notes=[])/\NtIn (doW σ d).1 (doW σ d).2.notes:=by
 have nil:∀ τ:Wd,NtIn τ []:=fun τ n hn=>absurd hn qL1
 rcases Je5 σ d with ⟨_,e⟩ | ⟨hK,hp⟩
 ·rw [e]
  exact ⟨fun _ _=>rfl,nil _⟩
 have hτ:=h.deeds (σ.deeds+1);rcases hp with ⟨hk,e⟩ | ⟨hk,e⟩ | ⟨hk,e⟩ | ⟨k1,k2,k5,hp⟩
 ·refine ⟨fun a _=>absurd hk a,?_⟩
  rw [e];rcases JbX hτ hK d with ⟨c,c0,c16,e2⟩ | ⟨l,x,υ,hv,W,h2,e2⟩ | ⟨l,x,υ,hv,W,h2,e2⟩
  ·rw [e2]
   exact nil _
  ·rw [e2]
   exact nil _
  ·rw [e2]
   have T:=W.tk;have hhv:∀ i∈hv,i<3/\(υ.s i).up=true:=by
    intro i hi;obtain ⟨a,b⟩:=T.hvs i hi;have h3:i<3:=by simp at a; omega
    obtain ⟨y1,sf,y2,_⟩:=T.yes i a b;obtain ⟨u1,u2,u3⟩:=W.li.same i h3 y1;have hn:Reg.length<=300:=by have h1:=hτ.len; have h2:=hτ.k300; omega
    obtain ⟨_,t2,t3,_⟩:=(hτ.toInv0.up h3 u1).take hτ.reg hn W.gt W.new (by rw [u3]; exact W.run) sf
    rw [y2];exact ⟨h3,t3.up⟩
   have hok:=Jo7 hv υ [] T.inv T.nd hhv qL1;have C:=JfT hv υ [] T.inv T.nd hhv;unfold JaZ;generalize hv.foldl Je7 (υ,[])=r at hok C ⊢;obtain ⟨ω,ns⟩:=r;simp only at hok C ⊢;intro n hn;refine ⟨hok n hn,?_⟩;have hg:=JiR C.inv hn (hok n hn);have hk16:d.client.toNat<16:=by have:=W.cl; omega
   have c16:(JaS { ω with dn:=ω.dn ++ [x] } ns).cl.length=16:=by
    show (ω.cl.map (JcQ ns)).length=16;rw [zF4];exact C.inv.c16
   have e3:=c_set (σ:=JaS { ω with dn:=ω.dn ++ [x] } ns) c16 { (JaS { ω with dn:=ω.dn ++ [x] } ns).c d.client.toNat with seen:=x.zxid } hk16 (JaS { ω with dn:=ω.dn ++ [x] } ns).srv (n.session - 1).toNat
   show isK ((({ (JaS { ω with dn:=ω.dn ++ [x] } ns) with srv:=(JaS { ω with dn:=ω.dn ++ [x] } ns).srv,cl:=(JaS { ω with dn:=ω.dn ++ [x] } ns).cl.set d.client.toNat { (JaS { ω with dn:=ω.dn ++ [x] } ns).c d.client.toNat with seen:=x.zxid } }:Wd).c (n.session - 1).toNat).cache.map Entry.path) n.path=false
   rw [e3]
   by_cases e4:d.client.toNat=(n.session - 1).toNat
   ·rw [if_pos e4]
    simp only;rw [e4];exact hg
   ·rw [if_neg e4]
    exact hg
 ·have hn:(doW σ d).2.notes=[]:=by
   rw [e];rcases Jfo hτ.toInv0 d with ⟨c,c0,c7,c16,e2⟩ | ⟨i,k,R⟩
   ·rw [e2]
   ·exact R.rn
  exact ⟨fun _ _=>hn,by rw [hn]; exact nil _⟩
 ·refine ⟨fun _ a=>absurd hk a,?_⟩
  rw [e];have hm:Inv Reg E (σ.deeds+1) (Jax { σ with deeds:=σ.deeds+1 }):=(hτ.toInv0.mono (zC9 _) hK).resign
  unfold Ja0
  by_cases h2:(upsW { σ with deeds:=σ.deeds+1 }).length<2
  ·rw [if_pos h2]
   exact nil _
  rw [if_neg h2];obtain ⟨k,hk1,_,hk2⟩:=Jk1 hτ.toInv0 qK1;obtain ⟨t1,t2,t3⟩:=hτ.toInv0.topE qK1;have hmem:(upsW { σ with deeds:=σ.deeds+1 }).getD (Jei (upsW { σ with deeds:=σ.deeds+1 })) Jku∈upsW { σ with deeds:=σ.deeds+1 }:=by
   rw [hk2,zE3,zA8 hk1];exact zI0 hk1
  obtain ⟨j,hj,hju,hjp⟩:=JhS hτ.n3 hmem;rw [hjp];simp only;have h0:=h.e0;have hep:Half (topE (upsW { σ with deeds:=σ.deeds+1 })+1):=⟨by omega,by omega⟩
  have hlg:=(hτ.toInv0.up hj hju).lg;have hle:∀ i∈[0,1,2],((Jax { σ with deeds:=σ.deeds+1 }).s i).up=true->epOf ((Jax { σ with deeds:=σ.deeds+1 }).s i)<=topE (upsW { σ with deeds:=σ.deeds+1 })+1:=fun i hi hu=>by
   have:=t3 i (by simp at hi; omega) hu
   show epOf (({ σ with deeds:=σ.deeds+1 }:Wd).s i)<=_
   omega
  have F:=Je0 (l:=(Jas (({ σ with deeds:=σ.deeds+1 }:Wd).s j)).log) hlg hep (K:=σ.deeds+1) qK1 [0,1,2] (Jax { σ with deeds:=σ.deeds+1 }) [] hm.toInv0 qJ1 qL1 hle
  have hok:=JkL (l:=(Jas (({ σ with deeds:=σ.deeds+1 }:Wd).s j)).log) hlg hep (K:=σ.deeds+1) qK1 [0,1,2] (Jax { σ with deeds:=σ.deeds+1 }) [] hm.toInv0 qJ1 qL1 hle qL1
  generalize Jbs (Jas (({ σ with deeds:=σ.deeds+1 }:Wd).s j)).log (topE (upsW { σ with deeds:=σ.deeds+1 })+1) [0,1,2] (Jax { σ with deeds:=σ.deeds+1 },[])=r at F hok ⊢
  obtain ⟨ω,ns,c⟩:=r;simp only at F hok ⊢
  by_cases hc0:c=0
  ·rw [if_neg (fun e=>e hc0)]
   intro n hn;exact ⟨hok n hn,JiR (σ:={ ω with lead:=(Jas (({ σ with deeds:=σ.deeds+1 }:Wd).s j)).id }) { F.inv with srv:=F.inv.srv } hn (hok n hn)⟩
  ·rw [if_pos hc0]
   exact nil _
 ·have hn:(doW σ d).2.notes=[]:=by
   rcases hp with ⟨c,c34,e2⟩ | ⟨i,hi,e2⟩ | ⟨i,hi,e2⟩ <;> rw [e2]
   ·exact (Jj8 hτ.toInv0 hi).2.1
   ·exact (Jfx _ _ _).2.1
  exact ⟨fun _ _=>hn,by rw [hn]; exact nil _⟩
end
section
variable {Reg:List Txn} {E:Int} {K:Nat} {σ τ:Wd}
theorem JkX {i:Nat} {s:Srv} (h:UpIn Reg K i s) (hr:LogP Reg) (hn:Reg.length<=301) {q:Option (ByteArray × ByteArray)} {m1 m2:List Txn} (e:s.disk=dskB q (bS (recs m1)) (bS (recs m2))) (hl:s.log=m1 ++ m2) (hq:EpQ q s.epoch) :
  Jbw s.disk 0=0/\Jg0 (i:Int) (JbT s 0).disk=0/\(Jc9 (i:Int) (JbT s 0).disk).log=m1:=by
 have hz:=h.size hr hn hl;have hc:=JhG hq.size hq.safe (zB3 hz qJ1) 0;rw [<-e] at hc;have hlm:=JbP hr h.lg.sub;have hd:(JbT s 0).disk=dskB q (bS (recs m1)) noB:=by
  have hc1:Jbw s.disk 0=0:=hc.1;have hc2:Jeg s.disk 0=dskB q (bS (recs m1) ++ (bS (recs m2)).extract 0 (min 0 (bS (recs m2)).size)) noB:=hc.2;unfold JbT;rw [if_pos hc1,hc2];show dskB q _ noB=_;congr 1;apply Jcb;rw [Nat.zero_min];have e1:bs ((bS (recs m2)).extract 0 0)=[]:=by rw [JaG]; simp
  have e2:bs (bS (recs m1) ++ (bS (recs m2)).extract 0 0)=bs (bS (recs m1)) ++ bs ((bS (recs m2)).extract 0 0):=JaX _ _;rw [e2,e1,zF8]
 have hx:JcO m1 []:=JdX m1;have hz0:(bS (recs m1)).size+noB.size<=1048576:=by
  show _+0<=_;omega
 have hrd:=Jca (q:=q) hq.size hz0;have hct:=Je3 (q:=q) hq.size hz0 (n:=(recs m1).length) (by rw [Jcg,JaL]; exact zA3 _)
 have hm:Jfz m1:=(JbP hlm (by rw [hl]; exact zQ4 _ _)).1
 have hrec:JdQ (dskB q (bS (recs m1)) noB) m1 (cutL (dskB q (bS (recs m1)) noB) logN (recs m1).length) 0:=by
  refine .inr (.inr ⟨hrd.1,rfl,(recs m1).length,?_,rfl⟩);rw [hrd.2,Jcg,Jcf];have:=JhZ hm hx;rw [zF8] at this;exact this
 have hb:Jce (i:Int) (JbT s 0).disk ⟨true,cutL (dskB q (bS (recs m1)) noB) logN (recs m1).length,(i:Int),Jb9 (JbT s 0).disk,m1,0,0,[rootN],[],[]⟩ 0:=⟨m1,_,hd▸hrec,.inl ⟨rfl,rfl⟩⟩;obtain ⟨b1,b2⟩:=Jix hb;rw [b1,b2];exact ⟨hc.1,rfl,rfl⟩
end
noncomputable def bl (i:Nat) (f:List File):List Txn:=(Jc9 (i:Int) f).log
theorem boot_log {q:Option (ByteArray × ByteArray)} {m:List Txn} {rest:List UInt8} (hq:Jd9 q<=1048576) (hx:JcO m rest) (hz:(recs m ++ rest).length<=1048576) (hm:Jfz m) (i:Nat) :
  bl i (dskB q (bS (recs m ++ rest)) noB)=m/\(Jc9 (i:Int) (dskB q (bS (recs m ++ rest)) noB)).disk=dskB q (bS (recs m)) noB/\(Jc9 (i:Int) (dskB q (bS (recs m ++ rest)) noB)).up=true:=by
 have hz0:(bS (recs m ++ rest)).size+noB.size<=1048576:=by
  rw [JaL];show _+0<=_;omega
 have hrd:=Jca (q:=q) hq hz0;have hct:=Je3 (q:=q) hq hz0 (n:=(recs m).length) (by rw [Jcg,JaL,zB1]; omega)
 have hrec:JdQ (dskB q (bS (recs m ++ rest)) noB) m (dskB q (bS (recs m)) noB) 0:=by
  refine .inr (.inr ⟨hrd.1,rfl,(recs m).length,?_,?_⟩)
  ·rw [hrd.2,Jcg,Jcf]
   exact JhZ hm hx
  ·rw [hct.2]
   congr 1;apply Jcb;rw [JaG,zI6,Jcg,Jcf,Jcf,zH3]
 have hb:Jce (i:Int) (dskB q (bS (recs m ++ rest)) noB) ⟨true,dskB q (bS (recs m)) noB,(i:Int),Jb9 (dskB q (bS (recs m ++ rest)) noB),m,0,0,[rootN],[],[]⟩ 0:=⟨m,_,hrec,.inl ⟨rfl,rfl⟩⟩;obtain ⟨b1,b2⟩:=Jix hb;unfold bl;rw [b1];exact ⟨rfl,rfl,rfl⟩
noncomputable def dl (i:Nat) (s:Srv):List Txn:=if s.up=true then s.log else bl i s.disk
noncomputable def sl (i:Nat) (s:Srv):List Txn:=if s.up=true then bl i (JbT s 0).disk else bl i s.disk
section
variable {Reg:List Txn} {E:Int} {K i:Nat} {σ τ:Wd} {s:Srv}
structure UpD (i:Nat) (s:Srv) (q:Option (ByteArray × ByteArray)) (m1 m2:List Txn):Prop where
 e:s.disk=dskB q (bS (recs m1)) (bS (recs m2))
 l:s.log=m1 ++ m2
 q:EpQ q s.epoch
 sl:sl i s=m1
 dl:dl i s=m1 ++ m2
theorem UpIn.logs (h:UpIn Reg K i s) (hr:LogP Reg) (hn:Reg.length<=301):∃ q m1 m2,UpD i s q m1 m2:=by
 obtain ⟨q,m1,m2,e,hl,hq⟩:=h.dk;refine ⟨q,m1,m2,e,hl,hq,?_,?_⟩
 ·unfold sl
  rw [if_pos h.up];exact (JkX h hr hn e hl hq).2.2
 ·unfold dl
  rw [if_pos h.up,hl]
theorem DownIn.logs (h:DownIn Reg i s) (hr:LogP Reg) (hn:Reg.length<=301):sl i s=dl i s/\∃ q ep m rest,s.disk=dskB q (bS (recs m ++ rest)) noB/\EpQ q ep/\JcO m rest/\(recs m ++ rest).length<=1048576/\LogIn Reg m/\dl i s=m:=by
 have hu:¬ s.up=true:=by rw [h.eq]; exact fun e=>absurd (show false=true from e) qJ1
 obtain ⟨q,ep,m,rest,e,hq,hx,hz,hl⟩:=h.dk;refine ⟨by unfold sl dl; rw [if_neg hu,if_neg hu],q,ep,m,rest,e,hq,hx,hz,hl,?_⟩
 unfold dl;rw [if_neg hu,e];exact (boot_log hq.size hx hz (JbP hr hl.sub).1 i).1
end
section
variable {Reg:List Txn} {E:Int} {K i:Nat} {σ τ:Wd} {s:Srv}
end
abbrev Je6:Deed:=⟨5,0,0,0,0,⟨#[]⟩,⟨#[]⟩,0,0,0,0,0,false⟩
abbrev JfN (k:Int):Deed:=⟨1,k,0,1,0,⟨#[]⟩,⟨#[]⟩,0,0,0,0,0,false⟩
theorem Jh8:upsW { newW with deeds:=1 }=[⟨0,0,none,0,[],0⟩,⟨1,0,none,0,[],0⟩,⟨2,0,none,0,[],0⟩]:=rfl
theorem new_best:Jei (upsW { newW with deeds:=1 })=2:=by
 rw [Jh8];refine Jg1 (k:=2) qJ1 ?_;intro i x y hi hx hy;injection hx with hx
 subst hx
 match i,hi,hy with
 | 0,_,hy=>
  injection hy with hy
  subst hy;rfl
 | 1,_,hy=>
  injection hy with hy
  subst hy;rfl
 | 2,hi,_=>exact absurd rfl hi
 | n+3,_,hy=>cases hy
theorem Jjf:(doW newW Je6).2.code=0/\(doW newW Je6).1.lead=2/\(doW newW Je6).1.dn=[]/\(doW newW Je6).1.deeds=1:=by
 have e:doW newW Je6=Ja0 { newW with deeds:=1 }:=by
  unfold doW;rw [if_neg qJ1];rfl
 rw [e];unfold Ja0;have hu:¬ (upsW { newW with deeds:=1 }).length<2:=by rw [Jh8]; decide
 rw [if_neg hu,new_best,Jh8];simp only;have hf:∃ τ ns,Jbs (([⟨0,0,none,0,[],0⟩,⟨1,0,none,0,[],0⟩,⟨2,0,none,0,[],0⟩]:List Peer).getD 2 Jku).log (topE [⟨0,0,none,0,[],0⟩,⟨1,0,none,0,[],0⟩,⟨2,0,none,0,[],0⟩]+1) [0,1,2] (Jax { newW with deeds:=1 },[])=(τ,ns,0)/\τ.dn=[]/\τ.deeds=1:=⟨_,_,rfl,rfl,rfl⟩
 obtain ⟨τ,ns,h1,h2,h3⟩:=hf;rw [h1];exact ⟨rfl,rfl,h2,h3⟩
structure FirstIn (σ:Wd):Prop where
 inv:Inv [] 1 1 σ
 lead:σ.lead=2
 fl:∀ i,i<3->σ.f i=true
 up:∀ i,i<3->(σ.s i).up=true/\(σ.s i).epoch=1/\(σ.s i).log=[]
 dn:σ.dn=[]
 deeds:σ.deeds=1
theorem Joc:FirstIn (doW newW Je6).1:=by
 obtain ⟨c0,c1,c2,c3⟩:=Jjf;have e:doW newW Je6=Ja0 { newW with deeds:=1 }:=by
  unfold doW;rw [if_neg qJ1];rfl
 have hI:Inv [] 0 0 { newW with deeds:=1 }:=new_inv.deeds 1
 obtain ⟨_,h2,_,_,_⟩:=hI.elect qJ1;rw [e] at c0 c1 c2 c3 ⊢;obtain ⟨_,_,j,Z⟩:=h2 c0;have ht:topE (upsW { newW with deeds:=1 })=0:=by rw [Jh8]; rfl
 rw [ht] at Z;have hu:∀ i,i<3->(({ newW with deeds:=1 }:Wd).s i).up=true:=fun i hi=>by
  match i,hi with
  | 0,_=>rfl
  | 1,_=>rfl
  | 2,_=>rfl
 have hlj:(({ newW with deeds:=1 }:Wd).s j).log=[]:=by
  match j,Z.lt with
  | 0,_=>rfl
  | 1,_=>rfl
  | 2,_=>rfl
 refine ⟨Z.inv,c1,fun i hi=>(Z.all i hi (hu i hi)).2.2.2.2,fun i hi=>?_,c2,c3⟩
 have a:=Z.all i hi (hu i hi);exact ⟨a.1,a.2.1,by rw [a.2.2.1]; exact hlj⟩
theorem bitI_0 (i:Nat):bitI 0 i=false:=by
 unfold bitI;rw [Int.zero_ediv];rfl
theorem JnA {d:Deed} {x:Txn} {σ:Wd} (h3:σ.fol.length=3) (hf:∀ i,i<3->σ.f i=true) (h1:d.lost=0) (h2:d.slow=0):∃ τ,[0,1,2].foldl (Jcj d x) (σ,[])=(τ,[0,1,2]):=by
 have one:∀ (τ:Wd) (hv:List Nat) (i:Nat),τ.f i=true->Jcj d x (τ,hv) i=({ τ with fol:=τ.fol.set i true,srv:=τ.srv.set i (Jdv (τ.s i) x true) },hv ++ [i]):=by
  intro τ hv i h;unfold Jcj;rw [h1,h2,bitI_0];simp [h]
 have step:∀ (τ:Wd) (i j:Nat) (v:List Srv),τ.fol.length=3->τ.f j=true->({ τ with fol:=τ.fol.set i true,srv:=v }:Wd).f j=true:=by
  intro τ i j v h h';show (τ.fol.set i true).getD j false=true;rw [JdZ];split
  ·rfl
  ·exact h'
 rw [zJ1,one _ _ _ (hf 0 qJ1),zJ1,one _ _ _ (step _ _ _ _ h3 (hf 1 qJ1)),zJ1,one _ _ _ (step _ _ _ _ (by simp [h3]) (step _ _ _ _ h3 (hf 2 qJ1))),List.foldl_nil]
 exact ⟨_,rfl⟩
theorem Jn6:JbK Jbl 2147483649 ⟨1,1,⟨#[]⟩,⟨#[]⟩,0,0⟩=0:=by decide +kernel
theorem JmQ {σ:Wd} (h:FirstIn σ):(doW σ (JfN 0)).2.code=0/\(doW σ (JfN 0)).2.zxid=2147483649/\(doW σ (JfN 0)).1.dn.length=1:=by
 have e:doW σ (JfN 0)=JbA { σ with deeds:=σ.deeds+1 } (JfN 0):=by
  unfold doW;rw [if_neg (by rw [h.deeds]; decide)]
  rfl
 have hI:Inv [] 1 1 { σ with deeds:=σ.deeds+1 }:=h.inv.deeds _
 have hp:∀ i,({ σ with deeds:=σ.deeds+1 }:Wd).s i=σ.s i:=fun _=>rfl
 have hn:JbL (Jas (({ σ with deeds:=σ.deeds+1 }:Wd).s 2))=(2147483649,0):=by
  obtain ⟨u1,u2,u3⟩:=h.up 2 qJ1;unfold JbL Jas;simp only [hp,u2,u3];rfl
 obtain ⟨l,hl,l3,_,_,hd,_,li⟩:=hI.led (by rw [show ({ σ with deeds:=σ.deeds+1 }:Wd).lead=2 from h.lead]; decide)
 have hl2:l=2:=by
  have:(2:Int)=(l:Int):=h.lead.symm.trans hl;omega
 subst hl2;have ht:=hI.tree li hd;rw [hp,(h.up 2 qJ1).2.2] at ht;have hs:(({ σ with deeds:=σ.deeds+1 }:Wd).c 0).session=1:=(h.inv.cl 0 qJ1).se
 obtain ⟨τ,hτ⟩:=JnA (d:=JfN 0) (x:=Ja1 Jbl 2147483649 ⟨1,1,⟨#[]⟩,⟨#[]⟩,0,0⟩) (σ:={ σ with deeds:=σ.deeds+1 }) hI.f3 h.fl rfl rfl
 have hr:Jh2 { σ with deeds:=σ.deeds+1 } (JfN 0)=⟨1,1,⟨#[]⟩,⟨#[]⟩,0,0⟩:=by
  unfold Jh2;rw [show (JfN 0).client.toNat=0 from rfl,hs]
 have hw:JbA { σ with deeds:=σ.deeds+1 } (JfN 0)=JaZ τ 0 (Ja1 Jbl 2147483649 ⟨1,1,⟨#[]⟩,⟨#[]⟩,0,0⟩) [0,1,2]:=by
  unfold JbA;rw [if_neg (by show ¬ ((0:Int)<0\/16<=(0:Int)); decide),if_neg (by show ¬ σ.lead<0; rw [h.lead]; decide)]
  rw [show ({ σ with deeds:=σ.deeds+1 }:Wd).lead.toNat=2 from by rw [show ({ σ with deeds:=σ.deeds+1 }:Wd).lead=2 from h.lead]; rfl]
  simp only [hn,hr];rw [show trOf (({ σ with deeds:=σ.deeds+1 }:Wd).s 2)=Jbl from ht,if_neg qJ1,if_neg (fun e=>e Jn6),hτ]
  rfl
 have hx:(Ja1 Jbl 2147483649 ⟨1,1,⟨#[]⟩,⟨#[]⟩,0,0⟩).zxid=2147483649:=(JeJ Jn6).2.2.1;rw [e];refine ⟨by rw [hw]; rfl,by rw [hw]; exact hx,?_⟩
 rcases JbX hI qJ1 (JfN 0) with ⟨c,c0,_,e2⟩ | ⟨l,x,υ,hv,W,h2,e2⟩ | ⟨l,x,υ,hv,W,h2,e2⟩
 ·rw [hw] at e2
  exact absurd (congrArg (fun r=>r.2.code) e2).symm c0
 ·rw [hw] at e2
  exact absurd (show (0:Int)=16 from congrArg (fun r=>r.2.code) e2) qJ1
 ·rw [e2]
  have:=(W.commit hI).2.1;rw [this];show (σ.dn ++ [x]).length=1;rw [h.dn];rfl
end
end Go.Proofs.YtjnooagaghdkdaaGreatDoor
