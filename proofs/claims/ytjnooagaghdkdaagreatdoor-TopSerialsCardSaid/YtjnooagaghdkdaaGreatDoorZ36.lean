/-L-/
import Derived.Test.YtjnooagaghdkdaaGreatDoorZ35
set_option maxHeartbeats 10000000
set_option maxRecDepth 100000
set_option linter.all false
namespace Go.Proofs.YtjnooagaghdkdaaGreatDoor
section
open Go.RowKit Go.ChangeShapes Go.WideShapes Go.ChangeAt
theorem boot0 (i:Int):Jci i [] ⟨true,dskB none noB noB,i,0,[],0,0,[rootN],[],[]⟩ 0:=by
 refine ⟨[],dskB none noB noB,.inl ⟨?_,rfl,?_,?_⟩,.inl ⟨rfl,?_⟩⟩
 ·rfl
 ·have h:JaL []=true:=by kernel_rfl
  have h2:JaK (bs logN)=true:=by kernel_rfl
  unfold JbP;rw [if_pos h,if_pos h2];rfl
 ·have h:JaL []=true:=by kernel_rfl
  have h2:JaK (bs logN)=true:=by kernel_rfl
  unfold JbB;rw [if_pos h,if_pos h2];rfl
 ·have:Jce []=0:=JhD qG1
  rw [this]
theorem up0 (i:Nat):UpIn [] 0 i (srv0 i):=
 { up:=rfl,id:=rfl,lg:=⟨List.Sublist.refl _,trivial⟩,dk:=⟨none,[],[],rfl,rfl,.inl ⟨rfl,rfl⟩⟩,dn:=⟨0,rfl,zA3 _,rfl⟩,wt:=fun x hx=>absurd hx (by simp [srv0]),wl:=zA3 _ }
theorem ep0 (i:Nat):epOf (srv0 i)=0:=EpQ.is (q:=none) (.inl ⟨rfl,rfl⟩) qG1
theorem new_inv:Inv [] 0 0 newW:=by
 have hs:∀ i,i<3->newW.s i=srv0 i:=fun i hi=>by
  match i,hi with
  | 0,_=>rfl
  | 1,_=>rfl
  | 2,_=>rfl
 have hc:∀ i,i<16->newW.c i=⟨(i:Int)+1,0,[]⟩:=fun i hi=>by
  show ((List.range 16).map (fun i:Nat=>(⟨(i:Int)+1,0,[]⟩:Cli))).getD i noCl=_
  rw [zE6,zI0,List.getElem?_range hi];rfl
 refine ⟨{ n3:=rfl,f3:=rfl,c16:=rfl,reg:=⟨⟨by simp,List.Pairwise.nil⟩,by simp⟩,len:=zA3 _,k300:=by decide,srv:=fun i hi=>.inl (by rw [hs i hi]; exact up0 i),cl:=fun i hi=>?_,rep:=by simp,e0:=zD6 _,two:=⟨0,1,by decide,by decide,?_,?_⟩,epK:=fun i hi=>?_,dn:=List.Sublist.refl _ },.inl rfl⟩
 ·rw [hc i hi]
  exact ⟨rfl,zD6 _,zD6 _,fun i j x y _ hx _=>by simp at hx,zA3 _⟩
 ·rw [hs 0 qG1,ep0]
  exact zD6 _
 ·rw [hs 1 qG1,ep0]
  exact zD6 _
 ·rw [hs i hi,ep0]
  exact zD6 _
section
variable {Reg:List Txn} {E:Int} {K:Nat} {σ τ:Wd}
theorem Inv0.owned (h:Inv0 Reg E K σ) {i:Nat} (hi:i<3):Jan (trOf (σ.s i))=true:=by
 rcases h.srv i hi with u | u
 ·exact u.com.2.2.1
 ·rw [u.eq]
  exact Jll
theorem Inv.led (h:Inv Reg E K σ) (hl:¬ σ.lead<0):∃ l:Nat,σ.lead=(l:Int)/\l<3/\(σ.s l).up=true/\(σ.s l).id=(l:Int)/\(σ.s l).done_=((σ.s l).log.length:Nat)/\(σ.s l).epoch=E/\LeadIn Reg E σ l:=by
 rcases h.lead with e | ⟨l,e,li,d⟩
 ·rw [e] at hl
  exact absurd qG1 hl
 ·have:=li.same l li.lt li.fl
  exact ⟨l,e,li.lt,this.1,h.toInv0.id li.lt,d,this.2.1,li⟩
theorem JfO (σ:Wd) (d:Deed):(300<=σ.deeds/\doW σ d=(σ,rp 6))\/(σ.deeds<300/\(
  (d.kind=1/\doW σ d=Jbg { σ with deeds:=σ.deeds+1 } d)\/
  (d.kind=2/\doW σ d=JcY { σ with deeds:=σ.deeds+1 } d)\/
  (d.kind=5/\doW σ d=Ja7 { σ with deeds:=σ.deeds+1 })\/
  (d.kind≠1/\d.kind≠2/\d.kind≠5/\((∃ c,(c=3\/c=4)/\doW σ d=({ σ with deeds:=σ.deeds+1 },rp c))\/
   (∃ i,i<3/\doW σ d=upW { σ with deeds:=σ.deeds+1 } i)\/(∃ i,i<3/\doW σ d=JbI { σ with deeds:=σ.deeds+1 } i d.keep))))):=by
 unfold doW
 by_cases h0:300<=σ.deeds
 ·rw [if_pos h0]
  exact .inl ⟨h0,rfl⟩
 rw [if_neg h0];refine .inr ⟨by omega,?_⟩
 simp only
 by_cases h1:d.kind=1
 ·rw [if_pos h1]
  exact .inl ⟨h1,rfl⟩
 rw [if_neg h1]
 by_cases h2:d.kind=2
 ·rw [if_pos h2]
  exact .inr (.inl ⟨h2,rfl⟩)
 rw [if_neg h2]
 by_cases h3:d.kind=5
 ·rw [if_pos h3]
  exact .inr (.inr (.inl ⟨h3,rfl⟩))
 rw [if_neg h3];refine .inr (.inr (.inr ⟨h1,h2,h3,?_⟩))
 by_cases h4:d.kind=3\/d.kind=4
 ·rw [if_pos h4]
  by_cases h5:d.server<0\/3<=d.server
  ·rw [if_pos h5]
   exact .inl ⟨3,.inl rfl,rfl⟩
  rw [if_neg h5];have hi:d.server.toNat<3:=qCE
  by_cases h6:d.kind=4
  ·rw [if_pos h6]
   exact .inr (.inl ⟨_,hi,rfl⟩)
  ·rw [if_neg h6]
   exact .inr (.inr ⟨_,hi,rfl⟩)
 ·rw [if_neg h4]
  exact .inl ⟨4,.inr rfl,rfl⟩
theorem Jpr (l:List Watch) (x:Watch):addE l x≠7/\addE l x≠16:=by
 unfold addE
 repeat' split
 all_goals decide
structure RdIn (σ τ:Wd) (d:Deed) (r:Rp) (i k:Nat):Prop where
 ie:d.server=(i:Int)
 i3:i<3
 ke:d.client=(k:Int)
 k16:k<16
 up:(σ.s i).up=true
 le:(σ.c k).seen<=(σ.s i).tz
 rz:r.zxid=(σ.s i).tz
 rc:r.code=getE (σ.s i).nodes d.path
 rn:r.notes=[]
 lead:τ.lead=σ.lead
 dn:τ.dn=σ.dn
 s:∀ j,∃ ws,τ.s j={ σ.s j with watches:=ws }
 c:∀ j,j<16->(τ.c j).seen=if k=j then (σ.s i).tz else (σ.c j).seen
theorem c_set (h:σ.cl.length=16) (c:Cli) {k:Nat} (hk:k<16) (v:List Srv) (j:Nat):({ σ with srv:=v,cl:=σ.cl.set k c }:Wd).c j=if k=j then c else σ.c j:=by
 show (σ.cl.set k c).getD j noCl=_;rw [Jd0,h]
 by_cases e:k=j
 ·rw [if_pos ⟨e,hk⟩,if_pos e]
 ·rw [if_neg (fun q=>e q.1),if_neg e]
  rfl
theorem Jmj (h:Inv0 Reg E K σ) (d:Deed):(∃ c,c≠0/\c≠7/\c≠16/\JcY σ d=(σ,rp c))\/(∃ i k,RdIn σ (JcY σ d).1 d (JcY σ d).2 i k):=by
 unfold JcY
 by_cases h1:d.client<0\/16<=d.client\/d.server<0\/3<=d.server
 ·rw [if_pos h1]
  exact .inl ⟨3,by decide,by decide,by decide,rfl⟩
 rw [if_neg h1];have hi:d.server.toNat<3:=qCE;have hk:d.client.toNat<16:=qCE;have ei:d.server=(d.server.toNat:Int):=qCE;have ek:d.client=(d.client.toNat:Int):=qCE;generalize d.server.toNat=i at hi ei ⊢;generalize d.client.toNat=k at hk ek ⊢;simp only
 by_cases h2:(σ.s i).up=false
 ·rw [if_pos h2]
  exact .inl ⟨14,by decide,by decide,by decide,rfl⟩
 rw [if_neg h2];have hu:(σ.s i).up=true:=by simpa using h2
 by_cases h3:(σ.s i).tz<(σ.c k).seen
 ·rw [if_pos h3]
  exact .inl ⟨15,by decide,by decide,by decide,rfl⟩
 rw [if_neg h3]
 by_cases h4:d.watch=true
 ·rw [if_pos h4]
  by_cases h5:addE (σ.s i).watches ⟨(σ.c k).session,1,d.path⟩=0
  ·rw [if_neg (fun e=>e h5)]
   refine .inr ⟨i,k,{ ie:=ei,i3:=hi,ke:=ek,k16:=hk,up:=hu,le:=by omega,rz:=rfl,rc:=rfl,rn:=rfl,lead:=rfl,dn:=rfl,s:=?_,c:=?_ }⟩
   ·intro j
    have:=JfF σ σ.fol i j { σ.s i with watches:=addL (σ.s i).watches ⟨(σ.c k).session,1,d.path⟩ } qt0
    show ∃ ws,({ σ with srv:=σ.srv.set i { σ.s i with watches:=addL (σ.s i).watches ⟨(σ.c k).session,1,d.path⟩ },fol:=σ.fol }:Wd).s j=_
    rw [this]
    by_cases e:i=j
    ·subst e
     rw [if_pos rfl];exact ⟨_,rfl⟩
    ·rw [if_neg e]
     exact ⟨_,rfl⟩
   ·intro j hj
    rw [c_set h.c16 _ hk];split <;> rfl
  ·rw [if_pos h5]
   have:=Jpr (σ.s i).watches ⟨(σ.c k).session,1,d.path⟩;exact .inl ⟨_,h5,this.1,this.2,rfl⟩
 ·rw [if_neg h4]
  refine .inr ⟨i,k,{ ie:=ei,i3:=hi,ke:=ek,k16:=hk,up:=hu,le:=by omega,rz:=rfl,rc:=rfl,rn:=rfl,lead:=rfl,dn:=rfl,s:=fun j=>⟨_,rfl⟩,c:=?_ }⟩
  intro j hj;have:=c_set h.c16 ⟨(σ.c k).session,(σ.s i).tz,(σ.c k).cache⟩ hk σ.srv j;rw [this];split <;> rfl
theorem JmO (σ:Wd) (i:Nat) (k:Int):(JbI σ i k).2.code≠16/\(JbI σ i k).2.notes=[]/\(JbI σ i k).1.cl=σ.cl/\(JbI σ i k).1.dn=σ.dn:=by
 have hE:Jbh (σ.s i).disk k≠16:=by
  unfold Jbh
  repeat' split
  all_goals decide
 unfold JbI;split
 ·exact ⟨fun e=>absurd (show (14:Int)=16 from e) qG1,rfl,rfl,rfl⟩
 ·split
  ·exact ⟨hE,rfl,rfl,rfl⟩
  ·refine ⟨fun e=>absurd (show (0:Int)=16 from e) qG1,rfl,?_,?_⟩
   ·simp only
    split <;> rfl
   ·simp only
    split <;> rfl
end
section
variable {Reg:List Txn} {E:Int} {K:Nat} {σ τ:Wd}
theorem do_inv2 (h:Inv Reg E σ.deeds σ) (d:Deed):∃ Reg' E',Reg <+: Reg'/\E<=E'/\Inv Reg' E' (doW σ d).1.deeds (doW σ d).1/\(d.kind=5->(doW σ d).2.code=0->E<E')/\(doW σ d).1.deeds<=σ.deeds+1:=by
 have hD:(doW σ d).1.deeds<=σ.deeds+1:=by
  rcases JfO σ d with ⟨_,e⟩ | ⟨hK,hp⟩
  ·rw [e]
   exact zC6 _
  have hτ:=h.deeds (σ.deeds+1);rcases hp with ⟨hk,e⟩ | ⟨hk,e⟩ | ⟨hk,e⟩ | ⟨k1,k2,k5,⟨c,c34,e⟩ | ⟨i,hi,e⟩ | ⟨i,hi,e⟩⟩ <;> rw [e]
  ·exact zH1 (JfU hτ hK d)
  ·exact zH1 (Jhi _ d)
  ·exact zH1 ((hτ.elect hK).2.2.2.1)
  ·exact zA3 _
  ·exact zH1 (JhS _ _)
  ·exact zH1 (Jew _ _ _)
 by_cases h5:d.kind=5/\(doW σ d).2.code=0
 ·rcases JfO σ d with ⟨_,e⟩ | ⟨hK,hp⟩
  ·have:=h5.2
   rw [e] at this;exact absurd (show (6:Int)=0 from this) qG1
  have hτ:=h.deeds (σ.deeds+1);rcases hp with ⟨hk,e⟩ | ⟨hk,e⟩ | ⟨hk,e⟩ | ⟨k1,k2,k5,hp⟩
  ·have:=h5.1
   omega
  ·have:=h5.1
   omega
  ·obtain ⟨_,h2,_,h4,_⟩:=hτ.elect hK
   have hc:=h5.2;rw [e] at hc;obtain ⟨_,hlt,j,Z⟩:=h2 hc;refine ⟨Reg,_,zH4 _,Int.le_of_lt hlt,?_,fun _ _=>hlt,hD⟩
   rw [e,h4];exact Z.inv
  ·exact absurd h5.1 k5
 ·obtain ⟨Reg',E',a,b,c⟩:=do_inv h d
  exact ⟨Reg',E',a,b,c,fun h1 h2=>absurd ⟨h1,h2⟩ h5,hD⟩
/-! what is told -/
end
section
variable {Reg:List Txn} {E:Int} {K:Nat} {σ τ:Wd}
theorem JgU {i:Nat} {s:Srv} (h:UpIn Reg K i s) (hr:LogP Reg) (hn:Reg.length<=301) {q:Option (ByteArray × ByteArray)} {m1 m2:List Txn} (e:s.disk=dskB q (bS (recs m1)) (bS (recs m2))) (hl:s.log=m1 ++ m2) (hq:EpQ q s.epoch) :
  Jbh s.disk 0=0/\Jg0 (i:Int) (JaQ s 0).disk=0/\(JbU (i:Int) (JaQ s 0).disk).log=m1:=by
 have hz:=h.size hr hn hl;have hc:=Jd1 hq.size hq.safe (zB5 hz qG1) 0;rw [<-e] at hc;have hlm:=Ja0 hr h.lg.sub;have hd:(JaQ s 0).disk=dskB q (bS (recs m1)) noB:=by
  have hc1:Jbh s.disk 0=0:=hc.1;have hc2:JdG s.disk 0=dskB q (bS (recs m1) ++ (bS (recs m2)).extract 0 (min 0 (bS (recs m2)).size)) noB:=hc.2;unfold JaQ;rw [if_pos hc1,hc2];show dskB q _ noB=_;congr 1;apply Jbs;rw [Nat.zero_min];have e1:bs ((bS (recs m2)).extract 0 0)=[]:=by rw [JaC]; simp
  have e2:bs (bS (recs m1) ++ (bS (recs m2)).extract 0 0)=bs (bS (recs m1)) ++ bs ((bS (recs m2)).extract 0 0):=Jas _ _;rw [e2,e1,zE9]
 have hx:JcA m1 []:=JcZ m1;have hz0:(bS (recs m1)).size+noB.size<=1048576:=by
  show _+0<=_;omega
 have hrd:=Jcf (q:=q) hq.size hz0;have hct:=Je8 (q:=q) hq.size hz0 (n:=(recs m1).length) (by rw [Jcj,JaN]; exact zA3 _)
 have hm:Jez m1:=(Ja0 hlm (by rw [hl]; exact zQ3 _ _)).1
 have hrec:JdQ (dskB q (bS (recs m1)) noB) m1 (cutL (dskB q (bS (recs m1)) noB) logN (recs m1).length) 0:=by
  refine .inr (.inr ⟨hrd.1,rfl,(recs m1).length,?_,rfl⟩);rw [hrd.2,Jcj,Jb2];have:=JhY hm hx;rw [zE9] at this;exact this
 have hb:Jci (i:Int) (JaQ s 0).disk ⟨true,cutL (dskB q (bS (recs m1)) noB) logN (recs m1).length,(i:Int),Jce (JaQ s 0).disk,m1,0,0,[rootN],[],[]⟩ 0:=⟨m1,_,hd▸hrec,.inl ⟨rfl,rfl⟩⟩;obtain ⟨b1,b2⟩:=Jiz hb;rw [b1,b2];exact ⟨hc.1,rfl,rfl⟩
end
noncomputable def bl (i:Nat) (f:List File):List Txn:=(JbU (i:Int) f).log
theorem JfR {q:Option (ByteArray × ByteArray)} {m:List Txn} {rest:List UInt8} (hq:Jdv q<=1048576) (hx:JcA m rest) (hz:(recs m ++ rest).length<=1048576) (hm:Jez m) (i:Nat) :
  bl i (dskB q (bS (recs m ++ rest)) noB)=m/\(JbU (i:Int) (dskB q (bS (recs m ++ rest)) noB)).disk=dskB q (bS (recs m)) noB/\(JbU (i:Int) (dskB q (bS (recs m ++ rest)) noB)).up=true:=by
 have hz0:(bS (recs m ++ rest)).size+noB.size<=1048576:=by
  rw [JaN];show _+0<=_;omega
 have hrd:=Jcf (q:=q) hq hz0;have hct:=Je8 (q:=q) hq hz0 (n:=(recs m).length) (by rw [Jcj,JaN,zA9]; omega)
 have hrec:JdQ (dskB q (bS (recs m ++ rest)) noB) m (dskB q (bS (recs m)) noB) 0:=by
  refine .inr (.inr ⟨hrd.1,rfl,(recs m).length,?_,?_⟩)
  ·rw [hrd.2,Jcj,Jb2]
   exact JhY hm hx
  ·rw [hct.2]
   congr 1;apply Jbs;rw [JaC,zJ1,Jcj,Jb2,Jb2,zH2]
 have hb:Jci (i:Int) (dskB q (bS (recs m ++ rest)) noB) ⟨true,dskB q (bS (recs m)) noB,(i:Int),Jce (dskB q (bS (recs m ++ rest)) noB),m,0,0,[rootN],[],[]⟩ 0:=⟨m,_,hrec,.inl ⟨rfl,rfl⟩⟩;obtain ⟨b1,b2⟩:=Jiz hb;unfold bl;rw [b1];exact ⟨rfl,rfl,rfl⟩
theorem Jpe {q:Option (ByteArray × ByteArray)} {m:List Txn} (hq:Jdv q<=1048576) (hz:(recs m).length<=1048576) (hm:Jez m) (i:Nat):bl i (dskB q (bS (recs m)) noB)=m:=by
 have:=(JfR (q:=q) (rest:=[]) hq (JcZ m) (by rw [zE9]; exact hz) hm i).1
 rw [zE9] at this;exact this
noncomputable def dl (i:Nat) (s:Srv):List Txn:=if s.up=true then s.log else bl i s.disk
noncomputable def sl (i:Nat) (s:Srv):List Txn:=if s.up=true then bl i (JaQ s 0).disk else bl i s.disk
section
variable {Reg:List Txn} {E:Int} {K i:Nat} {σ τ:Wd} {s:Srv}
theorem JmN (hr:LogP Reg) {q:Option (ByteArray × ByteArray)} {m1 m2:List Txn} (hs:(m1 ++ m2).Sublist Reg) (hn:Reg.length<=301) (e:s.disk=dskB q (bS (recs m1)) (bS (recs m2))) (hq:Jdv q<=1048576) (hqs:qsafe q) (n:Nat) :
  ∃ j rest,(JaQ s (n:Int)).disk=dskB q (bS (recs (m1 ++ m2.take j) ++ rest)) noB/\JcA (m1 ++ m2.take j) rest/\(recs (m1 ++ m2.take j) ++ rest).length<=1048576/\(JaQ s (n:Int)).up=false/\(n=0->m2.take j=[]):=by
 have hz:(bS (recs m1)).size+(bS (recs m2)).size<=310331:=by
  rw [Jd7,<-JaR];exact JeP hr hs hn
 have hc:=Jd1 hq hqs (zB5 hz qG1) n;rw [<-e] at hc;have hlm:=Ja0 hr hs;obtain ⟨j,rest,t1,t2⟩:=JfZ m2 m1 (min n (bS (recs m2)).size) (fun t ht=>hlm.1.1 t (zM6 _ ht))
 have hd:bS (recs m1) ++ (bS (recs m2)).extract 0 (min n (bS (recs m2)).size)=bS (recs (m1 ++ m2.take j) ++ rest):=by
  apply Jbs;have e1:bs ((bS (recs m2)).extract 0 (min n (bS (recs m2)).size))=(recs m2).take (min n (bS (recs m2)).size):=by rw [JaC,zJ1,Jb2]
  have e2:bs (bS (recs m1) ++ (bS (recs m2)).extract 0 (min n (bS (recs m2)).size))=bs (bS (recs m1)) ++ bs ((bS (recs m2)).extract 0 (min n (bS (recs m2)).size)):=Jas _ _;rw [e2,e1,Jb2,Jb2,t1,JaR,zC0]
 have hlen:(recs (m1 ++ m2.take j) ++ rest).length<=310331:=by
  rw [JaR,zC0,<-t1,zA9];rw [Jd7,zA9] at hz;have h1:((recs m2).take (min n (bS (recs m2)).size)).length<=(recs m2).length:=by rw [zC2]; exact Nat.min_le_right _ _
  omega
 have hcs:JaQ s (n:Int)=⟨false,dskB q (bS (recs (m1 ++ m2.take j) ++ rest)) noB,s.id,0,[],0,0,[rootN],[],[]⟩:=by
  unfold JaQ;rw [if_pos hc.1,hc.2,hd]
 refine ⟨j,rest,by rw [hcs],t2,zB5 hlen qG1,by rw [hcs],?_⟩
 intro h0;subst h0;rw [Nat.zero_min,zP0] at t1;have h2:recs (m2.take j)=[]:=(List.append_eq_nil_iff.1 t1.symm).1
 match hm:m2.take j,h2 with
 | [],_=>rfl
 | t :: r,h2=>
  rw [Jb9] at h2;have h3:=(List.append_eq_nil_iff.1 h2).1;have:=Jh0 t;rw [h3] at this;exact absurd this qI1
structure UpD (i:Nat) (s:Srv) (q:Option (ByteArray × ByteArray)) (m1 m2:List Txn):Prop where
 e:s.disk=dskB q (bS (recs m1)) (bS (recs m2))
 l:s.log=m1 ++ m2
 q:EpQ q s.epoch
 sl:sl i s=m1
 dl:dl i s=m1 ++ m2
theorem UpIn.logs (h:UpIn Reg K i s) (hr:LogP Reg) (hn:Reg.length<=301):∃ q m1 m2,UpD i s q m1 m2:=by
 obtain ⟨q,m1,m2,e,hl,hq⟩:=h.dk;refine ⟨q,m1,m2,e,hl,hq,?_,?_⟩
 ·unfold sl
  rw [if_pos h.up];exact (JgU h hr hn e hl hq).2.2
 ·unfold dl
  rw [if_pos h.up,hl]
theorem up_sl (h:UpIn Reg K i s) (hr:LogP Reg) (hn:Reg.length<=301) {q:Option (ByteArray × ByteArray)} {m1 m2:List Txn} (e:s.disk=dskB q (bS (recs m1)) (bS (recs m2))) (hl:s.log=m1 ++ m2) (hq:EpQ q s.epoch):sl i s=m1:=by
 unfold sl;rw [if_pos h.up];exact (JgU h hr hn e hl hq).2.2
theorem JiM (h:UpIn Reg K i s):dl i s=s.log:=by
 unfold dl;rw [if_pos h.up]
theorem DownIn.logs (h:DownIn Reg i s) (hr:LogP Reg) (hn:Reg.length<=301):sl i s=dl i s/\∃ q ep m rest,s.disk=dskB q (bS (recs m ++ rest)) noB/\EpQ q ep/\JcA m rest/\(recs m ++ rest).length<=1048576/\LogIn Reg m/\dl i s=m:=by
 have hu:¬ s.up=true:=by rw [h.eq]; exact fun e=>absurd (show false=true from e) qG1
 obtain ⟨q,ep,m,rest,e,hq,hx,hz,hl⟩:=h.dk;refine ⟨by unfold sl dl; rw [if_neg hu,if_neg hu],q,ep,m,rest,e,hq,hx,hz,hl,?_⟩
 unfold dl;rw [if_neg hu,e];exact (JfR hq.size hx hz (Ja0 hr hl.sub).1 i).1
theorem Inv0.dl_in (h:Inv0 Reg E K σ) (hi:i<3):sl i (σ.s i) <+: dl i (σ.s i)/\(dl i (σ.s i)).Sublist Reg:=by
 rcases h.srv i hi with u | u
 ·obtain ⟨q,m1,m2,U⟩:=u.logs h.reg h.small
  rw [U.sl,U.dl];refine ⟨zP4 _ _,?_⟩;rw [<-U.l];exact u.lg.sub
 ·obtain ⟨e,q,ep,m,rest,_,_,_,_,hl,hd⟩:=u.logs h.reg h.small
  rw [e,hd];exact ⟨zH4 _,hl.sub⟩
theorem UpIn.crash_logs (h:UpIn Reg K i s) (hr:LogP Reg) (hn:Reg.length<=301) {keep:Int} (hk:0<=keep):sl i s <+: sl i (JaQ s keep)/\dl i (JaQ s keep) <+: dl i s/\sl i (JaQ s keep)=dl i (JaQ s keep):=by
 obtain ⟨n,rfl⟩:=zG8 hk;obtain ⟨q,m1,m2,U⟩:=h.logs hr hn;obtain ⟨j,rest,e,hx,hz,hu,_⟩:=JmN (s:=s) hr (m1:=m1) (m2:=m2) (by rw [<-U.l]; exact h.lg.sub) hn U.e U.q.size U.q.safe n
 have hm:Jez (m1 ++ m2.take j):=by
  have:=Ja0 hr h.lg.sub;rw [U.l] at this;exact (Ja0 this (List.Sublist.append (List.Sublist.refl _) (List.take_sublist _ _))).1
 have hd:bl i (JaQ s (n:Int)).disk=m1 ++ m2.take j:=by
  rw [e];exact (JfR U.q.size hx hz hm i).1
 have hu':¬ (JaQ s (n:Int)).up=true:=by rw [hu]; decide
 have h1:sl i (JaQ s (n:Int))=m1 ++ m2.take j:=by unfold Go.Proofs.YtjnooagaghdkdaaGreatDoor.sl; rw [if_neg hu',hd]
 have h2:dl i (JaQ s (n:Int))=m1 ++ m2.take j:=by unfold Go.Proofs.YtjnooagaghdkdaaGreatDoor.dl; rw [if_neg hu',hd]
 rw [h1,h2,U.sl,U.dl];exact ⟨zP4 _ _,(List.prefix_append_right_inj _).2 (List.take_prefix _ _),rfl⟩
theorem DownIn.boot_logs (h:DownIn Reg i s) (hr:LogP Reg) (hn:Reg.length<=301):sl i (JbU (i:Int) s.disk)=sl i s/\dl i (JbU (i:Int) s.disk)=dl i s:=by
 obtain ⟨b1,b2,b3,_⟩:=h.boot hr hn;obtain ⟨e,q,ep,m,rest,ed,hq,hx,hz,hl,hd⟩:=h.logs hr hn;have hm:=(Ja0 hr hl.sub).1;obtain ⟨c1,c2,c3⟩:=JfR hq.size hx hz hm i;rw [<-ed] at c1 c2 c3;have h2:dl i (JbU (i:Int) s.disk)=m:=by
  rw [JiM b2];exact c1
 refine ⟨?_,by rw [h2,hd]⟩
 rw [e,hd];obtain ⟨q',m1,m2,U⟩:=b2.logs hr hn;have hzm:(recs m).length<=1048576:=by
  rw [zA9] at hz;omega
 have hz1:(bS (recs m)).size+noB.size<=1048576:=by
  rw [JaN];show _+0<=_;omega
 have hhalf:=b2.ep hr hn
 -- what is left after a crash at once
 have hc:=Jd1 (q:=q) hq.size hq.safe hz1 0;rw [<-c2] at hc;have hcd:(JaQ (JbU (i:Int) s.disk) 0).disk=dskB q (bS (recs m)) noB:=by
  have hc1:Jbh (JbU (i:Int) s.disk).disk 0=0:=hc.1;have hc2:JdG (JbU (i:Int) s.disk).disk 0=dskB q (bS (recs m) ++ noB.extract 0 (min 0 noB.size)) noB:=hc.2;unfold JaQ;rw [if_pos hc1,hc2];show dskB q _ noB=_;congr 1;apply Jbs;have e2:bs (bS (recs m) ++ noB.extract 0 (min 0 noB.size))=bs (bS (recs m)) ++ bs (noB.extract 0 (min 0 noB.size)):=Jas _ _;rw [e2,Nat.zero_min];have e1:bs (noB.extract 0 0)=[]:=by rw [JaC]; simp
  rw [e1,zE9]
 unfold Go.Proofs.YtjnooagaghdkdaaGreatDoor.sl;rw [if_pos c3,hcd];exact Jpe hq.size hzm hm i
theorem UpIn.take_logs (h:UpIn Reg K i s) (hr:LogP Reg) (hn:Reg.length<=300) {x:Txn} (hg:Jat x=0) (hz:Jao Reg<x.zxid) (hx:Jaz (runT newTr s.log) x=0) (safe:Bool) :
  dl i (Jcm s x safe)=dl i s ++ [x]/\sl i s <+: sl i (Jcm s x safe)/\(safe=true->x∈sl i (Jcm s x safe)):=by
 obtain ⟨_,t2,t3,_⟩:=h.take hr hn hg hz hx safe;obtain ⟨q,m1,m2,U⟩:=h.logs hr qH1;have hr2:=JdD hr hg hz;have hzz:=JeP hr2 t3.lg.sub qB1;rw [t2] at hzz;simp only [U.l] at hzz;obtain ⟨a1,a2,a3,a4⟩:=app_no (q:=q) U.q.size hg (zB5 hzz qG1);rw [<-U.e] at a2 a4;have hl:(Jcm s x safe).log=m1 ++ m2 ++ [x]:=by
  rw [t2];show s.log ++ [x]=_;rw [U.l]
 have he:(Jcm s x safe).epoch=s.epoch:=by rw [t2]
 refine ⟨by rw [JiM t3,hl,U.dl],?_⟩
 cases safe
 ·have e:(Jcm s x false).disk=dskB q (bS (recs m1)) (bS (recs (m2 ++ [x]))):=by
   rw [t2];exact a2
  have:=up_sl t3 hr2 qB1 e (by rw [hl,zC0]) (he▸U.q)
  rw [this,U.sl];exact ⟨zH4 _,fun e=>absurd e qG1⟩
 ·have e:(Jcm s x true).disk=dskB q (bS (recs (m1 ++ m2 ++ [x]))) (bS (recs [])):=by
   rw [t2];exact a4
  have:=up_sl t3 hr2 qB1 e (by rw [hl,zE9]) (he▸U.q)
  rw [this,U.sl,zC0];exact ⟨zP4 _ _,fun _=>by simp⟩
theorem UpIn.fol_logs (h:UpIn Reg K i s) (hr:LogP Reg) (hn:Reg.length<=301) {l:List Txn} (hl:LogIn Reg l) {ep:Int} (hep:Half ep) (hd:s.done_<=(comK l s.log:Nat)) :
  dl i (folS s l ep (l.length - comK l s.log))=l/\sl i (folS s l ep (l.length - comK l s.log))=l:=by
 obtain ⟨f1,f2,_⟩:=h.fol hr hn hl hep hd;refine ⟨?_,?_⟩
 ·rw [JiM f2,f1]
 ·refine up_sl f2 hr hn (q:=some (epT ep,noB)) (m1:=l) (m2:=[]) (by rw [f1]; rfl) (by rw [f1,zE9]) (by rw [f1]; exact .inr ⟨rfl,hep⟩)
end
def Fix (x:Txn) (A m:List Txn):Prop:=∀ p r,m=p ++ x :: r->p=A
theorem Fix.pre {x:Txn} {A m n:List Txn} (h:Fix x A m) (hp:n <+: m):Fix x A n:=by
 obtain ⟨t,rfl⟩:=hp;intro p r e;exact h p (r ++ t) (by rw [e,zC0]; rfl)
theorem Fix.snoc {x y:Txn} {A m:List Txn} (h:Fix x A m) (hne:y≠x):Fix x A (m ++ [y]):=by
 intro p r e;rcases List.eq_nil_or_concat r with rfl | ⟨r',z,rfl⟩
 ·have:=(zQ8 e rfl).2
  injection this with this
  exact absurd this hne
 ·have e2:m ++ [y]=(p ++ x :: r') ++ [z]:=by rw [e,zC0,List.concat_eq_append]; rfl
  exact h p r' (zQ8 e2 rfl).1
structure Kept0 (σ:Wd):Prop where
 safe:∀ x∈σ.dn,∃ i j,i<j/\j<3/\x∈sl i (σ.s i)/\x∈sl j (σ.s j)
 full:∀ x∈σ.dn,∀ i,i<3->∀ y∈dl i (σ.s i),x.zxid<y.zxid->x∈dl i (σ.s i)
structure Kept (σ:Wd):Prop extends Kept0 σ where
 lead:∀ l:Nat,σ.lead=(l:Int)->∀ x∈σ.dn,x∈(σ.s l).log
def FixW (x:Txn) (A:List Txn) (σ:Wd):Prop:=∀ i,i<3->Fix x A (dl i (σ.s i))
section
variable {Reg:List Txn} {E:Int} {K i:Nat} {σ τ:Wd} {s:Srv}
theorem Kept0.no (h:Kept0 σ) (hl:σ.lead = -1):Kept σ:=⟨h,fun l e=>by rw [hl] at e; omega⟩
structure SameL (σ τ:Wd):Prop where
 dn:τ.dn=σ.dn
 d:∀ i,i<3->dl i (τ.s i)=dl i (σ.s i)
 s:∀ i,i<3->sl i (τ.s i)=sl i (σ.s i)
theorem SameL.kept0 (e:SameL σ τ) (h:Kept0 σ):Kept0 τ:=by
 refine ⟨fun x hx=>?_,fun x hx i hi y hy hlt=>?_⟩
 ·rw [e.dn] at hx
  obtain ⟨i,j,a,b,c,d⟩:=h.safe x hx;exact ⟨i,j,a,b,by rw [e.s i qH1]; exact c,by rw [e.s j b]; exact d⟩
 ·rw [e.dn] at hx
  rw [e.d i hi] at hy ⊢;exact h.full x hx i hi y hy hlt
theorem SameL.fix (e:SameL σ τ) {x:Txn} {A:List Txn} (h:FixW x A σ):FixW x A τ:=fun i hi=>by rw [e.d i hi]; exact h i hi
theorem mem_pre (h:LogP Reg) {m n:List Txn} (hm:m.Sublist Reg) (hp:n <+: m) {x y:Txn} (hx:x∈m) (hy:y∈n) (hlt:x.zxid<y.zxid):x∈n:=by
 obtain ⟨t,rfl⟩:=hp;rcases zE7.1 hx with h1 | h1
 ·exact h1
 ·exfalso
  have hP:=Ja0 h hm;obtain ⟨i,hi⟩:=zJ8 hy;obtain ⟨j,hj⟩:=zJ8 h1;have hil:=(zB3.1 hi).1;have h2:(n ++ t)[i]?=some y:=by rw [zF1 hil]; exact hi
  have h3:(n ++ t)[n.length+j]?=some x:=by rw [zI5 qH1,Nat.add_sub_cancel_left]; exact hj
  have:=Jca hP qH1 h2 h3;omega
theorem Kept0.cut (h:Inv0 Reg E K σ) (k:Kept0 σ) (hi:i<3) {f:List Bool} (h1:sl i (σ.s i) <+: sl i s) (h2:dl i s <+: dl i (σ.s i)):Kept0 { σ with srv:=σ.srv.set i s,fol:=f }:=by
 have hS:∀ j,({ σ with srv:=σ.srv.set i s,fol:=f }:Wd).s j=if i=j then s else σ.s j:=fun j=>JfF σ f i j s qt0
 have hs:∀ x j,x∈sl j (σ.s j)->x∈sl j (({ σ with srv:=σ.srv.set i s,fol:=f }:Wd).s j):=by
  intro x j hx;rw [hS]
  by_cases e:i=j
  ·subst e
   rw [if_pos rfl];exact h1.subset hx
  ·rw [if_neg e]
   exact hx
 refine ⟨fun x hx=>?_,fun x hx j hj y hy hlt=>?_⟩
 ·obtain ⟨a,b,c,d,e,g⟩:=k.safe x hx
  exact ⟨a,b,c,d,hs x a e,hs x b g⟩
 ·rw [hS] at hy ⊢
  by_cases e:i=j
  ·subst e
   rw [if_pos rfl] at hy ⊢;exact mem_pre h.reg (h.dl_in hi).2 h2 (k.full x hx i hi y (h2.subset hy) hlt) hy hlt
  ·rw [if_neg e] at hy ⊢
   exact k.full x hx j hj y hy hlt
theorem FixW.cut (h:Inv0 Reg E K σ) {x:Txn} {A:List Txn} (k:FixW x A σ) (hi:i<3) {f:List Bool} (h2:dl i s <+: dl i (σ.s i)):FixW x A { σ with srv:=σ.srv.set i s,fol:=f }:=by
 intro j hj;rw [JfF σ f i j s qt0]
 by_cases e:i=j
 ·subst e
  rw [if_pos rfl];exact (k i hj).pre h2
 ·rw [if_neg e]
  exact k j hj
theorem Jms (h:Inv Reg E K σ) (k:Kept σ) (hi:i<3) (keep:Int):Kept (JbI σ i keep).1/\∀ x A,FixW x A σ->FixW x A (JbI σ i keep).1:=by
 unfold JbI
 by_cases hu:(σ.s i).up=false
 ·rw [if_pos hu]
  exact ⟨k,fun _ _ f=>f⟩
 rw [if_neg hu]
 by_cases hc:Jbh (σ.s i).disk keep=0
 ·rw [if_neg (fun e=>e hc)]
  have hk:0<=keep:=by
   by_cases hk:0<=keep
   ·exact hk
   ·exact absurd hc (JjW qH1)
  have hup:=h.toInv0.up hi (by simpa using hu)
  obtain ⟨c1,c2,_⟩:=hup.crash_logs h.reg h.small hk;have h0:Kept0 (Jft σ i keep):=k.toKept0.cut h.toInv0 hi c1 c2;have hf:∀ x A,FixW x A σ->FixW x A (Jft σ i keep):=fun x A f=>f.cut h.toInv0 hi c2
  by_cases hl:σ.lead=(i:Int)
  ·simp only [if_pos hl]
   exact ⟨Kept0.no (σ:=Jay (Jft σ i keep)) ⟨h0.safe,h0.full⟩ rfl,fun x A f=>hf x A f⟩
  ·simp only [if_neg hl]
   refine ⟨⟨h0,fun l e x hx=>?_⟩,hf⟩
   have hil:i≠l:=fun q=>hl (by rw [show σ.lead=(l:Int) from e,q])
   have:=k.lead l e x hx;show x∈((Jft σ i keep).s l).log;rw [show (Jft σ i keep).s l=if i=l then JaQ (σ.s i) keep else σ.s l from JfF σ (σ.fol.set i false) i l _ qt0,if_neg hil]
   exact this
 ·rw [if_pos hc]
  exact ⟨k,fun _ _ f=>f⟩
theorem kept_up (h:Inv Reg E K σ) (k:Kept σ) (hi:i<3):Kept (upW σ i).1/\∀ x A,FixW x A σ->FixW x A (upW σ i).1:=by
 unfold upW
 by_cases hu:(σ.s i).up=true
 ·rw [if_pos hu]
  exact ⟨k,fun _ _ f=>f⟩
 rw [if_neg hu];have hdn:=h.toInv0.down hi (by simpa using hu)
 obtain ⟨b1,_⟩:=hdn.boot h.reg h.small;rw [if_neg (fun e=>e b1)]
 obtain ⟨c1,c2⟩:=hdn.boot_logs h.reg h.small;have hS:∀ j,({ σ with srv:=σ.srv.set i (JbU (i:Int) (σ.s i).disk),fol:=σ.fol }:Wd).s j=if i=j then JbU (i:Int) (σ.s i).disk else σ.s j:=fun j=>JfF σ σ.fol i j _ qt0
 have h0:=k.toKept0.cut h.toInv0 hi (s:=JbU (i:Int) (σ.s i).disk) (f:=σ.fol) (by rw [c1]; exact zH4 _) (by rw [c2]; exact zH4 _)
 refine ⟨⟨h0,fun l e x hx=>?_⟩,fun x A f=>f.cut h.toInv0 hi (f:=σ.fol) (by rw [c2]; exact zH4 _)⟩
 have hx2:=k.lead l e x hx;show x∈(({ σ with srv:=σ.srv.set i (JbU (i:Int) (σ.s i).disk),fol:=σ.fol }:Wd).s l).log
 rw [hS]
 by_cases e2:i=l
 ·subst e2
  rw [hdn.eq] at hx2;cases hx2
 ·rw [if_neg e2]
  exact hx2
theorem Joe (h:Inv0 Reg E K σ) (k:Kept σ) (d:Deed):Kept (JcY σ d).1/\∀ x A,FixW x A σ->FixW x A (JcY σ d).1:=by
 rcases Jmj h d with ⟨c,_,_,_,e⟩ | ⟨i,j,R⟩
 ·rw [e]
  exact ⟨k,fun _ _ f=>f⟩
 ·have hs:SameL σ (JcY σ d).1:=⟨R.dn,fun i _=>by obtain ⟨ws,e⟩:=R.s i; rw [e]; rfl,fun i _=>by obtain ⟨ws,e⟩:=R.s i; rw [e]; rfl⟩
  refine ⟨⟨hs.kept0 k.toKept0,fun l e x hx=>?_⟩,fun x A f=>hs.fix f⟩
  rw [R.lead] at e;rw [R.dn] at hx;obtain ⟨ws,e2⟩:=R.s l;rw [e2];exact k.lead l e x hx
theorem ahead_le {a b:Peer} (h:JbK a b=true):Jao b.log<=Jao a.log:=by
 unfold JbK at h;simp only [zJ0,zE1,decide_eq_true_eq] at h;omega
theorem JgK {l:List Txn} {ep:Int} (hl:LogIn Reg l) (hep:Half ep) (hk:ep<=K):∀ (is:List Nat) (σ:Wd) (ns:List Note),Inv0 Reg E K σ->is.Nodup->(∀ i∈is,i<3)->(∀ i∈is,(σ.s i).up=true->epOf (σ.s i)<=ep)->(∀ x∈σ.dn,x∈l)->
  (Kept0 σ->Kept0 (JbT l ep is (σ,ns)).1)/\∀ x A,Fix x A l->FixW x A σ->FixW x A (JbT l ep is (σ,ns)).1
 | [],σ,ns,_,_,_,_,_=>⟨fun k=>k,fun _ _ _ f=>f⟩
 | i :: is,σ,ns,h,hn,h3,he,hx=>by
  obtain ⟨n1,n2⟩:=zK6.1 hn;unfold JbT
  by_cases hu:(σ.s i).up=false
  ·rw [if_pos hu]
   exact JgK hl hep hk is σ ns h n2 (fun j hj=>h3 j (zF2 _ hj)) (fun j hj=>he j (zF2 _ hj)) hx
  ·rw [if_neg hu]
   have hu:(σ.s i).up=true:=by simpa using hu
   by_cases hd:((comK l (σ.s i).log:Nat):Int)<(σ.s i).done_
   ·rw [if_pos hd]
    exact ⟨fun k=>k,fun _ _ _ f=>f⟩
   ·rw [if_neg hd]
    have hi:=h3 i zF5;obtain ⟨g1,g2,_⟩:=JgL h hi hu hl hep hk (he i zF5 hu) qH1 ns;obtain ⟨d1,d2⟩:=(h.up hi hu).fol_logs h.reg h.small hl hep qH1;have r:=JgK hl hep hk is (folW l ep (σ,ns) i).1 (folW l ep (σ,ns) i).2 g1 n2 (fun j hj=>h3 j (zF2 _ hj)) (fun j hj hj2=>by
     have e:i≠j:=fun e=>n1 (e▸hj)
     rw [g2,if_neg e] at hj2 ⊢;exact he j (zF2 _ hj) hj2) hx
    have hD:∀ j,dl j ((folW l ep (σ,ns) i).1.s j)=if i=j then l else dl j (σ.s j):=by
     intro j;rw [g2]
     by_cases e:i=j
     ·subst e
      rw [if_pos rfl,if_pos rfl];exact d1
     ·rw [if_neg e,if_neg e]
    have hSl:∀ j,sl j ((folW l ep (σ,ns) i).1.s j)=if i=j then l else sl j (σ.s j):=by
     intro j;rw [g2]
     by_cases e:i=j
     ·subst e
      rw [if_pos rfl,if_pos rfl];exact d2
     ·rw [if_neg e,if_neg e]
    refine ⟨fun k=>r.1 ⟨fun x hx2=>?_,fun x hx2 j hj y hy hlt=>?_⟩,fun x A fl f=>r.2 x A fl (fun j hj=>?_)⟩
    ·obtain ⟨a,b,c,d,e,g⟩:=k.safe x hx2
     refine ⟨a,b,c,d,?_,?_⟩
     ·rw [hSl]
      split
      ·exact hx x hx2
      ·exact e
     ·rw [hSl]
      split
      ·exact hx x hx2
      ·exact g
    ·rw [hD] at hy ⊢
     split at hy
     ·rename_i e
      rw [if_pos e];exact hx x hx2
     ·rename_i e
      rw [if_neg e];exact k.full x hx2 j hj y hy hlt
    ·rw [hD]
     split
     ·exact fl
     ·exact f j hj
theorem Jmr (h:Inv Reg E K σ) (hK:K+1<=300) (k:Kept σ):Kept (Ja7 σ).1/\∀ x A,FixW x A σ->FixW x A (Ja7 σ).1:=by
 unfold Ja7
 by_cases h2:(upsW σ).length<2
 ·rw [if_pos h2]
  exact ⟨k,fun _ _ f=>f⟩
 rw [if_neg h2];obtain ⟨b,hb1,hb,hb2⟩:=Jpk h.toInv0 qH1;obtain ⟨t1,t2,t3⟩:=h.toInv0.topE qH1;have hbe:(upsW σ)[b]?=some ((upsW σ)[b]'hb1):=zA8 hb1;have hmem:(upsW σ).getD (Jfd (upsW σ)) Jmk=(upsW σ)[b]'hb1:=by
  rw [hb2,zE6,hbe];rfl
 obtain ⟨j,hj,hju,hjp⟩:=Jkc h.n3 (zI1 hb1);rw [hmem,hjp];simp only;rw [hjp] at hbe;have h0:=h.e0;have hep:Half (topE (upsW σ)+1):=⟨by omega,by have:=h.k300; omega⟩
 have hm:Inv Reg E (K+1) (Jay σ):=(h.toInv0.mono (zC6 K) hK).resign;have uj:=h.toInv0.up hj hju;have hlg:=uj.lg;have hdj:dl j (σ.s j)=(σ.s j).log:=JiM uj
 -- what is acknowledged is in the log of the best
 have hin:∀ x∈σ.dn,x∈(σ.s j).log:=by
  intro x hx;obtain ⟨a,c,ac,c3,xa,xc⟩:=k.safe x hx;obtain ⟨p,q,pq,q3,pu,qu⟩:=Jkb h.n3 qH1;have hex:∃ m,m<3/\(σ.s m).up=true/\x∈sl m (σ.s m):=by
   have:a=p\/a=q\/c=p\/c=q:=qCE;rcases this with e | e | e | e
   ·exact ⟨a,by omega,e▸pu,xa⟩
   ·exact ⟨a,by omega,e▸qu,xa⟩
   ·exact ⟨c,by omega,e▸pu,xc⟩
   ·exact ⟨c,by omega,e▸qu,xc⟩
  obtain ⟨m,m3,mu,xm⟩:=hex;have um:=h.toInv0.up m3 mu;have xl:x∈(σ.s m).log:=by
   rw [<-JiM um];exact (h.toInv0.dl_in m3).1.subset xm
  have hzm:=Jer (Ja0 h.reg um.lg.sub) xl;have hle:Jao (σ.s m).log<=Jao (σ.s j).log:=by
   obtain ⟨n,hn⟩:=zJ8 (ups_of h.n3 m3 mu)
   by_cases e:n=b
   ·rw [e,hbe] at hn
    injection hn with hn
    have:(σ.s j).log=(σ.s m).log:=congrArg Peer.log hn;rw [this];exact zD6 _
   ·have h7:JbK (Jar (σ.s j)) (Jar (σ.s m))=true:=hb n _ _ e hbe hn
    exact ahead_le h7
  have hx1:=h.reg.2 x (h.dn.subset hx)
  by_cases hnil:(σ.s j).log=[]
  ·rw [hnil,Jcb] at hle
   omega
  ·obtain ⟨y,hy,ey⟩:=JbW hnil
   rw [ey] at hle
   by_cases exy:x.zxid=y.zxid
   ·rw [JnM h.reg (h.dn.subset hx) (hlg.sub.subset hy) exy]
    exact hy
   ·have:=k.full x hx j hj y (by rw [hdj]; exact hy) qH1
    rw [hdj] at this;exact this
 have hle:∀ i∈[0,1,2],((Jay σ).s i).up=true->epOf ((Jay σ).s i)<=topE (upsW σ)+1:=fun i hi hu=>by
  have:=t3 i (by simp at hi; omega) hu
  show epOf (σ.s i)<=_;omega
 have F:=JfM (l:=(Jar (σ.s j)).log) hlg hep (K:=K+1) qH1 [0,1,2] (Jay σ) [] hm.toInv0 qG1 qI1 hle;obtain ⟨kf,ff⟩:=JgK (l:=(Jar (σ.s j)).log) hlg hep (K:=K+1) qH1 [0,1,2] (Jay σ) [] hm.toInv0 qG1 qI1 hle hin;have k1:=kf ⟨k.safe,k.full⟩;have f1:∀ x A,FixW x A σ->FixW x A (JbT (Jar (σ.s j)).log (topE (upsW σ)+1) [0,1,2] (Jay σ,[])).1:=fun x A f=>ff x A (show Fix x A (σ.s j).log from hdj▸f j hj) f
 generalize JbT (Jar (σ.s j)).log (topE (upsW σ)+1) [0,1,2] (Jay σ,[])=r at F k1 f1 ⊢;obtain ⟨τ,ns,c⟩:=r;simp only at F k1 f1 ⊢
 by_cases hc:c=0
 ·rw [if_neg (fun e=>e hc)]
  have hid:(Jar (σ.s j)).id=(j:Int):=uj.id;refine ⟨⟨⟨k1.safe,k1.full⟩,fun l e x hx=>?_⟩,fun x A f=>f1 x A f⟩
  have e2:(Jar (σ.s j)).id=(l:Int):=e;have:l=j:=qCE;subst this;show x∈(τ.s l).log;rw [(F.yes hc l qB1 hju).2.1];have hx2:x∈τ.dn:=hx;rw [F.dn] at hx2;exact hin x hx2
 ·rw [if_pos hc]
  exact ⟨k1.no F.lead,f1⟩
theorem Jjn (h:Inv Reg E K σ) (k:Kept σ) {d:Deed} {l:Nat} {x:Txn} {hv:List Nat} (W:WrIn Reg E K σ d l x τ hv) :
  Kept τ/\(∀ i∈hv,i<3/\x∈sl i (τ.s i))/\x∈(τ.s l).log/\(∀ i,i<3->(dl i (τ.s i)).Sublist (Reg ++ [x]))/\(∀ y A,y∈Reg->FixW y A σ->FixW y A τ)/\FixW x (σ.s l).log τ:=by
 have T:=W.tk;have hn:Reg.length<=300:=qbE;have hl3:=W.li.lt;have hll:=W.li.same l hl3 W.li.fl;have hupl:=h.toInv0.up hl3 hll.1
 -- each server
 have each:∀ i,i<3->(τ.s i=σ.s i/\τ.f i=false)\/(dl i (τ.s i)=(σ.s l).log ++ [x]/\sl i (σ.s i) <+: sl i (τ.s i)/\(i∈hv->x∈sl i (τ.s i))/\(τ.s i).log=(σ.s l).log ++ [x]):=by
  intro i hi
  by_cases hf:τ.f i=true
  ·right
   obtain ⟨y1,sf,y2,y3⟩:=T.yes i qB1 hf;obtain ⟨u1,u2,u3⟩:=W.li.same i hi y1;have U:=h.toInv0.up hi u1;obtain ⟨a,b,c⟩:=U.take_logs h.reg hn W.gt W.new (by rw [u3]; exact W.run) sf
   obtain ⟨_,t2,t3,_⟩:=U.take h.reg hn W.gt W.new (by rw [u3]; exact W.run) sf
   rw [y2];refine ⟨by rw [a,JiM U,u3],b,fun hi=>c (y3.2 hi),?_⟩
   rw [t2];show (σ.s i).log ++ [x]=_;rw [u3]
  ·left
   have hf:τ.f i=false:=by simpa using hf
   exact ⟨T.no i qB1 hf,hf⟩
 have hin:∀ y∈σ.dn,y∈(σ.s l).log:=fun y hy=>k.lead l W.lead y hy
 have hlog:(τ.s l).log=(σ.s l).log ++ [x]:=by
  obtain ⟨hfl,_⟩:=T.ld qB1;rcases each l hl3 with ⟨_,e⟩ | e
  ·rw [hfl] at e
   cases e
  ·exact e.2.2.2
 refine ⟨⟨⟨fun y hy=>?_,fun y hy i hi z hz hlt=>?_⟩,fun l' e y hy=>?_⟩,fun i hi=>?_,by rw [hlog]; simp,fun i hi=>?_,fun y A hy f i hi=>?_,fun i hi=>?_⟩
 ·rw [T.dn] at hy
  have go:∀ a,a<3->y∈sl a (σ.s a)->y∈sl a (τ.s a):=by
   intro a ha hya;rcases each a ha with e | e
   ·rw [e.1]
    exact hya
   ·exact e.2.1.subset hya
  obtain ⟨a,b,c,d,e,g⟩:=k.safe y hy;exact ⟨a,b,c,d,go a qH1 e,go b d g⟩
 ·rw [T.dn] at hy
  rcases each i hi with e | e
  ·rw [e.1] at hz ⊢
   exact k.full y hy i hi z hz hlt
  ·rw [e.1]
   exact zI7 _ (hin y hy)
 ·rw [T.dn] at hy
  rw [T.lead,W.lead] at e;have:l'=l:=qCE;subst this;rw [hlog];exact zI7 _ (hin y hy)
 ·obtain ⟨a,b⟩:=T.hvs i hi
  have h3:i<3:=by simp at a; omega
  refine ⟨h3,?_⟩;rcases each i h3 with e | e
  ·rw [b] at e
   cases e.2
  ·exact e.2.2.1 hi
 ·rcases each i hi with e | e
  ·rw [e.1]
   exact (h.toInv0.dl_in hi).2.trans (zQ3 _ _)
  ·rw [e.1]
   exact hupl.lg.sub.append (List.Sublist.refl _)
 ·rcases each i hi with e | e
  ·rw [e.1]
   exact f i hi
  ·rw [e.1]
   refine Fix.snoc ?_ (fun e2=>?_)
   ·have:=f l hl3
    rw [JiM hupl] at this;exact this
   ·have:=Jer h.reg hy
    have:=W.new;rw [e2] at this;omega
 ·have hnew:∀ m:List Txn,m.Sublist Reg->x∉m:=by
   intro m hm hx;have:=Jer h.reg (hm.subset hx);have:=W.new;omega
  rcases each i hi with e | e
  ·rw [e.1]
   intro p r e2;exact absurd (show x∈dl i (σ.s i) by rw [e2]; simp) (hnew _ (h.toInv0.dl_in hi).2)
  ·rw [e.1]
   intro p r e2;rcases List.eq_nil_or_concat r with rfl | ⟨r',z,rfl⟩
   ·exact ((zQ8 e2 rfl).1).symm
   ·have e3:(σ.s l).log ++ [x]=(p ++ x :: r') ++ [z]:=by rw [e2,zC0,List.concat_eq_append]; rfl
    have e4:=(zQ8 e3 rfl).1;exact absurd (show x∈(σ.s l).log by rw [e4]; simp) (hnew _ hupl.lg.sub)
theorem Jes (h:Inv Reg E K σ) (k:Kept σ) {d:Deed} {l:Nat} {x:Txn} {hv:List Nat} (W:WrIn Reg E K σ d l x τ hv) (h2:2<=hv.length) :
  Kept (JaM τ d.client.toNat x hv).1/\(∀ y A,y∈Reg->FixW y A σ->FixW y A (JaM τ d.client.toNat x hv).1)/\FixW x (σ.s l).log (JaM τ d.client.toNat x hv).1:=by
 obtain ⟨k1,k2,k3,k4,k5,k6⟩:=Jjn h k W;obtain ⟨I,hdn,_,hlead,_,hs⟩:=W.commit h;have hD:∀ i,dl i ((JaM τ d.client.toNat x hv).1.s i)=dl i (τ.s i):=by
  intro i;rw [hs];split <;> rfl
 have hSl:∀ i,sl i ((JaM τ d.client.toNat x hv).1.s i)=sl i (τ.s i):=by
  intro i;rw [hs];split <;> rfl
 have hlg:∀ i,((JaM τ d.client.toNat x hv).1.s i).log=(τ.s i).log:=by
  intro i;rw [hs];split <;> rfl
 have hmem:∀ y,y∈(JaM τ d.client.toNat x hv).1.dn->y∈τ.dn\/y=x:=by
  intro y hy;rw [hdn] at hy;rcases zE7.1 hy with e | e
  ·rw [W.tk.dn]
   exact .inl e
  ·exact .inr (zE3.1 e)
 refine ⟨⟨⟨fun y hy=>?_,fun y hy i hi z hz hlt=>?_⟩,fun l' e y hy=>?_⟩,fun y A hy f i hi=>by rw [hD]; exact k5 y A hy f i hi,fun i hi=>by rw [hD]; exact k6 i hi⟩
 ·rcases hmem y hy with hy | rfl
  ·obtain ⟨a,b,c,dd,e,g⟩:=k1.safe y hy
   exact ⟨a,b,c,dd,by rw [hSl]; exact e,by rw [hSl]; exact g⟩
  ·match hv,h2,W.tk.nd,k2 with
   | a :: b :: r,_,hn,k2=>
    have hab:a≠b:=by
     have:=(zK6.1 hn).1;intro e;exact this (e▸zF5)
    obtain ⟨a3,qa⟩:=k2 a zF5;obtain ⟨b3,qb⟩:=k2 b (zF2 _ zF5);rcases Nat.lt_or_gt_of_ne hab with hlt | hlt
    ·exact ⟨a,b,hlt,b3,by rw [hSl]; exact qa,by rw [hSl]; exact qb⟩
    ·exact ⟨b,a,hlt,a3,by rw [hSl]; exact qb,by rw [hSl]; exact qa⟩
 ·rw [hD] at hz ⊢
  rcases hmem y hy with hy | rfl
  ·exact k1.full y hy i hi z hz hlt
  ·exfalso
   have:=Jer (JdD h.reg W.gt W.new) ((k4 i hi).subset hz);rw [Jcs] at this;omega
 ·rw [hlg]
  rw [hlead,W.lead] at e;have:l'=l:=qCE;subst this;rcases hmem y hy with hy | rfl
  ·exact k1.lead l' (by rw [W.tk.lead]; exact W.lead) y hy
  ·exact k3
theorem kept_new:Kept newW:=⟨⟨fun x hx=>absurd hx (by simp [newW]),fun x hx=>absurd hx (by simp [newW])⟩,fun _ _ x hx=>absurd hx (by simp [newW])⟩
theorem JoF (h:Inv Reg E σ.deeds σ) (k:Kept σ) (d:Deed):Kept (doW σ d).1/\∀ y A,y∈Reg->FixW y A σ->FixW y A (doW σ d).1:=by
 rcases JfO σ d with ⟨_,e⟩ | ⟨hK,hp⟩
 ·rw [e]
  exact ⟨k,fun _ _ _ f=>f⟩
 have hτ:=h.deeds (σ.deeds+1);have kτ:Kept { σ with deeds:=σ.deeds+1 }:=⟨⟨k.safe,k.full⟩,k.lead⟩
 rcases hp with ⟨hk,e⟩ | ⟨hk,e⟩ | ⟨hk,e⟩ | ⟨k1,k2,k5,hp⟩
 ·rw [e]
  rcases Jcu hτ hK d with ⟨c,c0,c16,e2⟩ | ⟨l,x,υ,hv,W,h2,e2⟩ | ⟨l,x,υ,hv,W,h2,e2⟩
  ·rw [e2]
   exact ⟨kτ,fun _ _ _ f=>f⟩
  ·rw [e2]
   obtain ⟨k1,k2,k3,k4,k5,k6⟩:=Jjn hτ kτ W;exact ⟨Kept0.no (σ:=Jay υ) ⟨k1.safe,k1.full⟩ rfl,fun y A hy f=>k5 y A hy f⟩
  ·rw [e2]
   obtain ⟨k1,k2,_⟩:=Jes hτ kτ W h2;exact ⟨k1,fun y A hy f=>k2 y A hy f⟩
 ·rw [e]
  have:=Joe hτ.toInv0 kτ d;exact ⟨this.1,fun y A _ f=>this.2 y A f⟩
 ·rw [e]
  have:=Jmr hτ hK kτ;exact ⟨this.1,fun y A _ f=>this.2 y A f⟩
 ·rcases hp with ⟨c,c34,e2⟩ | ⟨j,hj,e2⟩ | ⟨j,hj,e2⟩
  ·rw [e2]
   exact ⟨kτ,fun _ _ _ f=>f⟩
  ·rw [e2]
   have:=kept_up hτ kτ hj;exact ⟨this.1,fun y A _ f=>this.2 y A f⟩
  ·rw [e2]
   have:=Jms hτ kτ hj d.keep;exact ⟨this.1,fun y A _ f=>this.2 y A f⟩
end
abbrev Jcz:Deed:=⟨5,0,0,0,0,⟨#[]⟩,⟨#[]⟩,0,0,0,0,0,false⟩
abbrev Jdp (k:Int):Deed:=⟨1,k,0,1,0,⟨#[]⟩,⟨#[]⟩,0,0,0,0,0,false⟩
theorem Jh7:upsW { newW with deeds:=1 }=[⟨0,0,none,0,[],0⟩,⟨1,0,none,0,[],0⟩,⟨2,0,none,0,[],0⟩]:=rfl
theorem new_best:Jfd (upsW { newW with deeds:=1 })=2:=by
 rw [Jh7];refine Jg1 (k:=2) qG1 ?_;intro i x y hi hx hy;injection hx with hx
 subst hx
 match i,hi,hy with
 | 0,_,hy=>
  injection hy with hy
  subst hy;rfl
 | 1,_,hy=>
  injection hy with hy
  subst hy;rfl
 | 2,hi,_=>exact absurd rfl hi
 | n+3,_,hy=>cases hy
theorem Jji:(doW newW Jcz).2.code=0/\(doW newW Jcz).1.lead=2/\(doW newW Jcz).1.dn=[]/\(doW newW Jcz).1.deeds=1:=by
 have e:doW newW Jcz=Ja7 { newW with deeds:=1 }:=by
  unfold doW;rw [if_neg qG1];rfl
 rw [e];unfold Ja7;have hu:¬ (upsW { newW with deeds:=1 }).length<2:=by rw [Jh7]; decide
 rw [if_neg hu,new_best,Jh7];simp only;have hf:∃ τ ns,JbT (([⟨0,0,none,0,[],0⟩,⟨1,0,none,0,[],0⟩,⟨2,0,none,0,[],0⟩]:List Peer).getD 2 Jmk).log (topE [⟨0,0,none,0,[],0⟩,⟨1,0,none,0,[],0⟩,⟨2,0,none,0,[],0⟩]+1) [0,1,2] (Jay { newW with deeds:=1 },[])=(τ,ns,0)/\τ.dn=[]/\τ.deeds=1:=⟨_,_,rfl,rfl,rfl⟩
 obtain ⟨τ,ns,h1,h2,h3⟩:=hf;rw [h1];exact ⟨rfl,rfl,h2,h3⟩
structure FirstIn (σ:Wd):Prop where
 inv:Inv [] 1 1 σ
 lead:σ.lead=2
 fl:∀ i,i<3->σ.f i=true
 up:∀ i,i<3->(σ.s i).up=true/\(σ.s i).epoch=1/\(σ.s i).log=[]
 dn:σ.dn=[]
 deeds:σ.deeds=1
theorem new_first:FirstIn (doW newW Jcz).1:=by
 obtain ⟨c0,c1,c2,c3⟩:=Jji;have e:doW newW Jcz=Ja7 { newW with deeds:=1 }:=by
  unfold doW;rw [if_neg qG1];rfl
 have hI:Inv [] 0 0 { newW with deeds:=1 }:=new_inv.deeds 1
 obtain ⟨_,h2,_,_,_⟩:=hI.elect qG1;rw [e] at c0 c1 c2 c3 ⊢;obtain ⟨_,_,j,Z⟩:=h2 c0;have ht:topE (upsW { newW with deeds:=1 })=0:=by rw [Jh7]; rfl
 rw [ht] at Z;have hu:∀ i,i<3->(({ newW with deeds:=1 }:Wd).s i).up=true:=fun i hi=>by
  match i,hi with
  | 0,_=>rfl
  | 1,_=>rfl
  | 2,_=>rfl
 have hlj:(({ newW with deeds:=1 }:Wd).s j).log=[]:=by
  match j,Z.lt with
  | 0,_=>rfl
  | 1,_=>rfl
  | 2,_=>rfl
 refine ⟨Z.inv,c1,fun i hi=>(Z.all i hi (hu i hi)).2.2.2.2,fun i hi=>?_,c2,c3⟩
 have a:=Z.all i hi (hu i hi);exact ⟨a.1,a.2.1,by rw [a.2.2.1]; exact hlj⟩
theorem bitI_0 (i:Nat):bitI 0 i=false:=by
 unfold bitI;rw [Int.zero_ediv];rfl
theorem JiT {d:Deed} {x:Txn} {σ:Wd} (h3:σ.fol.length=3) (hf:∀ i,i<3->σ.f i=true) (h1:d.lost=0) (h2:d.slow=0):∃ τ,[0,1,2].foldl (Jcl d x) (σ,[])=(τ,[0,1,2]):=by
 have one:∀ (τ:Wd) (hv:List Nat) (i:Nat),τ.f i=true->Jcl d x (τ,hv) i=({ τ with fol:=τ.fol.set i true,srv:=τ.srv.set i (Jcm (τ.s i) x true) },hv ++ [i]):=by
  intro τ hv i h;unfold Jcl;rw [h1,h2,bitI_0];simp [h]
 have step:∀ (τ:Wd) (i j:Nat) (v:List Srv),τ.fol.length=3->τ.f j=true->({ τ with fol:=τ.fol.set i true,srv:=v }:Wd).f j=true:=by
  intro τ i j v h h';show (τ.fol.set i true).getD j false=true;rw [Jd0];split
  ·rfl
  ·exact h'
 rw [zJ3,one _ _ _ (hf 0 qG1),zJ3,one _ _ _ (step _ _ _ _ h3 (hf 1 qG1)),zJ3,one _ _ _ (step _ _ _ _ (by simp [h3]) (step _ _ _ _ h3 (hf 2 qG1))),List.foldl_nil]
 exact ⟨_,rfl⟩
theorem JnX:Jbi newTr 2147483649 ⟨1,1,⟨#[]⟩,⟨#[]⟩,0,0⟩=0:=by decide +kernel
theorem JmF {σ:Wd} (h:FirstIn σ):(doW σ (Jdp 0)).2.code=0/\(doW σ (Jdp 0)).2.zxid=2147483649/\(doW σ (Jdp 0)).1.dn.length=1:=by
 have e:doW σ (Jdp 0)=Jbg { σ with deeds:=σ.deeds+1 } (Jdp 0):=by
  unfold doW;rw [if_neg (by rw [h.deeds]; decide)]
  rfl
 have hI:Inv [] 1 1 { σ with deeds:=σ.deeds+1 }:=h.inv.deeds _
 have hp:∀ i,({ σ with deeds:=σ.deeds+1 }:Wd).s i=σ.s i:=fun _=>rfl
 have hn:Jbj (Jar (({ σ with deeds:=σ.deeds+1 }:Wd).s 2))=(2147483649,0):=by
  obtain ⟨u1,u2,u3⟩:=h.up 2 qG1;unfold Jbj Jar;simp only [hp,u2,u3];rfl
 obtain ⟨l,hl,l3,_,_,hd,_,li⟩:=hI.led (by rw [show ({ σ with deeds:=σ.deeds+1 }:Wd).lead=2 from h.lead]; decide)
 have hl2:l=2:=by
  have:(2:Int)=(l:Int):=h.lead.symm.trans hl;omega
 subst hl2;have ht:=hI.tree li hd;rw [hp,(h.up 2 qG1).2.2] at ht;have hs:(({ σ with deeds:=σ.deeds+1 }:Wd).c 0).session=1:=(h.inv.cl 0 qG1).se
 obtain ⟨τ,hτ⟩:=JiT (d:=Jdp 0) (x:=JaS newTr 2147483649 ⟨1,1,⟨#[]⟩,⟨#[]⟩,0,0⟩) (σ:={ σ with deeds:=σ.deeds+1 }) hI.f3 h.fl rfl rfl
 have hr:Jgh { σ with deeds:=σ.deeds+1 } (Jdp 0)=⟨1,1,⟨#[]⟩,⟨#[]⟩,0,0⟩:=by
  unfold Jgh;rw [show (Jdp 0).client.toNat=0 from rfl,hs]
 have hw:Jbg { σ with deeds:=σ.deeds+1 } (Jdp 0)=JaM τ 0 (JaS newTr 2147483649 ⟨1,1,⟨#[]⟩,⟨#[]⟩,0,0⟩) [0,1,2]:=by
  unfold Jbg;rw [if_neg (by show ¬ ((0:Int)<0\/16<=(0:Int)); decide),if_neg (by show ¬ σ.lead<0; rw [h.lead]; decide)]
  rw [show ({ σ with deeds:=σ.deeds+1 }:Wd).lead.toNat=2 from by rw [show ({ σ with deeds:=σ.deeds+1 }:Wd).lead=2 from h.lead]; rfl]
  simp only [hn,hr];rw [show trOf (({ σ with deeds:=σ.deeds+1 }:Wd).s 2)=newTr from ht,if_neg qG1,if_neg (fun e=>e JnX),hτ]
  rfl
 have hx:(JaS newTr 2147483649 ⟨1,1,⟨#[]⟩,⟨#[]⟩,0,0⟩).zxid=2147483649:=(Jcw JnX).2.2.1;rw [e];refine ⟨by rw [hw]; rfl,by rw [hw]; exact hx,?_⟩
 rcases Jcu hI qG1 (Jdp 0) with ⟨c,c0,_,e2⟩ | ⟨l,x,υ,hv,W,h2,e2⟩ | ⟨l,x,υ,hv,W,h2,e2⟩
 ·rw [hw] at e2
  exact absurd (congrArg (fun r=>r.2.code) e2).symm c0
 ·rw [hw] at e2
  exact absurd (show (0:Int)=16 from congrArg (fun r=>r.2.code) e2) qG1
 ·rw [e2]
  have:=(W.commit hI).2.1;rw [this];show (σ.dn ++ [x]).length=1;rw [h.dn];rfl
def cvN (p:ByteArray) (t:Tr):Int:=(getN t.nodes p).cversion
abbrev lB:ByteArray:=⟨#[47,108]⟩
abbrev lnB:ByteArray:=⟨#[47,108,47,110]⟩
theorem split_ln:(Jac lnB).1=lB:=by decide +kernel
theorem bump_cv (d:ByteArray) (z:Int) (u:Node):(JaX d 1 z u).cversion=u.cversion+if u.path=d then 1 else 0:=by
 unfold JaX;split
 ·rfl
 ·simp
theorem cv_new (p:ByteArray):cvN p newTr=0:=by
 unfold cvN;cases h:hasN newTr.nodes p with
 | false=>rw [Jil h]
 | true=>
  have:=(JgJ h).1;rw [zE3.1 this]
theorem JoP {t:Tr} {x:Txn} (h:Jaz t x=0) (ho:x.op=1\/x.op=3) (p:ByteArray) :
  cvN p t<=cvN p (JaO t x)/\cvN p (JaO t x)<=cvN p t+1/\(x.op=3->JaH x.path=p->cvN p (JaO t x)=cvN p t+1):=by
 obtain ⟨hw,_⟩:=JiC h;obtain ⟨hg,hx,hz,w1,w2,w3,w4,w5⟩:=JbE hw;obtain ⟨x1,x2,x3,x4,x5,x6,x7,x8,x9,x10,x11,x12⟩:=Jc2 hx;obtain ⟨e1,_⟩:=JfS h;rcases ho with ho | ho
 ·have hN:(JaO t x).nodes=t.nodes:=by rw [e1]; exact (doN_1 ho).1
  unfold cvN;rw [hN];exact ⟨zD6 _,by omega,fun e=>by omega⟩
 ·have hN:(JaO t x).nodes=Jgt t.nodes x:=by rw [e1]; exact (doN_3 ho).1
  obtain ⟨l1,l2,l3,l4,l5⟩:=Jgx (w3 ho);have g:=(JaP hg).1;have G:=(JaP (Jd9 h).1).1;have hm:=Jlo g.sorted x l1 (x8 qH1) (x9 qH1 qH1);cases hp:hasN t.nodes p with
  | true=>
   obtain ⟨u,hu,hup⟩:=(JgC g.sorted).1 hp;have h0:=(Jeu g.sorted hu).2;have hb:JaX (JaH x.path) 1 x.zxid u∈(JaO t x).nodes:=by
    rw [hN];exact (hm _).2 (.inr ⟨u,hu,rfl⟩)
   have h1:=(Jeu G.sorted hb).2;rw [Jam,hup] at h1;rw [hup] at h0;unfold cvN;rw [h0,h1,bump_cv];split
   ·exact ⟨by omega,by omega,fun _ _=>rfl⟩
   ·rename_i e
    exact ⟨by omega,by omega,fun _ e2=>absurd (hup.trans e2.symm) e⟩
  | false=>
   have h0:cvN p t=0:=by unfold cvN; rw [Jil hp]
   have h1:cvN p (JaO t x)=0:=by
    unfold cvN;cases hq:hasN (JaO t x).nodes p with
    | false=>rw [Jil hq]
    | true=>
     obtain ⟨u,hu,hup⟩:=(JgC G.sorted).1 hq;have h2:=(Jeu G.sorted hu).2;rw [hup] at h2;rw [h2];rw [hN] at hu;rcases (hm u).1 hu with rfl | ⟨v,hv,rfl⟩
     ·rfl
     ·rw [Jam] at hup
      have h3:=(Jeu g.sorted hv).1;rw [hup,hp] at h3;cases h3
   refine ⟨by omega,by omega,fun _ e=>?_⟩
   rw [e,hp] at l2;cases l2
theorem JlN:∀ (m:List Txn) (t:Tr) (p:ByteArray),JcU t m->(∀ x∈m,x.op=1\/x.op=3)->cvN p t<=cvN p (runT t m)/\cvN p (runT t m)<=cvN p t+(m.length:Nat)
 | [],t,p,_,_=>⟨zD6 _,by simp [runT]⟩
 | x :: m,t,p,h,ho=>by
  obtain ⟨a,b,_⟩:=JoP h.1 (ho x zF5) p;obtain ⟨c,d⟩:=JlN m (JaO t x) p h.2 (fun y hy=>ho y (zF2 _ hy))
  have e:runT t (x :: m)=runT (JaO t x) m:=rfl;rw [e,zD5];omega
theorem Jje:∀ (a:List Txn) (t:Tr) (b:List Txn),JcU t (a ++ b)->JcU t a/\JcU (runT t a) b
 | [],_,_,h=>⟨trivial,h⟩
 | x :: a,t,b,h=>by
  obtain ⟨c,d⟩:=Jje a (JaO t x) b h.2;exact ⟨⟨h.1,c⟩,d⟩
theorem cv_rises {A r:List Txn} {x:Txn} (h:JcU newTr (A ++ x :: r)) (ho:∀ y∈A ++ x :: r,y.op=1\/y.op=3) (h3:x.op=3) {p:ByteArray} (hp:JaH x.path=p) :
  0<=cvN p (runT newTr A)/\cvN p (runT newTr A)<cvN p (runT newTr (A ++ x :: r)):=by
 obtain ⟨h1,h2⟩:=Jje A newTr (x :: r) h;have a:=JlN A newTr p h1 (fun y hy=>ho y (zI7 _ hy))
 have b:=JoP h2.1 (.inr h3) p;have c:=JlN r _ p h2.2 (fun y hy=>ho y (zM6 _ (zF2 _ hy)))
 have e:runT newTr (A ++ x :: r)=runT (JaO (runT newTr A) x) r:=zI2;rw [e];rw [cv_new] at a;have:=b.2.2 h3 hp;omega
structure SqT (x:Txn) (A:List Txn):Prop where
 op:x.op=3
 path:bs x.path=bs lnB ++ digs 10 (cvN lB (runT newTr A)).toNat
 par:JaH x.path=lB
theorem SqT.size {x:Txn} {A:List Txn} (h:SqT x A):x.path.size=14:=by
 rw [JnB,h.path,zA9,JbL];rfl
theorem sq_made {A:List Txn} {z:Int} {r:Request} (ho:r.op=3) (hf:r.flags=2\/r.flags=3) (hp:r.path=lnB) (h:Jbi (runT newTr A) z r=0):SqT (JaS (runT newTr A) z r) A:=by
 obtain ⟨a1,a2,a3,a4,a5,a6⟩:=made_seq ho hf h;obtain ⟨b1,b2,b3,b4⟩:=seq_path a1 a2;rw [hp] at a3 b3 b4;rw [split_ln] at b3 b4;exact ⟨a4,by rw [a3]; exact b3,by rw [a3]; exact b4⟩
def LastQ (σ:Wd) (q:ByteArray):Prop:=q=noB\/∃ x A,q=x.path/\x∈σ.dn/\FixW x A σ/\SqT x A
structure SerI (Reg:List Txn) (E:Int) (σ:Wd) (q:ByteArray):Prop where
 inv:Inv Reg E σ.deeds σ
 kept:Kept σ
 ops:∀ x∈Reg,x.op=1\/x.op=3
 last:LastQ σ q
section
variable {Reg:List Txn} {E:Int} {σ τ:Wd} {q:ByteArray}
theorem SerI.to (g:SerI Reg E σ q) {Reg':List Txn} {E':Int} (hi:Inv Reg' E' τ.deeds τ) (hk:Kept τ) (ho:∀ x∈Reg',x.op=1\/x.op=3) (hd:∀ x∈σ.dn,x∈τ.dn) (hf:∀ y A,y∈Reg->FixW y A σ->FixW y A τ):SerI Reg' E' τ q:=by
 refine ⟨hi,hk,ho,?_⟩;rcases g.last with e | ⟨x,A,e,h1,h2,h3⟩
 ·exact .inl e
 ·exact .inr ⟨x,A,e,hd x h1,hf x A (g.inv.dn.subset h1) h2,h3⟩
structure SerS (Reg:List Txn) (E:Int) (q:ByteArray) (τ:Wd) (r:Rp):Prop where
 yes:r.code=0->r.path≠noB->SerI Reg E τ r.path/\r.path.size=14/\Op.bytesLess (bs q) (bs r.path)=true
 no:(r.code≠0\/r.path=noB)->SerI Reg E τ q
theorem SerS.quiet {r:Rp} (h:SerI Reg E τ q) (hr:r.code≠0\/r.path=noB):SerS Reg E q τ r:=
 ⟨fun h1 h2=>by rcases hr with e | e <;> contradiction,fun _=>h⟩
theorem JmH (σ:Wd):(Ja7 σ).2.path=noB:=by
 unfold Ja7;split
 ·rfl
 ·simp only
  split <;> rfl
theorem Jk5 (σ:Wd) (i:Nat):(upW σ i).2.path=noB/\(upW σ i).1.dn=σ.dn:=by
 unfold upW;split
 ·exact ⟨rfl,rfl⟩
 ·split <;> exact ⟨rfl,rfl⟩
theorem JmM (σ:Wd) (i:Nat) (k:Int):(JbI σ i k).2.path=noB:=by
 unfold JbI;split
 ·rfl
 ·split <;> rfl
theorem Jod (g:SerI Reg E σ q) {K:Nat} (h:Inv Reg E K σ) {l:Nat} (hl:σ.lead=(l:Int)) (li:LeadIn Reg E σ l) {x:Txn} (hx:SqT x (σ.s l).log):Op.bytesLess (bs q) (bs x.path)=true:=by
 have up:=h.toInv0.up li.lt (li.same l li.lt li.fl).1;have hop:∀ y∈(σ.s l).log,y.op=1\/y.op=3:=fun y hy=>g.ops y (up.lg.sub.subset hy)
 have hlen:(σ.s l).log.length<=300:=by
  have h1:=up.lg.sub.length_le;have h2:=h.len;have h3:=h.k300;omega
 have hrun:=JlN _ newTr lB up.lg.run hop;rw [cv_new] at hrun;rcases g.last with rfl | ⟨y,A,rfl,h1,h2,h3⟩
 ·rw [hx.path]
  rfl
 ·obtain ⟨p,r,e⟩:=List.append_of_mem (g.kept.lead l hl y h1)
  have hp:p=A:=h2 l li.lt p r (by rw [JiM up]; exact e)
  subst hp;rw [hx.path,h3.path,JfI];rw [e] at hrun hlen hop ⊢;have hr:=up.lg.run;rw [e] at hr;obtain ⟨c1,c2⟩:=cv_rises hr hop h3.op h3.par;rw [JjQ 10 _ _ qH1 qH1];exact zB0 qH1
theorem ser_step (g:SerI Reg E σ q) (d:Deed) (h2:d.kind≠2) (h1:d.kind=1->d.op=3/\(d.flags=2\/d.flags=3)/\d.path=lnB) :
  ∃ Reg' E',SerS Reg' E' q (doW σ d).1 (doW σ d).2:=by
 obtain ⟨K1,F1⟩:=JoF g.inv g.kept d;rcases JfO σ d with ⟨_,e⟩ | ⟨hK,hp⟩
 ·rw [e]
  exact ⟨Reg,E,SerS.quiet g (.inl (show (6:Int)≠0 by decide))⟩
 have hτ:=g.inv.deeds (σ.deeds+1);have hm:=hτ.mono (zC6 _) hK;rcases hp with ⟨hk,e⟩ | ⟨hk,e⟩ | ⟨hk,e⟩ | ⟨k1,k2,k5,hp⟩
 ·obtain ⟨o1,o2,o3⟩:=h1 hk
  rcases Jcu hτ hK d with ⟨c,c0,c16,e2⟩ | ⟨l,x,υ,hv,W,hh,e2⟩ | ⟨l,x,υ,hv,W,hh,e2⟩
  ·rw [e,e2] at K1 F1 ⊢
   exact ⟨Reg,E,SerS.quiet (g.to hm K1 g.ops (fun _ h=>h) F1) (.inl c0)⟩
  ·have hops:∀ y∈Reg ++ [x],y.op=1\/y.op=3:=by
    intro y hy;rcases zE7.1 hy with hy | hy
    ·exact g.ops y hy
    ·rw [zE3.1 hy,W.xe,(Jcw W.pe).2.2.2.1]
     exact .inr o1
   rw [e,e2] at K1 F1 ⊢;have hdd:(Jay υ).deeds=σ.deeds+1:=W.tk.deeds;exact ⟨Reg ++ [x],E,SerS.quiet (g.to (by rw [hdd]; exact W.tk.inv.resign) K1 hops (fun y hy=>by show y∈υ.dn; rw [W.tk.dn]; exact hy) F1) (.inl (show (16:Int)≠0 by decide))⟩
  ·have hops:∀ y∈Reg ++ [x],y.op=1\/y.op=3:=by
    intro y hy;rcases zE7.1 hy with hy | hy
    ·exact g.ops y hy
    ·rw [zE3.1 hy,W.xe,(Jcw W.pe).2.2.2.1]
     exact .inr o1
   have kτ:Kept { σ with deeds:=σ.deeds+1 }:=⟨⟨g.kept.safe,g.kept.full⟩,g.kept.lead⟩
   obtain ⟨_,_,F2⟩:=Jes hτ kτ W hh;obtain ⟨I,hdn,hdd,_⟩:=W.commit hτ;have hsq:SqT x (({ σ with deeds:=σ.deeds+1 }:Wd).s l).log:=by
    have hpe:=W.pe;have hxe:=W.xe;rw [W.tr] at hpe hxe;rw [hxe];exact sq_made o1 o2 o3 hpe
   have hls:=Jod g g.inv W.lead ⟨W.li.lt,W.li.fl,W.li.all,W.li.same⟩ hsq;rw [e,e2] at K1 F1 ⊢;have hpx:(JaM υ d.client.toNat x hv).2.path=x.path:=rfl;have hcx:(JaM υ d.client.toNat x hv).2.code=0:=rfl;refine ⟨Reg ++ [x],E,fun _ _=>⟨⟨by rw [hdd]; exact I,K1,hops,.inr ⟨x,_,hpx,by rw [hdn]; simp,F2,hsq⟩⟩,by rw [hpx]; exact hsq.size,by rw [hpx]; exact hls⟩,fun hc=>?_⟩
   exfalso;rcases hc with hc | hc
   ·exact hc hcx
   ·have:=hsq.size
    rw [<-hpx,hc] at this;exact absurd this qG1
 ·exact absurd hk h2
 ·obtain ⟨⟨E',_,b⟩,_,c,c2,_⟩:=hτ.elect hK
  rw [e] at K1 F1 ⊢;exact ⟨Reg,E',SerS.quiet (g.to (by rw [c2]; exact b) K1 g.ops (fun y hy=>by rw [c]; exact hy) F1) (.inr (JmH _))⟩
 ·rcases hp with ⟨c,c34,e2⟩ | ⟨j,hj,e2⟩ | ⟨j,hj,e2⟩
  ·rw [e2] at K1 F1 ⊢
   exact ⟨Reg,E,SerS.quiet (g.to hm K1 g.ops (fun _ h=>h) F1) (.inr rfl)⟩
  ·rw [e2] at K1 F1 ⊢
   exact ⟨Reg,E,SerS.quiet (g.to (by rw [JhS]; exact hm.wakes hj) K1 g.ops (fun y hy=>by rw [(Jk5 _ _).2]; exact hy) F1) (.inr (Jk5 _ _).1)⟩
  ·rw [e2] at K1 F1 ⊢
   exact ⟨Reg,E,SerS.quiet (g.to (by rw [Jew]; exact hm.crash hj _) K1 g.ops (fun y hy=>by rw [(JmO _ _ _).2.2.2]; exact hy) F1) (.inr (JmM _ _ _))⟩
end
end
end Go.Proofs.YtjnooagaghdkdaaGreatDoor
