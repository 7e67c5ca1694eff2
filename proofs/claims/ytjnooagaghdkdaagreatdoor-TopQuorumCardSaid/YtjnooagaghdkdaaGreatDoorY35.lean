/-L-/
import Derived.BigRegion
import Derived.Test.YtjnooagaghdkdaaGreatDoorY34
set_option maxHeartbeats 10000000
set_option maxRecDepth 100000
set_option linter.all false
namespace Go.Proofs.YtjnooagaghdkdaaGreatDoor
section
open Go.RowKit Go.ChangeShapes Go.WideShapes Go.ChangeAt
theorem boot0 (i:Int):Jcc i [] ⟨true,dskB none noB noB,i,0,[],0,0,[rootN],[],[]⟩ 0:=by
 refine ⟨[],dskB none noB noB,.inl ⟨?_,rfl,?_,?_⟩,.inl ⟨rfl,?_⟩⟩
 ·rfl
 ·have h:JaH []=true:=by kernel_rfl
  have h2:JaI (bs logN)=true:=by kernel_rfl
  unfold JbH;rw [if_pos h,if_pos h2];rfl
 ·have h:JaH []=true:=by kernel_rfl
  have h2:JaI (bs logN)=true:=by kernel_rfl
  unfold Jbt;rw [if_pos h,if_pos h2];rfl
 ·have:Jb8 []=0:=Jhj qH1
  rw [this]
theorem up0 (i:Nat):UpIn [] 0 i (srv0 i):=
 { up:=rfl,id:=rfl,lg:=⟨List.Sublist.refl _,trivial⟩,dk:=⟨none,[],[],rfl,rfl,.inl ⟨rfl,rfl⟩⟩,dn:=⟨0,rfl,zA3 _,rfl⟩,wt:=fun x hx=>absurd hx (by simp [srv0]),wl:=zA3 _ }
theorem ep0 (i:Nat):epOf (srv0 i)=0:=EpQ.is (q:=none) (.inl ⟨rfl,rfl⟩) qH1
theorem new_inv:Inv [] 0 0 newW:=by
 have hs:∀ i,i<3->newW.s i=srv0 i:=fun i hi=>by
  match i,hi with
  | 0,_=>rfl
  | 1,_=>rfl
  | 2,_=>rfl
 have hc:∀ i,i<16->newW.c i=⟨(i:Int)+1,0,[]⟩:=fun i hi=>by
  show ((List.range 16).map (fun i:Nat=>(⟨(i:Int)+1,0,[]⟩:Cli))).getD i noCl=_
  rw [zE4,zH9,List.getElem?_range hi];rfl
 refine ⟨{ n3:=rfl,f3:=rfl,c16:=rfl,reg:=⟨⟨by simp,List.Pairwise.nil⟩,by simp⟩,len:=zA3 _,k300:=by decide,srv:=fun i hi=>.inl (by rw [hs i hi]; exact up0 i),cl:=fun i hi=>?_,rep:=by simp,e0:=zE1 _,two:=⟨0,1,by decide,by decide,?_,?_⟩,epK:=fun i hi=>?_,dn:=List.Sublist.refl _ },.inl rfl⟩
 ·rw [hc i hi]
  exact ⟨rfl,zE1 _,zE1 _,fun i j x y _ hx _=>by simp at hx,zA3 _⟩
 ·rw [hs 0 qH1,ep0]
  exact zE1 _
 ·rw [hs 1 qH1,ep0]
  exact zE1 _
 ·rw [hs i hi,ep0]
  exact zE1 _
section
variable {Reg:List Txn} {E:Int} {K:Nat} {σ τ:Wd}
theorem Inv0.logs (h:Inv0 Reg E K σ) {i:Nat} (hi:i<3):(σ.s i).log.Sublist Reg:=by
 rcases h.srv i hi with u | u
 ·exact u.lg.sub
 ·rw [u.eq]
  exact List.nil_sublist _
theorem Inv0.owned (h:Inv0 Reg E K σ) {i:Nat} (hi:i<3):Jam (trOf (σ.s i))=true:=by
 rcases h.srv i hi with u | u
 ·exact u.com.2.2.1
 ·rw [u.eq]
  exact Jk1
theorem Inv.led (h:Inv Reg E K σ) (hl:¬ σ.lead<0):∃ l:Nat,σ.lead=(l:Int)/\l<3/\(σ.s l).up=true/\(σ.s l).id=(l:Int)/\(σ.s l).done_=((σ.s l).log.length:Nat)/\(σ.s l).epoch=E/\LeadIn Reg E σ l:=by
 rcases h.lead with e | ⟨l,e,li,d⟩
 ·rw [e] at hl
  exact absurd qH1 hl
 ·have:=li.same l li.lt li.fl
  exact ⟨l,e,li.lt,this.1,h.toInv0.id li.lt,d,this.2.1,li⟩
theorem Jh6 (σ:Wd) (d:Deed):(300<=σ.deeds/\doW σ d=(σ,rp 6))\/(σ.deeds<300/\(
  (d.kind=1/\doW σ d=Jby { σ with deeds:=σ.deeds+1 } d)\/
  (d.kind=2/\doW σ d=Jfa { σ with deeds:=σ.deeds+1 } d)\/
  (d.kind=5/\doW σ d=Jbu { σ with deeds:=σ.deeds+1 })\/
  (d.kind≠1/\d.kind≠2/\d.kind≠5/\((∃ c,(c=3\/c=4)/\doW σ d=({ σ with deeds:=σ.deeds+1 },rp c))\/
   (∃ i,i<3/\doW σ d=upW { σ with deeds:=σ.deeds+1 } i)\/(∃ i,i<3/\doW σ d=JdA { σ with deeds:=σ.deeds+1 } i d.keep))))):=by
 unfold doW
 by_cases h0:300<=σ.deeds
 ·rw [if_pos h0]
  exact .inl ⟨h0,rfl⟩
 rw [if_neg h0];refine .inr ⟨by omega,?_⟩
 simp only
 by_cases h1:d.kind=1
 ·rw [if_pos h1]
  exact .inl ⟨h1,rfl⟩
 rw [if_neg h1]
 by_cases h2:d.kind=2
 ·rw [if_pos h2]
  exact .inr (.inl ⟨h2,rfl⟩)
 rw [if_neg h2]
 by_cases h3:d.kind=5
 ·rw [if_pos h3]
  exact .inr (.inr (.inl ⟨h3,rfl⟩))
 rw [if_neg h3];refine .inr (.inr (.inr ⟨h1,h2,h3,?_⟩))
 by_cases h4:d.kind=3\/d.kind=4
 ·rw [if_pos h4]
  by_cases h5:d.server<0\/3<=d.server
  ·rw [if_pos h5]
   exact .inl ⟨3,.inl rfl,rfl⟩
  rw [if_neg h5];have hi:d.server.toNat<3:=qCE
  by_cases h6:d.kind=4
  ·rw [if_pos h6]
   exact .inr (.inl ⟨_,hi,rfl⟩)
  ·rw [if_neg h6]
   exact .inr (.inr ⟨_,hi,rfl⟩)
 ·rw [if_neg h4]
  exact .inl ⟨4,.inr rfl,rfl⟩
end
section
variable {Reg:List Txn} {E:Int} {K:Nat} {σ τ:Wd}
theorem do_inv2 (h:Inv Reg E σ.deeds σ) (d:Deed):∃ Reg' E',Reg <+: Reg'/\E<=E'/\Inv Reg' E' (doW σ d).1.deeds (doW σ d).1/\(d.kind=5->(doW σ d).2.code=0->E<E')/\(doW σ d).1.deeds<=σ.deeds+1:=by
 have hD:(doW σ d).1.deeds<=σ.deeds+1:=by
  rcases Jh6 σ d with ⟨_,e⟩ | ⟨hK,hp⟩
  ·rw [e]
   exact zC9 _
  have hτ:=h.deeds (σ.deeds+1);rcases hp with ⟨hk,e⟩ | ⟨hk,e⟩ | ⟨hk,e⟩ | ⟨k1,k2,k5,⟨c,c34,e⟩ | ⟨i,hi,e⟩ | ⟨i,hi,e⟩⟩ <;> rw [e]
  ·exact zH0 (JfK hτ hK d)
  ·exact zH0 (Jg2 _ d)
  ·exact zH0 ((hτ.elect hK).2.2.2.1)
  ·exact zA3 _
  ·exact zH0 (JkK _ _)
  ·exact zH0 (JgE _ _ _)
 by_cases h5:d.kind=5/\(doW σ d).2.code=0
 ·rcases Jh6 σ d with ⟨_,e⟩ | ⟨hK,hp⟩
  ·have:=h5.2
   rw [e] at this;exact absurd (show (6:Int)=0 from this) qH1
  have hτ:=h.deeds (σ.deeds+1);rcases hp with ⟨hk,e⟩ | ⟨hk,e⟩ | ⟨hk,e⟩ | ⟨k1,k2,k5,hp⟩
  ·have:=h5.1
   omega
  ·have:=h5.1
   omega
  ·obtain ⟨_,h2,_,h4,_⟩:=hτ.elect hK
   have hc:=h5.2;rw [e] at hc;obtain ⟨_,hlt,j,Z⟩:=h2 hc;refine ⟨Reg,_,zJ0 _,Int.le_of_lt hlt,?_,fun _ _=>hlt,hD⟩
   rw [e,h4];exact Z.inv
  ·exact absurd h5.1 k5
 ·obtain ⟨Reg',E',a,b,c⟩:=do_inv h d
  exact ⟨Reg',E',a,b,c,fun h1 h2=>absurd ⟨h1,h2⟩ h5,hD⟩
/-! what is told -/
end
section
variable {Reg:List Txn} {E:Int} {K:Nat} {σ τ:Wd}
theorem Jdl {i:Nat} {s:Srv} (h:UpIn Reg K i s) (hr:LogP Reg) (hn:Reg.length<=301) {q:Option (ByteArray × ByteArray)} {m1 m2:List Txn} (e:s.disk=dskB q (bS (recs m1)) (bS (recs m2))) (hl:s.log=m1 ++ m2) (hq:EpQ q s.epoch) :
  Jbv s.disk 0=0/\Jfz (i:Int) (JaM s 0).disk=0/\(Jcf (i:Int) (JaM s 0).disk).log=m1:=by
 have hz:=h.size hr hn hl;have hc:=Jfg hq.size hq.safe (zB3 hz qH1) 0;rw [<-e] at hc;have hlm:=JbP hr h.lg.sub;have hd:(JaM s 0).disk=dskB q (bS (recs m1)) noB:=by
  have hc1:Jbv s.disk 0=0:=hc.1;have hc2:JdB s.disk 0=dskB q (bS (recs m1) ++ (bS (recs m2)).extract 0 (min 0 (bS (recs m2)).size)) noB:=hc.2;unfold JaM;rw [if_pos hc1,hc2];show dskB q _ noB=_;congr 1;apply JbV;rw [Nat.zero_min];have e1:bs ((bS (recs m2)).extract 0 0)=[]:=by rw [JaD]; simp
  have e2:bs (bS (recs m1) ++ (bS (recs m2)).extract 0 0)=bs (bS (recs m1)) ++ bs ((bS (recs m2)).extract 0 0):=JaP _ _;rw [e2,e1,zF3]
 have hx:JcP m1 []:=JdS m1;have hz0:(bS (recs m1)).size+noB.size<=1048576:=by
  show _+0<=_;omega
 have hrd:=Jb9 (q:=q) hq.size hz0;have hct:=JeU (q:=q) hq.size hz0 (n:=(recs m1).length) (by rw [Jcg,JaK]; exact zA3 _)
 have hm:Jfj m1:=(JbP hlm (by rw [hl]; exact zQ5 _ _)).1
 have hrec:JdL (dskB q (bS (recs m1)) noB) m1 (cutL (dskB q (bS (recs m1)) noB) logN (recs m1).length) 0:=by
  refine .inr (.inr ⟨hrd.1,rfl,(recs m1).length,?_,rfl⟩);rw [hrd.2,Jcg,Jce];have:=JhC hm hx;rw [zF3] at this;exact this
 have hb:Jcc (i:Int) (JaM s 0).disk ⟨true,cutL (dskB q (bS (recs m1)) noB) logN (recs m1).length,(i:Int),Jb8 (JaM s 0).disk,m1,0,0,[rootN],[],[]⟩ 0:=⟨m1,_,hd▸hrec,.inl ⟨rfl,rfl⟩⟩;obtain ⟨b1,b2⟩:=Jid hb;rw [b1,b2];exact ⟨hc.1,rfl,rfl⟩
def hasB (x:Txn) (l:List Txn):Bool:=l.any (fun y=>Jj1 y x)
theorem Jlh {x:Txn} {l:List Txn} (h:x∈l):hasB x l=true:=zO7.2 ⟨x,h,JlV x⟩
noncomputable def qB (σ:Wd) (x:Txn) (i:Nat):Bool:=(σ.s i).up && (hasB x (Jcf (i:Int) (JaM (σ.s i) 0).disk).log && hasB x ((σ.s i).log.take (σ.s i).done_.toNat))
theorem Inv0.codes (h:Inv0 Reg E K σ) {i:Nat} (hi:i<3) (hu:(σ.s i).up=true):Jbv (σ.s i).disk 0=0/\Jfz (i:Int) (JaM (σ.s i) 0).disk=0:=by
 have u:=h.up hi hu;obtain ⟨q,m1,m2,e,hl,hq⟩:=u.dk;have:=Jdl u h.reg h.small e hl hq;exact ⟨this.1,this.2.1⟩
noncomputable def Jea (σ:Wd) (x:Txn) (k:Nat):Nat:=((List.range k).filter (qB σ x)).length
theorem Jdm (σ:Wd) (x:Txn) (k:Nat):Jea σ x (k+1)=Jea σ x k+if qB σ x k=true then 1 else 0:=by
 unfold Jea;rw [List.range_succ,zM6,zA9];congr 1;cases h:qB σ x k <;> simp [List.filter,h]
theorem Jms {x:Txn} {hv:List Nat} (h2:2<=hv.length) (hn:hv.Nodup) (h:∀ i∈hv,i<3/\qB σ x i=true):2<=Jea σ x 3:=by
 match hv,h2,hn,h with
 | a :: b :: r,_,hn,h=>
  have hab:a≠b:=by
   have:=(zL8.1 hn).1;intro e;exact this (e▸zF7)
  obtain ⟨a3,qa⟩:=h a zF7;obtain ⟨b3,qb⟩:=h b (zF9 _ zF7);have e:=Jdm σ x 2;have e1:=Jdm σ x 1;have e0:=Jdm σ x 0;have h0:a=0\/b=0->qB σ x 0=true:=by rintro (rfl | rfl) <;> assumption
  have h1:a=1\/b=1->qB σ x 1=true:=by rintro (rfl | rfl) <;> assumption
  have h2:a=2\/b=2->qB σ x 2=true:=by rintro (rfl | rfl) <;> assumption
  rw [e,e1,e0]
  by_cases c0:a=0\/b=0
  ·rw [if_pos (h0 c0)]
   by_cases c1:a=1\/b=1
   ·rw [if_pos (h1 c1)]
    omega
   ·rw [if_pos (h2 qI1)]
    omega
  ·rw [if_pos (h1 qI1),if_pos (h2 qI1)]
   omega
theorem Jol (h:Inv Reg E σ.deeds σ) (d:Deed) (hk:d.kind=1) (hc:(doW σ d).2.code=0):∃ x,(doW σ d).1.dn=σ.dn ++ [x]/\2<=Jea (doW σ d).1 x 3:=by
 rcases Jh6 σ d with ⟨_,e⟩ | ⟨hK,hp⟩
 ·rw [e] at hc
  exact absurd (show (6:Int)=0 from hc) qH1
 have hτ:=h.deeds (σ.deeds+1);rcases hp with ⟨_,e⟩ | ⟨hk2,e⟩ | ⟨hk2,e⟩ | ⟨k1,k2,k5,hp⟩
 ·rw [e] at hc ⊢
  rcases Jc6 hτ hK d with ⟨c,c0,_,e2⟩ | ⟨l,x,υ,hv,W,h2,e2⟩ | ⟨l,x,υ,hv,W,h2,e2⟩
  ·rw [e2] at hc
   exact absurd hc c0
  ·rw [e2] at hc
   exact absurd (show (16:Int)=0 from hc) qH1
  ·rw [e2]
   obtain ⟨I,hdn,_,_,_,hs⟩:=W.commit hτ;refine ⟨x,hdn,Jms h2 W.tk.nd (fun i hi=>?_)⟩
   have T:=W.tk;obtain ⟨a,b⟩:=T.hvs i hi;have h3:i<3:=by simp at a; omega
   refine ⟨h3,?_⟩;obtain ⟨y1,sf,y2,y3⟩:=T.yes i a b;have hsf:sf=true:=y3.2 hi;subst hsf;obtain ⟨u1,u2,u3⟩:=W.li.same i h3 y1;have hn:Reg.length<=300:=by have h1:=hτ.len; have h2:=hτ.k300; omega
   have U:=hτ.toInv0.up h3 u1;obtain ⟨_,t2,t3,_⟩:=U.take hτ.reg hn W.gt W.new (by rw [u3]; exact W.run) true
   obtain ⟨q,m1,m2,ed,hl,hq⟩:=U.dk;have hr2:=JeI hτ.reg W.gt W.new;have hzz:=JfD hr2 t3.lg.sub qB1;rw [t2] at hzz;simp only [hl] at hzz;obtain ⟨a1,a2,a3,a4⟩:=app_no (q:=q) hq.size W.gt (zB3 hzz qH1);rw [<-ed] at a4;obtain ⟨_,_,_,_,c1,_⟩:=t3.com;have hS:(Jbc υ d.client.toNat x hv).1.s i=comD (Jb4 (({ σ with deeds:=σ.deeds+1 }:Wd).s i) x true):=by rw [hs,if_pos hi,y2]
   have hdk:(comD (Jb4 (({ σ with deeds:=σ.deeds+1 }:Wd).s i) x true)).disk=dskB q (bS (recs (m1 ++ m2 ++ [x]))) (bS (recs [])):=by
    show (Jb4 (({ σ with deeds:=σ.deeds+1 }:Wd).s i) x true).disk=_
    rw [t2];exact a4
   have hlg:(comD (Jb4 (({ σ with deeds:=σ.deeds+1 }:Wd).s i) x true)).log=m1 ++ m2 ++ [x]:=by
    show (Jb4 (({ σ with deeds:=σ.deeds+1 }:Wd).s i) x true).log=_
    rw [t2];show (({ σ with deeds:=σ.deeds+1 }:Wd).s i).log ++ [x]=_
    rw [hl]
   have hep:(comD (Jb4 (({ σ with deeds:=σ.deeds+1 }:Wd).s i) x true)).epoch=(({ σ with deeds:=σ.deeds+1 }:Wd).s i).epoch:=by
    show (Jb4 (({ σ with deeds:=σ.deeds+1 }:Wd).s i) x true).epoch=_
    rw [t2]
   have B:=Jdl c1 hr2 qB1 hdk (by rw [hlg,zF3]) (hep▸hq)
   have hxin:x∈m1 ++ m2 ++ [x]:=zO1 _ zF7;unfold qB;rw [hS];have h4:(comD (Jb4 (({ σ with deeds:=σ.deeds+1 }:Wd).s i) x true)).done_.toNat=(comD (Jb4 (({ σ with deeds:=σ.deeds+1 }:Wd).s i) x true)).log.length:=rfl
   rw [c1.up,B.2.2,Jlh hxin,h4,zF6,hlg,Jlh hxin];rfl
 ·omega
 ·omega
 ·exact absurd hk k1
end
noncomputable def bl (i:Nat) (f:List File):List Txn:=(Jcf (i:Int) f).log
theorem boot_log {q:Option (ByteArray × ByteArray)} {m:List Txn} {rest:List UInt8} (hq:Jd2 q<=1048576) (hx:JcP m rest) (hz:(recs m ++ rest).length<=1048576) (hm:Jfj m) (i:Nat) :
  bl i (dskB q (bS (recs m ++ rest)) noB)=m/\(Jcf (i:Int) (dskB q (bS (recs m ++ rest)) noB)).disk=dskB q (bS (recs m)) noB/\(Jcf (i:Int) (dskB q (bS (recs m ++ rest)) noB)).up=true:=by
 have hz0:(bS (recs m ++ rest)).size+noB.size<=1048576:=by
  rw [JaK];show _+0<=_;omega
 have hrd:=Jb9 (q:=q) hq hz0;have hct:=JeU (q:=q) hq hz0 (n:=(recs m).length) (by rw [Jcg,JaK,zA9]; omega)
 have hrec:JdL (dskB q (bS (recs m ++ rest)) noB) m (dskB q (bS (recs m)) noB) 0:=by
  refine .inr (.inr ⟨hrd.1,rfl,(recs m).length,?_,?_⟩)
  ·rw [hrd.2,Jcg,Jce]
   exact JhC hm hx
  ·rw [hct.2]
   congr 1;apply JbV;rw [JaD,zI5,Jcg,Jce,Jce,zH2]
 have hb:Jcc (i:Int) (dskB q (bS (recs m ++ rest)) noB) ⟨true,dskB q (bS (recs m)) noB,(i:Int),Jb8 (dskB q (bS (recs m ++ rest)) noB),m,0,0,[rootN],[],[]⟩ 0:=⟨m,_,hrec,.inl ⟨rfl,rfl⟩⟩;obtain ⟨b1,b2⟩:=Jid hb;unfold bl;rw [b1];exact ⟨rfl,rfl,rfl⟩
noncomputable def dl (i:Nat) (s:Srv):List Txn:=if s.up=true then s.log else bl i s.disk
noncomputable def sl (i:Nat) (s:Srv):List Txn:=if s.up=true then bl i (JaM s 0).disk else bl i s.disk
section
variable {Reg:List Txn} {E:Int} {K i:Nat} {σ τ:Wd} {s:Srv}
structure UpD (i:Nat) (s:Srv) (q:Option (ByteArray × ByteArray)) (m1 m2:List Txn):Prop where
 e:s.disk=dskB q (bS (recs m1)) (bS (recs m2))
 l:s.log=m1 ++ m2
 q:EpQ q s.epoch
 sl:sl i s=m1
 dl:dl i s=m1 ++ m2
theorem UpIn.logs (h:UpIn Reg K i s) (hr:LogP Reg) (hn:Reg.length<=301):∃ q m1 m2,UpD i s q m1 m2:=by
 obtain ⟨q,m1,m2,e,hl,hq⟩:=h.dk;refine ⟨q,m1,m2,e,hl,hq,?_,?_⟩
 ·unfold sl
  rw [if_pos h.up];exact (Jdl h hr hn e hl hq).2.2
 ·unfold dl
  rw [if_pos h.up,hl]
theorem DownIn.logs (h:DownIn Reg i s) (hr:LogP Reg) (hn:Reg.length<=301):sl i s=dl i s/\∃ q ep m rest,s.disk=dskB q (bS (recs m ++ rest)) noB/\EpQ q ep/\JcP m rest/\(recs m ++ rest).length<=1048576/\LogIn Reg m/\dl i s=m:=by
 have hu:¬ s.up=true:=by rw [h.eq]; exact fun e=>absurd (show false=true from e) qH1
 obtain ⟨q,ep,m,rest,e,hq,hx,hz,hl⟩:=h.dk;refine ⟨by unfold sl dl; rw [if_neg hu,if_neg hu],q,ep,m,rest,e,hq,hx,hz,hl,?_⟩
 unfold dl;rw [if_neg hu,e];exact (boot_log hq.size hx hz (JbP hr hl.sub).1 i).1
end
section
variable {Reg:List Txn} {E:Int} {K i:Nat} {σ τ:Wd} {s:Srv}
end
abbrev JeW:Deed:=⟨5,0,0,0,0,⟨#[]⟩,⟨#[]⟩,0,0,0,0,0,false⟩
abbrev Jfy (k:Int):Deed:=⟨1,k,0,1,0,⟨#[]⟩,⟨#[]⟩,0,0,0,0,0,false⟩
theorem JhJ:upsW { newW with deeds:=1 }=[⟨0,0,none,0,[],0⟩,⟨1,0,none,0,[],0⟩,⟨2,0,none,0,[],0⟩]:=rfl
theorem new_best:Jfs (upsW { newW with deeds:=1 })=2:=by
 rw [JhJ];refine JgJ (k:=2) qH1 ?_;intro i x y hi hx hy;injection hx with hx
 subst hx
 match i,hi,hy with
 | 0,_,hy=>
  injection hy with hy
  subst hy;rfl
 | 1,_,hy=>
  injection hy with hy
  subst hy;rfl
 | 2,hi,_=>exact absurd rfl hi
 | n+3,_,hy=>cases hy
theorem JiV:(doW newW JeW).2.code=0/\(doW newW JeW).1.lead=2/\(doW newW JeW).1.dn=[]/\(doW newW JeW).1.deeds=1:=by
 have e:doW newW JeW=Jbu { newW with deeds:=1 }:=by
  unfold doW;rw [if_neg qH1];rfl
 rw [e];unfold Jbu;have hu:¬ (upsW { newW with deeds:=1 }).length<2:=by rw [JhJ]; decide
 rw [if_neg hu,new_best,JhJ];simp only;have hf:∃ τ ns,Jcd (([⟨0,0,none,0,[],0⟩,⟨1,0,none,0,[],0⟩,⟨2,0,none,0,[],0⟩]:List Peer).getD 2 Jnx).log (topE [⟨0,0,none,0,[],0⟩,⟨1,0,none,0,[],0⟩,⟨2,0,none,0,[],0⟩]+1) [0,1,2] (JaJ { newW with deeds:=1 },[])=(τ,ns,0)/\τ.dn=[]/\τ.deeds=1:=⟨_,_,rfl,rfl,rfl⟩
 obtain ⟨τ,ns,h1,h2,h3⟩:=hf;rw [h1];exact ⟨rfl,rfl,h2,h3⟩
structure FirstIn (σ:Wd):Prop where
 inv:Inv [] 1 1 σ
 lead:σ.lead=2
 fl:∀ i,i<3->σ.f i=true
 up:∀ i,i<3->(σ.s i).up=true/\(σ.s i).epoch=1/\(σ.s i).log=[]
 dn:σ.dn=[]
 deeds:σ.deeds=1
theorem JnJ:FirstIn (doW newW JeW).1:=by
 obtain ⟨c0,c1,c2,c3⟩:=JiV;have e:doW newW JeW=Jbu { newW with deeds:=1 }:=by
  unfold doW;rw [if_neg qH1];rfl
 have hI:Inv [] 0 0 { newW with deeds:=1 }:=new_inv.deeds 1
 obtain ⟨_,h2,_,_,_⟩:=hI.elect qH1;rw [e] at c0 c1 c2 c3 ⊢;obtain ⟨_,_,j,Z⟩:=h2 c0;have ht:topE (upsW { newW with deeds:=1 })=0:=by rw [JhJ]; rfl
 rw [ht] at Z;have hu:∀ i,i<3->(({ newW with deeds:=1 }:Wd).s i).up=true:=fun i hi=>by
  match i,hi with
  | 0,_=>rfl
  | 1,_=>rfl
  | 2,_=>rfl
 have hlj:(({ newW with deeds:=1 }:Wd).s j).log=[]:=by
  match j,Z.lt with
  | 0,_=>rfl
  | 1,_=>rfl
  | 2,_=>rfl
 refine ⟨Z.inv,c1,fun i hi=>(Z.all i hi (hu i hi)).2.2.2.2,fun i hi=>?_,c2,c3⟩
 have a:=Z.all i hi (hu i hi);exact ⟨a.1,a.2.1,by rw [a.2.2.1]; exact hlj⟩
theorem bitI_0 (i:Nat):bitI 0 i=false:=by
 unfold bitI;rw [Int.zero_ediv];rfl
theorem Jm5 {d:Deed} {x:Txn} {σ:Wd} (h3:σ.fol.length=3) (hf:∀ i,i<3->σ.f i=true) (h1:d.lost=0) (h2:d.slow=0):∃ τ,[0,1,2].foldl (Jci d x) (σ,[])=(τ,[0,1,2]):=by
 have one:∀ (τ:Wd) (hv:List Nat) (i:Nat),τ.f i=true->Jci d x (τ,hv) i=({ τ with fol:=τ.fol.set i true,srv:=τ.srv.set i (Jb4 (τ.s i) x true) },hv ++ [i]):=by
  intro τ hv i h;unfold Jci;rw [h1,h2,bitI_0];simp [h]
 have step:∀ (τ:Wd) (i j:Nat) (v:List Srv),τ.fol.length=3->τ.f j=true->({ τ with fol:=τ.fol.set i true,srv:=v }:Wd).f j=true:=by
  intro τ i j v h h';show (τ.fol.set i true).getD j false=true;rw [JeQ];split
  ·rfl
  ·exact h'
 rw [zJ1,one _ _ _ (hf 0 qH1),zJ1,one _ _ _ (step _ _ _ _ h3 (hf 1 qH1)),zJ1,one _ _ _ (step _ _ _ _ (by simp [h3]) (step _ _ _ _ h3 (hf 2 qH1))),List.foldl_nil]
 exact ⟨_,rfl⟩
theorem JnB:JbK Jbj 2147483649 ⟨1,1,⟨#[]⟩,⟨#[]⟩,0,0⟩=0:=by decide +kernel
theorem Jmk {σ:Wd} (h:FirstIn σ):(doW σ (Jfy 0)).2.code=0/\(doW σ (Jfy 0)).2.zxid=2147483649/\(doW σ (Jfy 0)).1.dn.length=1:=by
 have e:doW σ (Jfy 0)=Jby { σ with deeds:=σ.deeds+1 } (Jfy 0):=by
  unfold doW;rw [if_neg (by rw [h.deeds]; decide)]
  rfl
 have hI:Inv [] 1 1 { σ with deeds:=σ.deeds+1 }:=h.inv.deeds _
 have hp:∀ i,({ σ with deeds:=σ.deeds+1 }:Wd).s i=σ.s i:=fun _=>rfl
 have hn:JbL (JaB (({ σ with deeds:=σ.deeds+1 }:Wd).s 2))=(2147483649,0):=by
  obtain ⟨u1,u2,u3⟩:=h.up 2 qH1;unfold JbL JaB;simp only [hp,u2,u3];rfl
 obtain ⟨l,hl,l3,_,_,hd,_,li⟩:=hI.led (by rw [show ({ σ with deeds:=σ.deeds+1 }:Wd).lead=2 from h.lead]; decide)
 have hl2:l=2:=by
  have:(2:Int)=(l:Int):=h.lead.symm.trans hl;omega
 subst hl2;have ht:=hI.tree li hd;rw [hp,(h.up 2 qH1).2.2] at ht;have hs:(({ σ with deeds:=σ.deeds+1 }:Wd).c 0).session=1:=(h.inv.cl 0 qH1).se
 obtain ⟨τ,hτ⟩:=Jm5 (d:=Jfy 0) (x:=JaX Jbj 2147483649 ⟨1,1,⟨#[]⟩,⟨#[]⟩,0,0⟩) (σ:={ σ with deeds:=σ.deeds+1 }) hI.f3 h.fl rfl rfl
 have hr:JhE { σ with deeds:=σ.deeds+1 } (Jfy 0)=⟨1,1,⟨#[]⟩,⟨#[]⟩,0,0⟩:=by
  unfold JhE;rw [show (Jfy 0).client.toNat=0 from rfl,hs]
 have hw:Jby { σ with deeds:=σ.deeds+1 } (Jfy 0)=Jbc τ 0 (JaX Jbj 2147483649 ⟨1,1,⟨#[]⟩,⟨#[]⟩,0,0⟩) [0,1,2]:=by
  unfold Jby;rw [if_neg (by show ¬ ((0:Int)<0\/16<=(0:Int)); decide),if_neg (by show ¬ σ.lead<0; rw [h.lead]; decide)]
  rw [show ({ σ with deeds:=σ.deeds+1 }:Wd).lead.toNat=2 from by rw [show ({ σ with deeds:=σ.deeds+1 }:Wd).lead=2 from h.lead]; rfl]
  simp only [hn,hr];rw [show trOf (({ σ with deeds:=σ.deeds+1 }:Wd).s 2)=Jbj from ht,if_neg qH1,if_neg (fun e=>e JnB),hτ]
  rfl
 have hx:(JaX Jbj 2147483649 ⟨1,1,⟨#[]⟩,⟨#[]⟩,0,0⟩).zxid=2147483649:=(JeB JnB).2.2.1;rw [e];refine ⟨by rw [hw]; rfl,by rw [hw]; exact hx,?_⟩
 rcases Jc6 hI qH1 (Jfy 0) with ⟨c,c0,_,e2⟩ | ⟨l,x,υ,hv,W,h2,e2⟩ | ⟨l,x,υ,hv,W,h2,e2⟩
 ·rw [hw] at e2
  exact absurd (congrArg (fun r=>r.2.code) e2).symm c0
 ·rw [hw] at e2
  exact absurd (show (0:Int)=16 from congrArg (fun r=>r.2.code) e2) qH1
 ·rw [e2]
  have:=(W.commit hI).2.1;rw [this];show (σ.dn ++ [x]).length=1;rw [h.dn];rfl
theorem Jn0 {x y:Txn} {L:List Txn} {m:Nat} (h:L[m]?=some y):hasB x (L.take (m+1))=(hasB x (L.take m) || Jj1 y x):=by
 unfold hasB;rw [zF4,h,List.any_append];simp
theorem JnZ {x:Txn} {L:List Txn} {m:Nat} (h:hasB x (L.take m)=true):hasB x L=true:=by
 unfold hasB at h ⊢;obtain ⟨y,hy,e⟩:=zO7.1 h;exact zO7.2 ⟨y,zH1 hy,e⟩
theorem Jim (x:Txn) (A:Option Addr) (c:Nat) (B:Option Addr) (k:Nat) (L:List Txn) (w:World) (h:Sl cTxn 7 w (.slice A 1 c) [x]) (h2:Sl cTxn 7 w (.slice B L.length k) L) (hn:L.length<=301) :
  Calls Tryz.prog 36 #[.slice A 1 c,.slice B L.length k] w fun e w'=>e=.returned (.bool (hasB x L))/\Below w.heap.size w w':=by
 have H1:=zA0 h;have H2:=zA0 h2;clear h h2;go_enter Tryz.func36,Tryz.ntmps36
 go_wp2_with fail;go_loopw [5,6] (fun s5 i wr=>∃ (m:Nat) (q:Bool),m<=L.length/\i=.int .i64 m/\s5=.int .i64 (if q=true then 1 else 0)/\Hid (q=hasB x (L.take m))/\Below w.heap.size w wr) (fun _ i _=>L.length+1 - (intOf i).toNat)
 case atStart=>exact ⟨0,false,zB9 _,rfl,rfl,zA0 rfl,zB6 _ _⟩
 case round=>
  obtain ⟨m,q,hm,rfl,rfl,hq,hbr⟩:=hrel;have hb1:decide ((m:Int)<(L.length:Int))=decide (m<L.length):=by simp
  cases q with
  | true=>
   have hfin:=JnZ hq.out.symm;have HF:=zA0 hfin;clear hfin hq;rw [if_pos rfl]
   by_cases hlt:m<L.length
   ·have hl2:decide (m<L.length)=true:=zB0 hlt
    clear hb1;go_wp2_with fail
    all_goals exact zA1 (v:=.bool true) (by simp [results,Tryz.results36,go_sem]) rfl ⟨by rw [HF.out],hbr⟩
   ·have hl2:decide (m<L.length)=false:=zA8 hlt
    clear hb1;go_wp2_with fail
    all_goals exact zA1 (v:=.bool true) (by simp [results,Tryz.results36,go_sem]) rfl ⟨by rw [HF.out],hbr⟩
  | false=>
   rw [if_neg qH1]
   by_cases hlt:m<L.length
   ·have hix:L[m]?=some (L[m]'hlt):=zA7 _
    obtain ⟨bd,off,hA,hbd,u0,u1,u2,u3,u4,u5,u6⟩:=(H2.out.below hbr).Txn_at hix;subst hA;obtain ⟨bx,ox,hA,hbx,v0,v1,v2,v3,v4,v5,v6⟩:=(H1.out.below hbr).Txn_at (i:=0) rfl;subst hA;simp only [Nat.zero_mul,zH6] at v0 v1 v2 v3 v4 v5 v6;have hsu:=Jn0 (x:=x) hix;rw [<-hq.out,zM9] at hsu;have HSU:=zA0 hsu;generalize L[m]'hlt=y at *;have qE:=fun w=>eql_txn y x w
    generalize Jj1 y x=s at *;have hm0:(0:Int)<=(m:Int):=qCE;have hml:(m:Int)<(L.length:Int):=qCE;have HB:=zA0 hbr;clear hix hsu hq hb1;go_wp2_with fail;go_quiet (fail);cases s with
    | true=>
     go_wp2_with fail;go_roundw
     case rel=>exact ⟨m+1,true,by omega,by go_num,rfl,zA0 HSU.out.symm,HB.out.trans zR⟩
     case measure=>simp [intOf]; omega
    | false=>
     go_wp2_with fail;go_roundw
     case rel=>exact ⟨m+1,false,by omega,by go_num,rfl,zA0 HSU.out.symm,HB.out.trans zR⟩
     case measure=>simp [intOf]; omega
   ·have hl2:decide (m<L.length)=false:=zA8 hlt
    have hme:m=L.length:=qCE;have HF:=zA0 (show hasB x L=false by have:=hq.out; rw [hme,zF6] at this; exact this.symm)
    clear hb1 hq hme;go_wp2_with fail
    all_goals exact zA1 (v:=.bool false) (by simp [results,Tryz.results36,go_sem]) rfl ⟨by rw [HF.out],hbr⟩
end
end Go.Proofs.YtjnooagaghdkdaaGreatDoor
