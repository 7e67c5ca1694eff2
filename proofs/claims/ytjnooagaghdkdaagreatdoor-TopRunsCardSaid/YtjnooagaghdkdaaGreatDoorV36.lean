/-L-/
import Derived.Test.YtjnooagaghdkdaaGreatDoorV34
set_option maxHeartbeats 10000000
set_option maxRecDepth 100000
set_option linter.all false
namespace Go.Proofs.YtjnooagaghdkdaaGreatDoor
section
open Go.RowKit Go.ChangeShapes Go.WideShapes Go.ChangeAt
theorem boot0 (i:Int):Jcb i [] ⟨true,dskB none noB noB,i,0,[],0,0,[rootN],[],[]⟩ 0:=by
 refine ⟨[],dskB none noB noB,.inl ⟨?_,rfl,?_,?_⟩,.inl ⟨rfl,?_⟩⟩
 ·rfl
 ·have h:JaH []=true:=by kernel_rfl
  have h2:JaI (bs logN)=true:=by kernel_rfl
  unfold JbG;rw [if_pos h,if_pos h2];rfl
 ·have h:JaH []=true:=by kernel_rfl
  have h2:JaI (bs logN)=true:=by kernel_rfl
  unfold Jbt;rw [if_pos h,if_pos h2];rfl
 ·have:Jb6 []=0:=Jhg qG1
  rw [this]
theorem up0 (i:Nat):UpIn [] 0 i (srv0 i):=
 { up:=rfl,id:=rfl,lg:=⟨List.Sublist.refl _,trivial⟩,dk:=⟨none,[],[],rfl,rfl,.inl ⟨rfl,rfl⟩⟩,dn:=⟨0,rfl,zA3 _,rfl⟩,wt:=fun x hx=>absurd hx (by simp [srv0]),wl:=zA3 _ }
theorem ep0 (i:Nat):epOf (srv0 i)=0:=EpQ.is (q:=none) (.inl ⟨rfl,rfl⟩) qG1
theorem new_inv:Inv [] 0 0 newW:=by
 have hs:∀ i,i<3->newW.s i=srv0 i:=fun i hi=>by
  match i,hi with
  | 0,_=>rfl
  | 1,_=>rfl
  | 2,_=>rfl
 have hc:∀ i,i<16->newW.c i=⟨(i:Int)+1,0,[]⟩:=fun i hi=>by
  show ((List.range 16).map (fun i:Nat=>(⟨(i:Int)+1,0,[]⟩:Cli))).getD i noCl=_
  rw [zE4,zH3,List.getElem?_range hi];rfl
 refine ⟨{ n3:=rfl,f3:=rfl,c16:=rfl,reg:=⟨⟨by simp,List.Pairwise.nil⟩,by simp⟩,len:=zA3 _,k300:=by decide,srv:=fun i hi=>.inl (by rw [hs i hi]; exact up0 i),cl:=fun i hi=>?_,rep:=by simp,e0:=zE2 _,two:=⟨0,1,by decide,by decide,?_,?_⟩,epK:=fun i hi=>?_,dn:=List.Sublist.refl _ },.inl rfl⟩
 ·rw [hc i hi]
  exact ⟨rfl,zE2 _,zE2 _,fun i j x y _ hx _=>by simp at hx,zA3 _⟩
 ·rw [hs 0 qG1,ep0]
  exact zE2 _
 ·rw [hs 1 qG1,ep0]
  exact zE2 _
 ·rw [hs i hi,ep0]
  exact zE2 _
section
variable {Reg:List Txn} {E:Int} {K:Nat} {σ τ:Wd}
theorem Inv0.logs (h:Inv0 Reg E K σ) {i:Nat} (hi:i<3):(σ.s i).log.Sublist Reg:=by
 rcases h.srv i hi with u | u
 ·exact u.lg.sub
 ·rw [u.eq]
  exact List.nil_sublist _
theorem Inv0.owned (h:Inv0 Reg E K σ) {i:Nat} (hi:i<3):Jam (trOf (σ.s i))=true:=by
 rcases h.srv i hi with u | u
 ·exact u.com.2.2.1
 ·rw [u.eq]
  exact Jk0
theorem Inv.led (h:Inv Reg E K σ) (hl:¬ σ.lead<0):∃ l:Nat,σ.lead=(l:Int)/\l<3/\(σ.s l).up=true/\(σ.s l).id=(l:Int)/\(σ.s l).done_=((σ.s l).log.length:Nat)/\(σ.s l).epoch=E/\LeadIn Reg E σ l:=by
 rcases h.lead with e | ⟨l,e,li,d⟩
 ·rw [e] at hl
  exact absurd qG1 hl
 ·have:=li.same l li.lt li.fl
  exact ⟨l,e,li.lt,this.1,h.toInv0.id li.lt,d,this.2.1,li⟩
theorem Jlm (σ:Wd) (d:Deed):(300<=σ.deeds/\doW σ d=(σ,rp 6))\/(σ.deeds<300/\(
  (d.kind=1/\doW σ d=Jbx { σ with deeds:=σ.deeds+1 } d)\/
  (d.kind=2/\doW σ d=Je8 { σ with deeds:=σ.deeds+1 } d)\/
  (d.kind=5/\doW σ d=Jbu { σ with deeds:=σ.deeds+1 })\/
  (d.kind≠1/\d.kind≠2/\d.kind≠5/\((∃ c,(c=3\/c=4)/\doW σ d=({ σ with deeds:=σ.deeds+1 },rp c))\/
   (∃ i,i<3/\doW σ d=upW { σ with deeds:=σ.deeds+1 } i)\/(∃ i,i<3/\doW σ d=Jdx { σ with deeds:=σ.deeds+1 } i d.keep))))):=by
 unfold doW
 by_cases h0:300<=σ.deeds
 ·rw [if_pos h0]
  exact .inl ⟨h0,rfl⟩
 rw [if_neg h0];refine .inr ⟨by omega,?_⟩
 simp only
 by_cases h1:d.kind=1
 ·rw [if_pos h1]
  exact .inl ⟨h1,rfl⟩
 rw [if_neg h1]
 by_cases h2:d.kind=2
 ·rw [if_pos h2]
  exact .inr (.inl ⟨h2,rfl⟩)
 rw [if_neg h2]
 by_cases h3:d.kind=5
 ·rw [if_pos h3]
  exact .inr (.inr (.inl ⟨h3,rfl⟩))
 rw [if_neg h3];refine .inr (.inr (.inr ⟨h1,h2,h3,?_⟩))
 by_cases h4:d.kind=3\/d.kind=4
 ·rw [if_pos h4]
  by_cases h5:d.server<0\/3<=d.server
  ·rw [if_pos h5]
   exact .inl ⟨3,.inl rfl,rfl⟩
  rw [if_neg h5];have hi:d.server.toNat<3:=qCE
  by_cases h6:d.kind=4
  ·rw [if_pos h6]
   exact .inr (.inl ⟨_,hi,rfl⟩)
  ·rw [if_neg h6]
   exact .inr (.inr ⟨_,hi,rfl⟩)
 ·rw [if_neg h4]
  exact .inl ⟨4,.inr rfl,rfl⟩
end
section
variable {Reg:List Txn} {E:Int} {K:Nat} {σ τ:Wd}
theorem do_inv2 (h:Inv Reg E σ.deeds σ) (d:Deed):∃ Reg' E',Reg <+: Reg'/\E<=E'/\Inv Reg' E' (doW σ d).1.deeds (doW σ d).1/\(d.kind=5->(doW σ d).2.code=0->E<E')/\(doW σ d).1.deeds<=σ.deeds+1:=by
 have hD:(doW σ d).1.deeds<=σ.deeds+1:=by
  rcases Jlm σ d with ⟨_,e⟩ | ⟨hK,hp⟩
  ·rw [e]
   exact zD1 _
  have hτ:=h.deeds (σ.deeds+1);rcases hp with ⟨hk,e⟩ | ⟨hk,e⟩ | ⟨hk,e⟩ | ⟨k1,k2,k5,⟨c,c34,e⟩ | ⟨i,hi,e⟩ | ⟨i,hi,e⟩⟩ <;> rw [e]
  ·exact zG7 (JfG hτ hK d)
  ·exact zG7 (JgZ _ d)
  ·exact zG7 ((hτ.elect hK).2.2.2.1)
  ·exact zA3 _
  ·exact zG7 (JkJ _ _)
  ·exact zG7 (JgA _ _ _)
 by_cases h5:d.kind=5/\(doW σ d).2.code=0
 ·rcases Jlm σ d with ⟨_,e⟩ | ⟨hK,hp⟩
  ·have:=h5.2
   rw [e] at this;exact absurd (show (6:Int)=0 from this) qG1
  have hτ:=h.deeds (σ.deeds+1);rcases hp with ⟨hk,e⟩ | ⟨hk,e⟩ | ⟨hk,e⟩ | ⟨k1,k2,k5,hp⟩
  ·have:=h5.1
   omega
  ·have:=h5.1
   omega
  ·obtain ⟨_,h2,_,h4,_⟩:=hτ.elect hK
   have hc:=h5.2;rw [e] at hc;obtain ⟨_,hlt,j,Z⟩:=h2 hc;refine ⟨Reg,_,zI1 _,Int.le_of_lt hlt,?_,fun _ _=>hlt,hD⟩
   rw [e,h4];exact Z.inv
  ·exact absurd h5.1 k5
 ·obtain ⟨Reg',E',a,b,c⟩:=do_inv h d
  exact ⟨Reg',E',a,b,c,fun h1 h2=>absurd ⟨h1,h2⟩ h5,hD⟩
/-! what is told -/
end
section
variable {Reg:List Txn} {E:Int} {K:Nat} {σ τ:Wd}
theorem Jkx {i:Nat} {s:Srv} (h:UpIn Reg K i s) (hr:LogP Reg) (hn:Reg.length<=301) {q:Option (ByteArray × ByteArray)} {m1 m2:List Txn} (e:s.disk=dskB q (bS (recs m1)) (bS (recs m2))) (hl:s.log=m1 ++ m2) (hq:EpQ q s.epoch) :
  JbH s.disk 0=0/\JgF (i:Int) (JbQ s 0).disk=0/\(Jc4 (i:Int) (JbQ s 0).disk).log=m1:=by
 have hz:=h.size hr hn hl;have hc:=Jhk hq.size hq.safe (zB4 hz qG1) 0;rw [<-e] at hc;have hlm:=JbN hr h.lg.sub;have hd:(JbQ s 0).disk=dskB q (bS (recs m1)) noB:=by
  have hc1:JbH s.disk 0=0:=hc.1;have hc2:Jd5 s.disk 0=dskB q (bS (recs m1) ++ (bS (recs m2)).extract 0 (min 0 (bS (recs m2)).size)) noB:=hc.2;unfold JbQ;rw [if_pos hc1,hc2];show dskB q _ noB=_;congr 1;apply Jb8;rw [Nat.zero_min];have e1:bs ((bS (recs m2)).extract 0 0)=[]:=by rw [JaE]; simp
  have e2:bs (bS (recs m1) ++ (bS (recs m2)).extract 0 0)=bs (bS (recs m1)) ++ bs ((bS (recs m2)).extract 0 0):=JaV _ _;rw [e2,e1,zF5]
 have hx:JcM m1 []:=JdN m1;have hz0:(bS (recs m1)).size+noB.size<=1048576:=by
  show _+0<=_;omega
 have hrd:=Jb7 (q:=q) hq.size hz0;have hct:=JeR (q:=q) hq.size hz0 (n:=(recs m1).length) (by rw [Jce,JaK]; exact zA3 _)
 have hm:Jfg m1:=(JbN hlm (by rw [hl]; exact zQ5 _ _)).1
 have hrec:JdG (dskB q (bS (recs m1)) noB) m1 (cutL (dskB q (bS (recs m1)) noB) logN (recs m1).length) 0:=by
  refine .inr (.inr ⟨hrd.1,rfl,(recs m1).length,?_,rfl⟩);rw [hrd.2,Jce,Jcd];have:=JhA hm hx;rw [zF5] at this;exact this
 have hb:Jcb (i:Int) (JbQ s 0).disk ⟨true,cutL (dskB q (bS (recs m1)) noB) logN (recs m1).length,(i:Int),Jb6 (JbQ s 0).disk,m1,0,0,[rootN],[],[]⟩ 0:=⟨m1,_,hd▸hrec,.inl ⟨rfl,rfl⟩⟩;obtain ⟨b1,b2⟩:=Jib hb;rw [b1,b2];exact ⟨hc.1,rfl,rfl⟩
end
noncomputable def bl (i:Nat) (f:List File):List Txn:=(Jc4 (i:Int) f).log
theorem boot_log {q:Option (ByteArray × ByteArray)} {m:List Txn} {rest:List UInt8} (hq:JdX q<=1048576) (hx:JcM m rest) (hz:(recs m ++ rest).length<=1048576) (hm:Jfg m) (i:Nat) :
  bl i (dskB q (bS (recs m ++ rest)) noB)=m/\(Jc4 (i:Int) (dskB q (bS (recs m ++ rest)) noB)).disk=dskB q (bS (recs m)) noB/\(Jc4 (i:Int) (dskB q (bS (recs m ++ rest)) noB)).up=true:=by
 have hz0:(bS (recs m ++ rest)).size+noB.size<=1048576:=by
  rw [JaK];show _+0<=_;omega
 have hrd:=Jb7 (q:=q) hq hz0;have hct:=JeR (q:=q) hq hz0 (n:=(recs m).length) (by rw [Jce,JaK,zA9]; omega)
 have hrec:JdG (dskB q (bS (recs m ++ rest)) noB) m (dskB q (bS (recs m)) noB) 0:=by
  refine .inr (.inr ⟨hrd.1,rfl,(recs m).length,?_,?_⟩)
  ·rw [hrd.2,Jce,Jcd]
   exact JhA hm hx
  ·rw [hct.2]
   congr 1;apply Jb8;rw [JaE,zI6,Jce,Jcd,Jcd,zH1]
 have hb:Jcb (i:Int) (dskB q (bS (recs m ++ rest)) noB) ⟨true,dskB q (bS (recs m)) noB,(i:Int),Jb6 (dskB q (bS (recs m ++ rest)) noB),m,0,0,[rootN],[],[]⟩ 0:=⟨m,_,hrec,.inl ⟨rfl,rfl⟩⟩;obtain ⟨b1,b2⟩:=Jib hb;unfold bl;rw [b1];exact ⟨rfl,rfl,rfl⟩
noncomputable def dl (i:Nat) (s:Srv):List Txn:=if s.up=true then s.log else bl i s.disk
noncomputable def sl (i:Nat) (s:Srv):List Txn:=if s.up=true then bl i (JbQ s 0).disk else bl i s.disk
section
variable {Reg:List Txn} {E:Int} {K i:Nat} {σ τ:Wd} {s:Srv}
structure UpD (i:Nat) (s:Srv) (q:Option (ByteArray × ByteArray)) (m1 m2:List Txn):Prop where
 e:s.disk=dskB q (bS (recs m1)) (bS (recs m2))
 l:s.log=m1 ++ m2
 q:EpQ q s.epoch
 sl:sl i s=m1
 dl:dl i s=m1 ++ m2
theorem UpIn.logs (h:UpIn Reg K i s) (hr:LogP Reg) (hn:Reg.length<=301):∃ q m1 m2,UpD i s q m1 m2:=by
 obtain ⟨q,m1,m2,e,hl,hq⟩:=h.dk;refine ⟨q,m1,m2,e,hl,hq,?_,?_⟩
 ·unfold sl
  rw [if_pos h.up];exact (Jkx h hr hn e hl hq).2.2
 ·unfold dl
  rw [if_pos h.up,hl]
theorem DownIn.logs (h:DownIn Reg i s) (hr:LogP Reg) (hn:Reg.length<=301):sl i s=dl i s/\∃ q ep m rest,s.disk=dskB q (bS (recs m ++ rest)) noB/\EpQ q ep/\JcM m rest/\(recs m ++ rest).length<=1048576/\LogIn Reg m/\dl i s=m:=by
 have hu:¬ s.up=true:=by rw [h.eq]; exact fun e=>absurd (show false=true from e) qG1
 obtain ⟨q,ep,m,rest,e,hq,hx,hz,hl⟩:=h.dk;refine ⟨by unfold sl dl; rw [if_neg hu,if_neg hu],q,ep,m,rest,e,hq,hx,hz,hl,?_⟩
 unfold dl;rw [if_neg hu,e];exact (boot_log hq.size hx hz (JbN hr hl.sub).1 i).1
end
section
variable {Reg:List Txn} {E:Int} {K i:Nat} {σ τ:Wd} {s:Srv}
end
abbrev JeT:Deed:=⟨5,0,0,0,0,⟨#[]⟩,⟨#[]⟩,0,0,0,0,0,false⟩
abbrev Jfv (k:Int):Deed:=⟨1,k,0,1,0,⟨#[]⟩,⟨#[]⟩,0,0,0,0,0,false⟩
theorem JhI:upsW { newW with deeds:=1 }=[⟨0,0,none,0,[],0⟩,⟨1,0,none,0,[],0⟩,⟨2,0,none,0,[],0⟩]:=rfl
theorem new_best:Jfp (upsW { newW with deeds:=1 })=2:=by
 rw [JhI];refine JgG (k:=2) qG1 ?_;intro i x y hi hx hy;injection hx with hx
 subst hx
 match i,hi,hy with
 | 0,_,hy=>
  injection hy with hy
  subst hy;rfl
 | 1,_,hy=>
  injection hy with hy
  subst hy;rfl
 | 2,hi,_=>exact absurd rfl hi
 | n+3,_,hy=>cases hy
theorem JiV:(doW newW JeT).2.code=0/\(doW newW JeT).1.lead=2/\(doW newW JeT).1.dn=[]/\(doW newW JeT).1.deeds=1:=by
 have e:doW newW JeT=Jbu { newW with deeds:=1 }:=by
  unfold doW;rw [if_neg qG1];rfl
 rw [e];unfold Jbu;have hu:¬ (upsW { newW with deeds:=1 }).length<2:=by rw [JhI]; decide
 rw [if_neg hu,new_best,JhI];simp only;have hf:∃ τ ns,Jcc (([⟨0,0,none,0,[],0⟩,⟨1,0,none,0,[],0⟩,⟨2,0,none,0,[],0⟩]:List Peer).getD 2 JnB).log (topE [⟨0,0,none,0,[],0⟩,⟨1,0,none,0,[],0⟩,⟨2,0,none,0,[],0⟩]+1) [0,1,2] (JaJ { newW with deeds:=1 },[])=(τ,ns,0)/\τ.dn=[]/\τ.deeds=1:=⟨_,_,rfl,rfl,rfl⟩
 obtain ⟨τ,ns,h1,h2,h3⟩:=hf;rw [h1];exact ⟨rfl,rfl,h2,h3⟩
structure FirstIn (σ:Wd):Prop where
 inv:Inv [] 1 1 σ
 lead:σ.lead=2
 fl:∀ i,i<3->σ.f i=true
 up:∀ i,i<3->(σ.s i).up=true/\(σ.s i).epoch=1/\(σ.s i).log=[]
 dn:σ.dn=[]
 deeds:σ.deeds=1
theorem JnL:FirstIn (doW newW JeT).1:=by
 obtain ⟨c0,c1,c2,c3⟩:=JiV;have e:doW newW JeT=Jbu { newW with deeds:=1 }:=by
  unfold doW;rw [if_neg qG1];rfl
 have hI:Inv [] 0 0 { newW with deeds:=1 }:=new_inv.deeds 1
 obtain ⟨_,h2,_,_,_⟩:=hI.elect qG1;rw [e] at c0 c1 c2 c3 ⊢;obtain ⟨_,_,j,Z⟩:=h2 c0;have ht:topE (upsW { newW with deeds:=1 })=0:=by rw [JhI]; rfl
 rw [ht] at Z;have hu:∀ i,i<3->(({ newW with deeds:=1 }:Wd).s i).up=true:=fun i hi=>by
  match i,hi with
  | 0,_=>rfl
  | 1,_=>rfl
  | 2,_=>rfl
 have hlj:(({ newW with deeds:=1 }:Wd).s j).log=[]:=by
  match j,Z.lt with
  | 0,_=>rfl
  | 1,_=>rfl
  | 2,_=>rfl
 refine ⟨Z.inv,c1,fun i hi=>(Z.all i hi (hu i hi)).2.2.2.2,fun i hi=>?_,c2,c3⟩
 have a:=Z.all i hi (hu i hi);exact ⟨a.1,a.2.1,by rw [a.2.2.1]; exact hlj⟩
theorem bitI_0 (i:Nat):bitI 0 i=false:=by
 unfold bitI;rw [Int.zero_ediv];rfl
theorem Jm7 {d:Deed} {x:Txn} {σ:Wd} (h3:σ.fol.length=3) (hf:∀ i,i<3->σ.f i=true) (h1:d.lost=0) (h2:d.slow=0):∃ τ,[0,1,2].foldl (Jcg d x) (σ,[])=(τ,[0,1,2]):=by
 have one:∀ (τ:Wd) (hv:List Nat) (i:Nat),τ.f i=true->Jcg d x (τ,hv) i=({ τ with fol:=τ.fol.set i true,srv:=τ.srv.set i (Jdp (τ.s i) x true) },hv ++ [i]):=by
  intro τ hv i h;unfold Jcg;rw [h1,h2,bitI_0];simp [h]
 have step:∀ (τ:Wd) (i j:Nat) (v:List Srv),τ.fol.length=3->τ.f j=true->({ τ with fol:=τ.fol.set i true,srv:=v }:Wd).f j=true:=by
  intro τ i j v h h';show (τ.fol.set i true).getD j false=true;rw [JeN];split
  ·rfl
  ·exact h'
 rw [zI9,one _ _ _ (hf 0 qG1),zI9,one _ _ _ (step _ _ _ _ h3 (hf 1 qG1)),zI9,one _ _ _ (step _ _ _ _ (by simp [h3]) (step _ _ _ _ h3 (hf 2 qG1))),List.foldl_nil]
 exact ⟨_,rfl⟩
theorem JnF:JbJ Jbh 2147483649 ⟨1,1,⟨#[]⟩,⟨#[]⟩,0,0⟩=0:=by decide +kernel
theorem Jmn {σ:Wd} (h:FirstIn σ):(doW σ (Jfv 0)).2.code=0/\(doW σ (Jfv 0)).2.zxid=2147483649/\(doW σ (Jfv 0)).1.dn.length=1:=by
 have e:doW σ (Jfv 0)=Jbx { σ with deeds:=σ.deeds+1 } (Jfv 0):=by
  unfold doW;rw [if_neg (by rw [h.deeds]; decide)]
  rfl
 have hI:Inv [] 1 1 { σ with deeds:=σ.deeds+1 }:=h.inv.deeds _
 have hp:∀ i,({ σ with deeds:=σ.deeds+1 }:Wd).s i=σ.s i:=fun _=>rfl
 have hn:JbK (JaB (({ σ with deeds:=σ.deeds+1 }:Wd).s 2))=(2147483649,0):=by
  obtain ⟨u1,u2,u3⟩:=h.up 2 qG1;unfold JbK JaB;simp only [hp,u2,u3];rfl
 obtain ⟨l,hl,l3,_,_,hd,_,li⟩:=hI.led (by rw [show ({ σ with deeds:=σ.deeds+1 }:Wd).lead=2 from h.lead]; decide)
 have hl2:l=2:=by
  have:(2:Int)=(l:Int):=h.lead.symm.trans hl;omega
 subst hl2;have ht:=hI.tree li hd;rw [hp,(h.up 2 qG1).2.2] at ht;have hs:(({ σ with deeds:=σ.deeds+1 }:Wd).c 0).session=1:=(h.inv.cl 0 qG1).se
 obtain ⟨τ,hτ⟩:=Jm7 (d:=Jfv 0) (x:=JaW Jbh 2147483649 ⟨1,1,⟨#[]⟩,⟨#[]⟩,0,0⟩) (σ:={ σ with deeds:=σ.deeds+1 }) hI.f3 h.fl rfl rfl
 have hr:JhC { σ with deeds:=σ.deeds+1 } (Jfv 0)=⟨1,1,⟨#[]⟩,⟨#[]⟩,0,0⟩:=by
  unfold JhC;rw [show (Jfv 0).client.toNat=0 from rfl,hs]
 have hw:Jbx { σ with deeds:=σ.deeds+1 } (Jfv 0)=Jbj τ 0 (JaW Jbh 2147483649 ⟨1,1,⟨#[]⟩,⟨#[]⟩,0,0⟩) [0,1,2]:=by
  unfold Jbx;rw [if_neg (by show ¬ ((0:Int)<0\/16<=(0:Int)); decide),if_neg (by show ¬ σ.lead<0; rw [h.lead]; decide)]
  rw [show ({ σ with deeds:=σ.deeds+1 }:Wd).lead.toNat=2 from by rw [show ({ σ with deeds:=σ.deeds+1 }:Wd).lead=2 from h.lead]; rfl]
  simp only [hn,hr];rw [show trOf (({ σ with deeds:=σ.deeds+1 }:Wd).s 2)=Jbh from ht,if_neg qG1,if_neg (fun e=>e JnF),hτ]
  rfl
 have hx:(JaW Jbh 2147483649 ⟨1,1,⟨#[]⟩,⟨#[]⟩,0,0⟩).zxid=2147483649:=(Jez JnF).2.2.1;rw [e];refine ⟨by rw [hw]; rfl,by rw [hw]; exact hx,?_⟩
 rcases Jd7 hI qG1 (Jfv 0) with ⟨c,c0,_,e2⟩ | ⟨l,x,υ,hv,W,h2,e2⟩ | ⟨l,x,υ,hv,W,h2,e2⟩
 ·rw [hw] at e2
  exact absurd (congrArg (fun r=>r.2.code) e2).symm c0
 ·rw [hw] at e2
  exact absurd (show (0:Int)=16 from congrArg (fun r=>r.2.code) e2) qG1
 ·rw [e2]
  have:=(W.commit hI).2.1;rw [this];show (σ.dn ++ [x]).length=1;rw [h.dn];rfl
end
end Go.Proofs.YtjnooagaghdkdaaGreatDoor
