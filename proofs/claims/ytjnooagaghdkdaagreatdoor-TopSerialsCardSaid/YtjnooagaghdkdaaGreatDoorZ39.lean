/-L-/
import Derived.Test.YtjnooagaghdkdaaGreatDoorZ36
set_option maxHeartbeats 10000000
set_option maxRecDepth 100000
set_option linter.all false
namespace Go.Proofs.YtjnooagaghdkdaaGreatDoor
section
open Go.RowKit Go.ChangeShapes Go.WideShapes Go.ChangeAt
structure AllIn (σ:Wd) (L:List Txn):Prop where
 inv:Inv L 1 σ.deeds σ
 kept:Kept σ
 lead:σ.lead=2
 fl:∀ i,i<3->σ.f i=true
 log:(σ.s 2).log=L
 ops:∀ x∈L,x.op=1\/x.op=3
 dd:σ.deeds<=20
theorem Jov {σ:Wd} (h:FirstIn σ) (k:Kept σ):AllIn σ []:=
 ⟨by rw [h.deeds]; exact h.inv,k,h.lead,h.fl,(h.up 2 qG1).2.2,(fun x hx=>absurd hx qI1),by rw [h.deeds]; decide⟩
theorem new_all:AllIn (doW newW Jcz).1 []:=Jov new_first (JoF (σ:=newW) new_inv kept_new Jcz).1
theorem Jj3 {σ:Wd} {L:List Txn} (h:AllIn σ L) (hL:σ.deeds+1<=20) {d:Deed} (hk:d.kind=1) (hc:0<=d.client/\d.client<16) (hl:d.lost=0) (hs:d.slow=0) (ho:d.op=1\/d.op=3) {z:Int} (hz:Jbj ⟨0,1,none,0,L,0⟩=(z,0))
  (hp:Jbi (runT newTr L) z ⟨d.op,d.client+1,d.path,d.data,d.version,d.flags⟩=0) {x:Txn} (hx:JaS (runT newTr L) z ⟨d.op,d.client+1,d.path,d.data,d.version,d.flags⟩=x) :
  (doW σ d).2.code=0/\AllIn (doW σ d).1 (L ++ [x]):=by
 have e:doW σ d=Jbg { σ with deeds:=σ.deeds+1 } d:=by
  unfold doW;rw [if_neg qH1];simp only;rw [if_pos hk]
 have hK:σ.deeds+1<=300:=qCE;have hI:=h.inv.deeds (σ.deeds+1);have kτ:Kept { σ with deeds:=σ.deeds+1 }:=⟨⟨h.kept.safe,h.kept.full⟩,h.kept.lead⟩
 have hlead:({ σ with deeds:=σ.deeds+1 }:Wd).lead=2:=h.lead
 have hf3:∀ i,i<3->({ σ with deeds:=σ.deeds+1 }:Wd).f i=true:=h.fl
 have hlog:(({ σ with deeds:=σ.deeds+1 }:Wd).s 2).log=L:=h.log
 rw [e];generalize hτ:({ σ with deeds:=σ.deeds+1 }:Wd)=τ at *
 have hdd:τ.deeds=σ.deeds+1:=by rw [<-hτ]
 obtain ⟨l,hl2,l3,lu,_,hd,hep,li⟩:=hI.led (by rw [hlead]; decide)
 have hl2':l=2:=by
  have:(2:Int)=(l:Int):=hlead.symm.trans hl2;omega
 subst hl2';have hn:Jbj (Jar (τ.s 2))=(z,0):=by
  rw [<-hz];unfold Jbj Jar;simp only [hep,hlog]
 have ht:=hI.tree li hd;rw [hlog] at ht;have hses:(τ.c d.client.toNat).session=d.client+1:=by
  have:=(hI.toInv0.cl d.client.toNat qH1).se;omega
 have hr:Jgh τ d=⟨d.op,d.client+1,d.path,d.data,d.version,d.flags⟩:=by
  unfold Jgh;rw [hses]
 obtain ⟨υ,hυ⟩:=JiT (d:=d) (x:=x) (σ:=τ) hI.f3 hf3 hl hs;have hw:Jbg τ d=JaM υ d.client.toNat x [0,1,2]:=by
  unfold Jbg;rw [if_neg qH1,if_neg (by rw [hlead]; decide)]
  rw [show τ.lead.toNat=2 from by rw [hlead]; rfl]
  simp only [hn,hr,ht];rw [if_neg qG1,if_neg (fun e=>e hp),hx,hυ]
  rfl
 refine ⟨by rw [hw]; rfl,?_⟩
 have hn0:(Jbj (Jar (τ.s 2))).2=0:=by rw [hn]
 obtain ⟨n1,n2⟩:=Jh5 hI.toInv0 li hn0;rw [hn] at n1 n2;obtain ⟨p1,_,p3,p4,_,p6,_⟩:=Jcw hp;rw [hx] at p1 p3 p4 p6;have T:=Jk6 hI.toInv0 qH1 li hl2 p6 (by rw [p3]; exact n1) (by rw [p3]; exact n2) (by rw [hlog]; exact p1) d
 rw [hυ] at T;have T:TakeIn L 1 σ.deeds τ 2 x [0,1,2] υ [0,1,2]:=T;have W:WrIn L 1 σ.deeds τ d 2 x υ [0,1,2]:=⟨hc,hl2,li,hd,by rw [ht,hn,hr]; exact hp,by rw [ht,hn,hr]; exact hx.symm,by rw [p3]; exact n1,by rw [p3]; exact n2,p6,by rw [hlog]; exact ht,by rw [hlog]; exact p1,T⟩
 obtain ⟨I,hdn,c1,c2,c3,c4⟩:=W.commit hI;obtain ⟨K1,_⟩:=Jes hI kτ W qG1;rw [hw];refine ⟨by rw [c1,hdd]; exact I,K1,by rw [c2]; exact hlead,fun i hi=>?_,?_,?_,by rw [c1,hdd]; exact hL⟩
 ·rw [c3]
  exact (T.hvs i qB1).2
 ·rw [c4,if_pos qG1]
  show (υ.s 2).log=_;obtain ⟨_,sf,y2,_⟩:=T.yes 2 qG1 (T.hvs 2 qG1).2;have hlen:L.length<=300:=by have h1:=hI.len; have h2:=hI.k300; omega
  obtain ⟨_,t2,_⟩:=(hI.toInv0.up (i:=2) qG1 lu).take hI.reg hlen p6 (by rw [p3]; exact n1) (by rw [hlog]; exact p1) sf
  rw [y2,t2];show (τ.s 2).log ++ [x]=_;rw [hlog]
 ·intro y hy
  rcases zE7.1 hy with hy | hy
  ·exact h.ops y hy
  ·rw [zE3.1 hy,p4]
   exact ho
def opT (k:Int):Txn:=⟨2147483649+k,1,k+1,⟨#[]⟩,⟨#[]⟩,0,0⟩
def opL (c:Nat):List Txn:=(List.range c).map (fun i:Nat=>opT i)
abbrev JoO:Deed:=⟨1,0,0,3,0,lB,⟨#[]⟩,0,0,0,0,0,false⟩
theorem op_next (c:Nat) (hc:c<4):Jbj ⟨0,1,none,0,opL c,0⟩=(2147483649+(c:Int),0)/\Jbi (runT newTr (opL c)) (2147483649+(c:Int)) ⟨1,(c:Int)+1,⟨#[]⟩,⟨#[]⟩,0,0⟩=0:=by
 match c,hc with
 | 0,_=>exact ⟨by decide +kernel,by decide +kernel⟩
 | 1,_=>exact ⟨by decide +kernel,by decide +kernel⟩
 | 2,_=>exact ⟨by decide +kernel,by decide +kernel⟩
 | 3,_=>exact ⟨by decide +kernel,by decide +kernel⟩
theorem op_made {t:Tr} {z c:Int} (h:Jbi t z ⟨1,c+1,⟨#[]⟩,⟨#[]⟩,0,0⟩=0):JaS t z ⟨1,c+1,⟨#[]⟩,⟨#[]⟩,0,0⟩=⟨z,1,c+1,⟨#[]⟩,⟨#[]⟩,0,0⟩:=by
 rw [(Jkv h).2.2.2,Joa _ _ (.inl rfl)]
theorem opL_succ (c:Nat):opL c ++ [opT c]=opL (c+1):=by
 unfold opL;rw [List.range_succ,zK1];rfl
theorem all_open {σ:Wd} {c:Nat} (hc:c<4) (h:AllIn σ (opL c)) (hd:σ.deeds<=c+1):(doW σ (Jdp c)).2.code=0/\AllIn (doW σ (Jdp c)).1 (opL (c+1))/\(doW σ (Jdp c)).1.deeds<=c+2:=by
 obtain ⟨n1,n2⟩:=op_next c hc;have r:=Jj3 h qH1 (d:=Jdp c) rfl ⟨by show (0:Int)<=c; omega,by show (c:Int)<16; omega⟩ rfl rfl (.inl rfl) n1 n2 (op_made n2)
 refine ⟨r.1,by rw [<-opL_succ]; exact r.2,?_⟩
 have:=(do_inv2 h.inv (Jdp c)).choose_spec.choose_spec.2.2.2.2;omega
theorem mk_next:Jbj ⟨0,1,none,0,opL 4,0⟩=(2147483653,0)/\Jbi (runT newTr (opL 4)) 2147483653 ⟨3,1,lB,⟨#[]⟩,0,0⟩=0:=⟨by decide +kernel,by decide +kernel⟩
theorem all_make {σ:Wd} (h:AllIn σ (opL 4)) (hd:σ.deeds<=5):(doW σ JoO).2.code=0/\∃ L,SerI L 1 (doW σ JoO).1 noB:=by
 obtain ⟨n1,n2⟩:=mk_next;have r:=Jj3 h qH1 (d:=JoO) rfl ⟨by decide,by decide⟩ rfl rfl (.inr rfl) n1 n2 rfl
 exact ⟨r.1,_,r.2.inv,r.2.kept,r.2.ops,.inl rfl⟩
theorem Jjk:∀ l:List UInt8,Op.bytesLess l l=false
 | []=>rfl
 | a :: l=>by
  have:¬ a<a:=UInt8.lt_irrefl a;simp [Op.bytesLess,this,Jjk l]
theorem Jho:∀ a b:List UInt8,Op.bytesLess a b=true->Op.bytesLess b a=false
 | [],[],_=>rfl
 | [],_ :: _,_=>rfl
 | _ :: _,[],h=>by simp [Op.bytesLess] at h
 | x :: a,y :: b,h=>by
  simp only [Op.bytesLess,zJ0,zE1,decide_eq_true_eq,zH0,zN5,zN6,decide_eq_false_iff_not,zB7] at h ⊢;rcases h with h | ⟨rfl,h⟩
  ·exact ⟨UInt8.lt_asymm h,.inl (fun e=>by subst e; exact UInt8.lt_irrefl _ h)⟩
  ·exact ⟨UInt8.lt_irrefl _,.inr (Jho a b h)⟩
abbrev rqV (op ses:Int) (p q:ByteArray) (v f:Int):Value:=.agg #[.int .i64 op,.int .i64 ses,.string p,.string q,.int .i64 v,.int .i64 f]
theorem ask_no (b:Nat) (c:Int) (w:World) :
  Calls Tryz.prog 17 #[.pointer (some ⟨b,0,none⟩),.int .i64 13,.int .i64 c] w fun e w'=>e=.returned (.tuple #[rqV 4 0 lB noB (-1) 0,.bool false])/\Below w.heap.size w w':=by
 go_enter Tryz.func17,Tryz.ntmps17
 go_wp2_with fail;exact zA1 (v:=.tuple #[rqV 4 0 lB noB (-1) 0,.bool false]) (by simp [results,Tryz.results17,go_sem]) rfl ⟨rfl,zR⟩
theorem ask_yes (b:Nat) (k c:Int) (hk:k≠13) (w:World) :
  Calls Tryz.prog 17 #[.pointer (some ⟨b,0,none⟩),.int .i64 k,.int .i64 c] w fun e w'=>∃ f:Int,(f=2\/f=3)/\e=.returned (.tuple #[rqV 3 0 lnB noB 0 f,.bool true])/\Below w.heap.size w w':=by
 have hb:(k == 13)=false:=zB7.2 hk
 by_cases h2:k.tmod 2=0
 ·have hc:(k.tmod 2 == 0)=true:=zH0.2 h2
  clear hk h2;go_enter Tryz.func17,Tryz.ntmps17
  go_wp2_with fail;exact zA1 (v:=.tuple #[rqV 3 0 lnB noB 0 3,.bool true]) (by simp [results,Tryz.results17,go_sem]; rfl) rfl ⟨3,.inr rfl,rfl,zR⟩
 ·have hc:(k.tmod 2 == 0)=false:=zB7.2 h2
  clear hk h2;go_enter Tryz.func17,Tryz.ntmps17
  go_wp2_with fail;exact zA1 (v:=.tuple #[rqV 3 0 lnB noB 0 2,.bool true]) (by simp [results,Tryz.results17,go_sem]) rfl ⟨2,.inl rfl,rfl,zR⟩
theorem ser_look (g b:Nat) (V:World) (τ:Wd) (q:ByteArray) (r:Rp) (A:Option Addr) (c:Nat) (Reg:List Txn) (E:Int) (hS:SerS Reg E q τ r) (hbk:Bk V g [.string q] 9) :
  Calls Tryz.prog 18 #[.pointer (some ⟨b,0,none⟩),rpV r A c,.pointer (some ⟨g,0,none⟩)] V fun e w'=>e=.returned (.bool true)/\∃ q',SerI Reg E τ q'/\Bk w' g [.string q'] 9/\Keeps (fun q=>q=g) V w':=by
 have HBK:=zA0 hbk;have hgW:g<V.heap.size:=hbk.lt;have hY:=zA0 hS.yes;have hN:=zA0 hS.no;clear hS hbk;obtain ⟨rc,rz,rpa,rda,⟨s1,s2,s3,s4,s5,s6,s7⟩,rns⟩:=r;simp only [rpV] at hY hN ⊢;go_enter Tryz.func18,Tryz.ntmps18
 go_upto_region 1 with fail
 refine Jax (fun W1 hW1=>?_)
 have HB1:=zA0 (show Below V.heap.size V W1 by rw [hW1.out]; exact zR)
 have x0:W1.cell? ⟨V.heap.size,0,none⟩=some (.int .i64 rc):=qmE;have x2:W1.cell? ⟨V.heap.size,2,none⟩=some (.string rpa):=qmE;have hs1:V.heap.size+1<=W1.heap.size:=by rw [hW1.out]; simp
 have HBK1:=zA0 (HBK.out.below HB1.out);have u0:W1.cell? ⟨g,0,none⟩=some (.string q):=HBK1.out.cell 0;have uf:∀ j,W1.frozen? ⟨g,j,none⟩=false:=fun j=>HBK1.out.frozen j
 have hgW1:g<W1.heap.size:=HBK1.out.lt;clear hW1 HBK
 by_cases c0:rc=0
 ·have b0:(rc != 0)=false:=by rw [c0]; rfl
  by_cases hp:rpa=noB
  ·have b1:(rpa.toList == [])=true:=by rw [hp,zE4]; rfl
   have HF:=zA0 (hN.out (.inr hp));clear c0 hp hY hN;go_wp2_with fail;exact zA1 (v:=.bool true) (by simp [results,Tryz.results18,go_sem]) rfl ⟨rfl,q,HF.out,HBK1.out,zC3 HB1.out⟩
  ·have b1:(rpa.toList == [])=false:=zB7.2 (fun e=>hp (JdN (by rw [e,zE4])))
   obtain ⟨h1,h2,h3⟩:=hY.out c0 hp;have HF:=zA0 h1;have b2:Op.bytesLess rpa.toList q.toList=false:=by rw [zE4,zE4]; exact Jho _ _ h3
   have b4:decide (rpa=q)=false:=zA7 (fun e=>by
    subst e;rw [Jjk] at h3;cases h3)
   have b3:(rpa.size:Int)=14:=by rw [h2]; rfl
   clear c0 hp hY hN h1 h3;go_upto_region 5 with fail
   refine Jax (fun W2 hW2=>?_)
   have hG2:W1.grownBy W2 (some g):=hW2.out▸zD9 _ _ _ _;have HBK2:=zA0 (show Bk W2 g [.string rpa] 9 from hW2.out▸HBK1.out.put 0 (.string rpa))
   have HK:=zA0 ((zC3 HB1.out (p:=fun q=>q=g)).trans (zE8 (p:=fun q=>q=g) hG2 (fun q e=>by injection e with e; exact e.symm)) (fun _ _ e=>e))
   clear hW2 u0 uf;go_wp2_with fail;exact zA1 (v:=.bool true) (by simp [results,Tryz.results18,go_sem]) rfl ⟨rfl,rpa,HF.out,HBK2.out,HK.out⟩
 ·have b0:(rc != 0)=true:=zC9.2 c0
  have HF:=zA0 (hN.out (.inl c0));clear c0 hY hN;go_wp2_with fail;exact zA1 (v:=.bool true) (by simp [results,Tryz.results18,go_sem]) rfl ⟨rfl,q,HF.out,HBK1.out,zC3 HB1.out⟩
end
end Go.Proofs.YtjnooagaghdkdaaGreatDoor
