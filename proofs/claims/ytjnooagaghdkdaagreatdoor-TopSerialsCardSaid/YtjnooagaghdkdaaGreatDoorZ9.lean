/-L-/
import Derived.Test.YtjnooagaghdkdaaGreatDoorZ6
import Derived.Test.YtjnooagaghdkdaaGreatDoorZ7
set_option maxHeartbeats 10000000
set_option maxRecDepth 100000
set_option linter.all false
namespace Go.Proofs.YtjnooagaghdkdaaGreatDoor
section
open Go.RowKit
theorem JjT (g n c k j m q:Nat) (cur news:List Value) (w:World) (hb:Bk w g cur 128) (hnews:news.length=m*3) (hsrc:∀ (i:Nat) (v:Value),news[i]?=some v->cur[j*3+i]?=some v)
  (hone:∀ v∈news,v.oneCell'=true) (hlen:cur.length=c*3) (hj:j=k+1) (hm:k+m=q) (hn:n=q+1) (hnc:n<=c) (hc:c<=9223372036854775807) :
  Calls Tryz.prog 175 #[.slice (some ⟨g,0,none⟩) n c,.int .i64 k,.int .i64 j] w fun e w'=>e=.returned (.slice (some ⟨g,0,none⟩) q c)/\
   Hid (∃ cur',Bk w' g cur' 128/\cur'.length=cur.length/\cur'.take (q*3)=(splice cur (k*3) news).take (q*3)/\w.grownBy w' (some g)):=by
 have HB:=zA0 hb;have HO:=zA0 hone;have HN:=zA0 hnews;have HS:=zA0 hsrc;have HL:=zA0 hlen;have hkc:(k:Int)<=(c:Int):=qCE;have hjn:(j:Int)<=(n:Int):=qCE;have hnci:(n:Int)<=(c:Int):=qCE;have hqn:(q:Int)<=(n:Int):=qCE;have hqc:(q:Int)<=(c:Int):=qCE;have hkj:(k:Int)<=(j:Int):=qCE;have hkk:((k:Int) == (j:Int))=false:=zB7.2 qH1;have hnq:n - q=1:=qCE;have HQ:=zA0 hn;have HJ:=zA0 hj;have HBD:Hid (Bk w.drew g cur 128):=HB;clear hb hone hnews hsrc hlen
 by_cases hcj:c=j
 ·have hm0:m=0:=by omega
  subst hm0;rw [zH9] at hm;subst hm;have hn0:news=[]:=zK2 (by simpa using HN.out)
  have HN0:=zA0 hn0;have hnj:n=j:=qCE;subst hnj;subst hcj;clear hn hj hn0;go_enter Tryz.func175,Tryz.ntmps175
  go_wp2_with fail;go_region_law (first | (refine JcB rfl (.tmp 22) (.tmp 25) _ rfl Jc5 (g:=g) (k:=k) (c:=c) (off:=0) (m:=0) (cc:=0) (news:=news) qi0 qi0 HBD.out (by rw [HN0.out]; rfl) (by rw [HN0.out]; simp) qH1 qZ0 HO.out ?_; intro w2 hb2 hg2 hz2; have HB2:=zA0 hb2; have HG2:=zA0 hg2; have HZ2:=zA0 hz2; clear hb2 hg2 hz2))
  have hsl:(splice cur (k*3) news).length=c*3:=qLE;have HSL:=zA0 hsl;clear hsl;go_wp2_with (first | (with_reducible refine JaZ ?_); (refine Jbu rfl (.tmp 31) _ rfl Jc5 (off:=k*3) (n:=1) rfl HB2.out qG1 (by rw [HSL.out]; omega) ?_; intro w3 cur3 hb3 hl3 ht3 hg3 _; have HB3:=zA0 hb3; have HL3:=zA0 hl3; have HT3:=zA0 ht3; have HG3:=zA0 hg3; clear hb3 hl3 ht3 hg3))
  refine zA1 (v:=.slice (some ⟨g,0,none⟩) k c) (by simp [results,Tryz.results175,go_sem]) rfl ⟨rfl,zA0 ⟨cur3,HB3.out,by rw [HL3.out,HSL.out,HL.out],HT3.out,?_⟩⟩
  exact (show w.grownBy w2 (some g) from ⟨HG2.out.os,HG2.out.tape,HG2.out.output,HG2.out.size,HG2.out.block⟩).trans HG3.out
 ·clear hn hj
  go_enter Tryz.func175,Tryz.ntmps175
  go_wp2_with fail;go_region_law (first | (refine JcB rfl (.tmp 22) (.tmp 25) _ rfl Jc5 (g:=g) (k:=k) (c:=c) (off:=j*3) (m:=m) (cc:=c - j) (news:=news) qi0 qH0 HBD.out HN.out HS.out (by have:=HQ.out; omega) qO0 HO.out ?_; intro w2 hb2 hg2 hz2; have HB2:=zA0 hb2; have HG2:=zA0 hg2; have HZ2:=zA0 hz2; clear hb2 hg2 hz2))
  have hsl:(splice cur (k*3) news).length=c*3:=qJE;have HSL:=zA0 hsl;clear hsl;go_wp2_with (first | (with_reducible refine JaZ ?_); (refine Jbu rfl (.tmp 31) _ rfl Jc5 (off:=q*3) (n:=1) rfl HB2.out qG1 qV0 ?_; intro w3 cur3 hb3 hl3 ht3 hg3 _; have HB3:=zA0 hb3; have HL3:=zA0 hl3; have HT3:=zA0 ht3; have HG3:=zA0 hg3; clear hb3 hl3 ht3 hg3));refine zA1 (v:=.slice (some ⟨g,0,none⟩) q c) (by simp [results,Tryz.results175,go_sem]) rfl ⟨rfl,zA0 ⟨cur3,HB3.out,by rw [HL3.out,HSL.out,HL.out],HT3.out,?_⟩⟩
  exact (show w.grownBy w2 (some g) from ⟨HG2.out.os,HG2.out.tape,HG2.out.output,HG2.out.size,HG2.out.block⟩).trans HG3.out
theorem delFile (A:Option Addr) (n c k:Nat) (l:List File) (w:World) (B:Nat) (hown:Ow Jaa 3 128 w B (.slice A n c) l) (hk:k<l.length) (hc:c<=9223372036854775807) :
  Calls Tryz.prog 175 #[.slice A n c,.int .i64 k,.int .i64 (k+1)] w fun e w'=>e=.returned (.slice A (n - 1) c)/\Hid (Ow Jaa 3 128 w' B (.slice A (n - 1) c) (l.take k ++ l.drop (k+1))/\w.grownBy w' (Value.slice A n c).ownBlock):=by
 have hnl:n=l.length:=qZE;obtain ⟨g,J,rfl,hBg,hbk,hbl,hnc,hcm,_⟩:=hown.blk qH1;have hf:∀ x∈l,(Jaa x).length=3:=fun _ _=>rfl
 have hsp:=Je9 hf (k+1);have hnews:((l.drop (k+1)).flatMap Jaa).length=(n - (k+1))*3:=by rw [zC5 (f:=Jaa) (s:=3) (fun _ _=>rfl),zE5,hnl]
 have hsrc:∀ (i:Nat) (v:Value),((l.drop (k+1)).flatMap Jaa)[i]?=some v->(l.flatMap Jaa ++ J)[(k+1)*3+i]?=some v:=by
  intro i v hj;rw [<-hsp,zF3] at hj;rw [zF1 (zB3.1 hj).1];exact hj
 have hone:∀ v∈(l.drop (k+1)).flatMap Jaa,v.oneCell'=true:=qTE;have htake:=JdT hf (zG5 hk) J;have hlen:(l.take k ++ l.drop (k+1)).length=n - 1:=qME;rw [show (k:Int)+1=((k+1:Nat):Int) from by omega]
 refine (JjT g n c k (k+1) (n - (k+1)) (n - 1) _ _ w hbk hnews hsrc hone hbl rfl qH1 qH1 hnc hc).mono ?_;rintro e w' ⟨rfl,h⟩;obtain ⟨cur',hb',hl',ht',hg'⟩:=h.out;refine ⟨rfl,zA0 ⟨?_,hg'⟩⟩;have hlt:((l.take k).flatMap Jaa).length=k*3:=by rw [zC5 (f:=Jaa) (s:=3) (fun _ _=>rfl),zC2,zF8 qH1]
 have hpre:cur'.take ((n - 1)*3)=(l.take k ++ l.drop (k+1)).flatMap Jaa:=by
  rw [ht'];unfold splice;rw [htake,zF6];have e:(n - 1)*3=((l.take k).flatMap Jaa ++ (l.drop (k+1)).flatMap Jaa).length:=qcE;rw [e,<-zC0,zH2]
 have hcur:cur'=(l.take k ++ l.drop (k+1)).flatMap Jaa ++ cur'.drop ((n - 1)*3):=by rw [<-hpre,zD7]
 have:=Ow.of_blk (f:=Jaa) (s:=3) (B:=B) (fun _ _=>rfl) hBg hb' hcur (by rw [hl']; exact hbl) qw0 hcm
 rw [hlen] at this;exact this
theorem Jjq (l:List Entry) (x:Entry):(JeZ l x).length<=l.length+1:=by
 unfold JeZ;split
 ·simp
 ·simp; omega
end
section
open Go.RowKit Go.Lib
theorem Jpa:∀ (a b:List UInt8),compareBytes a b=0->a=b
 | [],[],_=>rfl
 | [],_ :: _,h=>by simp [compareBytes] at h
 | _ :: _,[],h=>by simp [compareBytes] at h
 | a :: r,b :: q,h=>by
  unfold compareBytes at h;split at h
  ·simp at h
  ·split at h
   ·simp at h
   ·have:a=b:=by
     rename_i h1 h2
     exact UInt8.toNat_inj.1 (by have:=UInt8.not_lt.1 h1; have:=UInt8.not_lt.1 h2; simp only [UInt8.le_iff_toNat_le] at *; omega)
    rw [this,Jpa r q h]
theorem Jpb:∀ (a:List UInt8),compareBytes a a=0
 | []=>rfl
 | a :: r=>by unfold compareBytes; rw [if_neg qI1,if_neg qI1]; exact Jpb r
theorem Jiy:∀ (a b:List UInt8),0<compareBytes a b->compareBytes b a<0
 | [],[],h=>by simp [compareBytes] at h
 | _ :: _,[],_=>by simp [compareBytes]
 | [],_ :: _,h=>by simp [compareBytes] at h
 | a :: r,b :: q,h=>by
  unfold compareBytes at h ⊢
  by_cases h2:b<a
  ·rw [if_pos h2]; decide
  ·by_cases h1:a<b
   ·rw [if_pos h1] at h; simp at h
   ·rw [if_neg h1,if_neg h2] at h
    rw [if_neg h2,if_neg h1];exact Jiy r q h
theorem Jfb:∀ (a b c:List UInt8),compareBytes a b<0->compareBytes b c<0->compareBytes a c<0
 | [],[],_,h,_=>by simp [compareBytes] at h
 | [],_ :: _,[],_,h=>by simp [compareBytes] at h
 | [],_ :: _,_ :: _,_,_=>by simp [compareBytes]
 | _ :: _,[],_,h,_=>by simp [compareBytes] at h
 | _ :: _,_ :: _,[],_,h=>by simp [compareBytes] at h
 | a :: r,b :: q,c :: t,h,k=>by
  unfold compareBytes at h k ⊢
  by_cases h1:a<b
  ·by_cases k1:b<c
   ·rw [if_pos qN0]; decide
   ·by_cases k2:c<b
    ·rw [if_neg k1,if_pos k2] at k; simp at k
    ·rw [if_pos qN0]; decide
  ·by_cases h2:b<a
   ·rw [if_neg h1,if_pos h2] at h; simp at h
   ·rw [if_neg h1,if_neg h2] at h
    by_cases k1:b<c
    ·rw [if_pos qN0]; decide
    ·by_cases k2:c<b
     ·rw [if_neg k1,if_pos k2] at k; simp at k
     ·rw [if_neg k1,if_neg k2] at k
      rw [if_neg qN0,if_neg qN0];exact Jfb r q t h k
theorem Jbr (a:ByteArray):cmpB a a=0:=Jpb _
theorem Jc7 {a b:ByteArray} (h:cmpB a b=0):a=b:=by
 have:=Jpa _ _ h;exact ByteArray.ext (Array.ext' this)
def JbO (l:List Entry):Prop:=∀ (i j:Nat) (x y:Entry),i<j->l[i]?=some x->l[j]?=some y->cmpB x.path y.path<0
theorem JlV (f:Nat->Bool):∀ n,(∀ i j,i<j->j<n->f j=true->f i=true)->∃ m,m<=n/\(∀ k,k<m->f k=true)/\(∀ k,m<=k->k<n->f k=false)
 | 0,_=>⟨0,zA3 _,fun k hk=>by omega,fun k _ hk=>by omega⟩
 | n+1,h=>by
  obtain ⟨m,hm,h1,h2⟩:=JlV f n (fun i j hij hj=>h i j hij qH1)
  have split:∀ k,k<n+1->k<n\/k=n:=fun k hk=>by omega
  cases hf:f n with
  | true=>
   refine ⟨n+1,zA3 _,fun k hk=>?_,fun k hk hk2=>by omega⟩
   rcases split k hk with hlt | rfl
   ·exact h k n hlt qH1 hf
   ·exact hf
  | false=>
   refine ⟨m,by omega,h1,fun k hk hk2=>?_⟩
   rcases split k hk2 with hlt | rfl
   ·exact h2 k hk hlt
   ·exact hf
theorem Jlf {l:List Entry} (hs:JbO l) (p:ByteArray) (k:Nat) (x:Entry) (hx:l[k]?=some x):k<posK (l.map Entry.path) p↔cmpB x.path p<0:=by
 have hk:k<l.length:=(zB3.1 hx).1;have hlt:∀ (k:Nat) (x:Entry),l[k]?=some x->ltK (l.map Entry.path) p k=decide (cmpB x.path p<0):=fun k x h=>Jjj (g:=Entry.path) h p
 obtain ⟨m,hm,h1,h2⟩:=JlV (ltK (l.map Entry.path) p) l.length (by
  intro i j hij hj h;have hi:=zA8 (l:=l) (i:=i) qH1;have hj2:=zA8 (l:=l) (i:=j) hj;rw [hlt j _ hj2] at h;rw [hlt i _ hi];simp at h ⊢;exact Jfb _ _ _ (hs i j _ _ hij hi hj2) h)
 have hp:posK (l.map Entry.path) p=m:=by
  unfold posK;rw [zG0];exact Jdb _ m l.length 0 l.length qH1 (zB9 _) hm h1 h2
 rw [hp];constructor
 ·intro h
  have:=h1 k h;rw [hlt k x hx] at this;simpa using this
 ·intro h
  rcases zD1 k m with hlt2 | hge
  ·exact hlt2
  ·have:=h2 k hge hk
   rw [hlt k x hx] at this;simp at this;omega
theorem at_of {l:List Entry} (hs:JbO l) {k:Nat} {x:Entry} (hx:l[k]?=some x):posK (l.map Entry.path) x.path=k/\isK (l.map Entry.path) x.path=true:=by
 have h1:¬ k<posK (l.map Entry.path) x.path:=by rw [Jlf hs x.path k x hx,Jbr]; omega
 have hk:k<l.length:=(zB3.1 hx).1;have h2:posK (l.map Entry.path) x.path=k:=by
  rcases zD1 (posK (l.map Entry.path) x.path) k with h | h
  ·have hy:=zA8 (l:=l) (i:=posK (l.map Entry.path) x.path) qH1
   have h3:=hs _ _ _ _ h hy hx;rw [<-Jlf hs x.path _ _ hy] at h3;omega
  ·omega
 exact ⟨h2,by rw [Je1 h2 hx,Jbr]; rfl⟩
theorem none_of {l:List Entry} (p:ByteArray) (h:∀ (k:Nat) (x:Entry),l[k]?=some x->x.path≠p):isK (l.map Entry.path) p=false:=by
 rcases zD1 (posK (l.map Entry.path) p) l.length with hlt | hge
 ·have hy:=zA8 (l:=l) (i:=posK (l.map Entry.path) p) hlt
  rw [Je1 rfl hy];have:=h _ _ hy;simp;intro h0;exact this (Jc7 h0)
 ·exact Jgz rfl qH1
def ltE (x y:Entry):Prop:=cmpB x.path y.path<0
theorem JeJ {l:List Entry}:JbO l↔l.Pairwise ltE:=by
 rw [zJ4];constructor
 ·intro h i j hi hj hij
  exact h i j _ _ hij (zA8 hi) (zA8 hj)
 ·intro h i j x y hij hx hy
  obtain ⟨hi,rfl⟩:=zB3.1 hx;obtain ⟨hj,rfl⟩:=zB3.1 hy;exact h i j hi hj hij
theorem Jg9 (x:Entry):(Jef x).path=x.path:=by unfold Jef; split <;> rfl
theorem Jj1 {l:List Entry} (hs:JbO l) (p:ByteArray):∀ y∈l.take (posK (l.map Entry.path) p),cmpB y.path p<0:=by
 intro y hy;obtain ⟨k,hk⟩:=zF0.1 hy;rw [zM7] at hk;split at hk
 ·exact (Jlf hs p k y hk).1 (by assumption)
 ·cases hk
theorem Jj0 {l:List Entry} (hs:JbO l) (p:ByteArray) (h:isK (l.map Entry.path) p=false):∀ y∈l.drop (posK (l.map Entry.path) p),cmpB p y.path<0:=by
 intro y hy;obtain ⟨k,hk⟩:=zF0.1 hy;rw [zF3] at hk;have h1:=mt (Jlf hs p _ y hk).2 qH1;have h2:cmpB y.path p≠0:=by
  intro h0;obtain rfl:=Jc7 h0;rw [(at_of hs hk).2] at h;cases h
 exact Jiy _ _ (by unfold cmpB at h1 h2; omega)
theorem JnC {l:List Entry} {q:Nat} (hq:q<l.length) (x:Entry):l.set q x=l.take q ++ x :: l.drop (q+1):=by rw [zR3,if_pos hq]
theorem is_at {l:List Entry} {p:ByteArray} (h:isK (l.map Entry.path) p=true):∃ hq:posK (l.map Entry.path) p<l.length,(l[posK (l.map Entry.path) p]'hq).path=p:=by
 have hq:=isK_lt h;refine ⟨hq,?_⟩;rw [Je1 rfl (zA8 hq)] at h;exact Jc7 qA1
theorem Jjp {l:List Entry} (hs:JbO l) (x:Entry):JbO (JeZ l x):=by
 have hpw:=JeJ.1 hs;rw [JeJ];unfold JeZ;cases hk:isK (l.map Entry.path) x.path with
 | true=>
  obtain ⟨hq,he⟩:=is_at hk;rw [if_pos rfl,JnC hq];have e:l=l.take (posK (l.map Entry.path) x.path) ++ l[posK (l.map Entry.path) x.path] :: l.drop (posK (l.map Entry.path) x.path+1):=qQE;generalize l[posK (l.map Entry.path) x.path]=y at e he;generalize posK (l.map Entry.path) x.path=q at e;generalize l.take q=a at e ⊢;generalize l.drop (q+1)=b at e ⊢;rw [e] at hpw;simp only [zH3,zG7,zE2,forall_eq_or_imp] at hpw ⊢;unfold ltE at hpw ⊢;rw [Jg9,<-he];exact hpw
 | false=>
  rw [if_neg qI1];have e:=zD7 (posK (l.map Entry.path) x.path) l;have hb:=Jj1 hs x.path;have ha:=Jj0 hs x.path hk;generalize posK (l.map Entry.path) x.path=q at e hb ha;generalize l.take q=a at e hb ⊢;generalize l.drop q=b at e ha ⊢;rw [<-e] at hpw;simp only [zH3,zG7,zE2,forall_eq_or_imp] at hpw ⊢;unfold ltE at hpw ⊢;rw [Jg9];exact ⟨hpw.1,⟨ha,hpw.2.1⟩,fun y hy=>⟨hb y hy,hpw.2.2 y hy⟩⟩
theorem look_of {l:List Entry} (hs:JbO l) {y:Entry} (hy:y∈l):isK (l.map Entry.path) y.path=true/\lookE l y.path=y:=by
 obtain ⟨k,hk⟩:=zF0.1 hy;obtain ⟨h1,h2⟩:=at_of hs hk;refine ⟨h2,?_⟩;unfold lookE;rw [h2,if_pos rfl,h1,zE6,hk];rfl
theorem Jc1:∀ (a b:List UInt8),Op.bytesLess a b=decide (compareBytes a b<0)
 | [],[]=>rfl
 | _ :: _,[]=>by simp [Op.bytesLess,compareBytes]
 | [],_ :: _=>by simp [Op.bytesLess,compareBytes]
 | a :: r,b :: q=>by
  unfold Op.bytesLess compareBytes
  by_cases h1:a<b
  ·simp [h1]
  ·by_cases h2:b<a
   ·have h3:a≠b:=by intro e; subst e; simp at h2
    simp [h1,h2,h3]
   ·have h3:a=b:=UInt8.toNat_inj.1 qN0
    subst h3;simp [Jc1 r q]
theorem Jgu {a b:ByteArray} (h:cmpB a b<0):Op.bytesLess a.toList b.toList=true:=by
 rw [zE4,zE4,Jc1];simpa [cmpB] using h
end
section
open Go.RowKit Go.ChangeShapes Go.WideShapes Go.ChangeAt
theorem JjO (v:Value) (l:List File) (p:ByteArray) (w:World) (h:Sl Jaa 3 w v l) (hn:l.length<=140737488355328) :
  Calls Tryz.prog 91 #[.agg #[v],.string p] w fun e w'=>e=.returned (.tuple #[.int .i64 (posK (l.map File.name) p),.bool (isK (l.map File.name) p)])/\Below w.heap.size w w':=by
 obtain ⟨A,c,rfl,h1,h2⟩:=h.form;have H:=zA0 h;clear h;go_enter Tryz.func91,Tryz.ntmps91
 go_wp2_with (go_at_call 119; refine (bsfFile _ _ _ _ (H.out.alloc _) hn).mono ?_; rintro e w1 ⟨rfl,hb⟩; obtain ⟨ext,d,rfl⟩:=zA2 _ hb);go_ret2;exact ⟨rfl,zL⟩
def DkIs (l:List File) (w:World) (e:Ending) (w':World):Prop:=∃ A c,e=.returned (.agg #[.slice A l.length c])/\Ow Jaa 3 128 w' w.heap.size (.slice A l.length c) l/\Below w.heap.size w w'
theorem Jcp (v:Value) (l:List File) (w:World) (h:Sl Jaa 3 w v l) (hn:l.length*48<=140737488355328) (hm:l.length<=maxLen) :
  Calls Tryz.prog 63 #[.agg #[v]] w (DkIs l w):=by
 obtain ⟨A,c,rfl,h1,h2⟩:=h.form;have H:=zA0 h;clear h;go_enter Tryz.func63,Tryz.ntmps63
 go_wp2_with (go_at_call 90; refine (Jo7 _ _ _ ((H.out.alloc _).alloc _) hn hm).mono ?_; rintro e w1 ⟨A',c',rfl,hown,hb⟩; obtain ⟨ext,d,rfl⟩:=zA2 _ hb);refine zA1 (v:=.agg #[.slice A' l.length c']) (by simp [results,Tryz.results63,go_sem]) rfl ⟨A',c',rfl,?_,?_⟩
 ·exact (hown.regrow (zA3 _) qI1).mono qB1
 ·exact zL
theorem JdB {a b:ByteArray} (h:¬ cmpB a b<0):Op.bytesLess a.toList b.toList=false:=by
 rw [zE4,zE4,Jc1];exact zA7 h
theorem retB {a b:Bool} (h:a=b):Ending.returned (.bool a)=Ending.returned (.bool b):=by rw [h]
def okF (x:File):Bool:=JaK (bs x.name) && decide (x.safe.size+x.tail.size<=1048576)
def JfE (l:List File) (i:Nat):Bool:=match l[i]? with
 | none=>true
 | some x=>okF x && (match i with | 0=>true | j+1=>match l[j]? with | some y=>decide (cmpB y.name x.name<0) | none=>true)
def JaL (l:List File):Bool:=decide (l.length<=16) && (List.range l.length).all (JfE l)
theorem Je3 {l:List File} {i:Nat} (h:JfE l i=false):JaL l=false:=by
 have hi:i<l.length:=by
  apply Classical.byContradiction;intro hn;unfold JfE at h;rw [zM0 qH1] at h;cases h
 unfold JaL;rw [zN6];refine .inr ?_;rw [zM2];exact ⟨i,zK0.2 hi,by simp [h]⟩
theorem Jor {l:List File} (h:∀ i,i<l.length->JfE l i=true) (h16:l.length<=16):JaL l=true:=by
 unfold JaL;rw [zE1,List.all_eq_true];exact ⟨zB0 h16,fun i hi=>h i (zK0.1 hi)⟩
def File.sized (x:File):Prop:=x.name.size<=9223372036854775807/\x.safe.size<=140737488355328/\x.tail.size<=140737488355328
theorem JhH (v:Value) (l:List File) (w:World) (h:Sl Jaa 3 w v l) (hz:∀ x∈l,x.sized) :
  Calls Tryz.prog 62 #[.agg #[v]] w fun e w'=>e=.returned (.bool (JaL l))/\Below w.heap.size w w':=by
 obtain ⟨A,c,rfl,hc1,hc2⟩:=h.form;have H:=zA0 h;have HZ:=zA0 hz;clear h hz
 by_cases h16:l.length<=16
 ·have h16i:(decide ((16:Int)<(l.length:Int)))=false:=zA7 qH1
  go_enter Tryz.func62,Tryz.ntmps62
  go_wp2_with fail;go_loopw [12] (fun i wr=>∃ (k:Nat) (ext:Array Obj) (d:Nat),k<=l.length/\i=.int .i64 k/\wr=grow (w.alloc (.cells #[.slice A l.length c] 65)) ext d/\Hid (∀ j,j<k->JfE l j=true)) (fun i _=>l.length - (intOf i).toNat)
  case atStart=>exact ⟨0,_,_,zB9 _,rfl,Jav zL,zA0 (fun j hj=>absurd hj qH1)⟩
  case round=>
   obtain ⟨k,ext,d,hk,rfl,rfl,hok⟩:=hrel
   by_cases hlt:k<l.length
   ·have hx:l[k]?=some (l[k]'hlt):=zA8 _
    obtain ⟨b,off,rfl,hbw,x0,x1,x2⟩:=H.out.File_at hx;have hzx:=HZ.out _ (zD3 hx);generalize l[k]'hlt=x at *;have HX:=zA0 hx;clear hx;obtain ⟨z0,z1,z2⟩:=hzx;have HN:=zA0 (fun (W:World)=>Jc0 x.name W z0)
    generalize hnm:JaK (bs x.name)=nm at HN;have HNM:=zA0 hnm;clear hnm;go_wp2_with fail;cases nm with
    | false=>
     go_quiet (first | (go_at_call 43; with_reducible refine Calls.quiet_of_same ((HN.out _).mono fun e w' h=>⟨h.1,h.2.symm⟩)))
     go_wp2_with fail;go_ret;exact ⟨retB (Je3 (i:=k) (by unfold JfE; rw [HX.out]; simp [okF,HNM.out])).symm,zL⟩
    | true=>
     by_cases hsz:x.safe.size+x.tail.size<=1048576
     ·have hszi:(decide ((1048576:Int)<(x.safe.size:Int)+(x.tail.size:Int)))=false:=zA7 qH1
      have hokx:okF x=true:=by simp [okF,HNM.out,hsz]
      have HOK:=zA0 hokx;clear hokx;cases k with
      | zero=>
       go_quiet (first | (go_at_call 43; with_reducible refine Calls.quiet_of_same ((HN.out _).mono fun e w' h=>⟨h.1,h.2.symm⟩)))
       go_wp2_with fail;go_roundw
       case rel=>exact ⟨0+1,_,_,by omega,by go_num,Jav zL,zA0 (fun i hi=>by
        rcases zD1 i (0) with h | h
        ·exact hok.out i h
        ·obtain rfl:i=0:=by omega
         unfold JfE; rw [HX.out]; simp [HOK.out])⟩
       case measure=>simp [intOf]; omega
      | succ j=>
       have hy:l[j]?=some (l[j]'qH1):=zA8 _;obtain ⟨b2,off2,hA2,_,y0,y1,y2⟩:=H.out.File_at hy;injection hA2 with hA2
       injection hA2 with e1 e2 _
       subst e1;subst e2;generalize l[j]'qH1=y at *;have HY:=zA0 hy;clear hy;have hcmp:=Jc1 (bs3 y.name) (bs3 x.name)
       by_cases hlt2:cmpB y.name x.name<0
       ·have HLT:=zA0 hlt2
        have hls:=Jgu hlt2;clear hlt2 hcmp;go_quiet (first | (go_at_call 43; with_reducible refine Calls.quiet_of_same ((HN.out _).mono fun e w' h=>⟨h.1,h.2.symm⟩)))
        go_wp2_with fail;go_roundw
        case rel=>exact ⟨j+1+1,_,_,by omega,by go_num,Jav zL,zA0 (fun i hi=>by
         rcases zD1 i (j+1) with h | h
         ·exact hok.out i h
         ·obtain rfl:i=j+1:=by omega
          unfold JfE; rw [HX.out]; simp [HOK.out,HY.out,HLT.out])⟩
        case measure=>simp [intOf]; omega
       ·have HLT:=zA0 hlt2
        have hls:Op.bytesLess y.name.toList x.name.toList=false:=JdB hlt2;clear hlt2 hcmp;go_quiet (first | (go_at_call 43; with_reducible refine Calls.quiet_of_same ((HN.out _).mono fun e w' h=>⟨h.1,h.2.symm⟩)))
        go_wp2_with fail;go_ret;exact ⟨retB (Je3 (i:=j+1) (by unfold JfE; rw [HX.out]; simp [HOK.out,HY.out]; have:=HLT.out; omega)).symm,zL⟩
     ·have hszi:(decide ((1048576:Int)<(x.safe.size:Int)+(x.tail.size:Int)))=true:=zB0 qH1
      have hokx:okF x=false:=by simp [okF,HNM.out,hsz]
      have HOK:=zA0 hokx;clear hokx;cases k with
      | zero=>
       go_quiet (first | (go_at_call 43; with_reducible refine Calls.quiet_of_same ((HN.out _).mono fun e w' h=>⟨h.1,h.2.symm⟩)))
       go_wp2_with fail;go_ret;exact ⟨retB (Je3 (i:=0) qP0).symm,zL⟩
      | succ j=>
       have hy:l[j]?=some (l[j]'qH1):=zA8 _;obtain ⟨b2,off2,hA2,_,y0,y1,y2⟩:=H.out.File_at hy;injection hA2 with hA2
       injection hA2 with e1 e2 _
       subst e1;subst e2;generalize l[j]'qH1=y at *;clear hy
       by_cases hlt2:cmpB y.name x.name<0
       ·have hls:=Jgu hlt2
        clear hlt2;go_quiet (first | (go_at_call 43; with_reducible refine Calls.quiet_of_same ((HN.out _).mono fun e w' h=>⟨h.1,h.2.symm⟩)))
        go_wp2_with fail;go_ret;exact ⟨retB (Je3 (i:=j+1) qP0).symm,zL⟩
       ·have hls:Op.bytesLess y.name.toList x.name.toList=false:=JdB hlt2
        clear hlt2;go_quiet (first | (go_at_call 43; with_reducible refine Calls.quiet_of_same ((HN.out _).mono fun e w' h=>⟨h.1,h.2.symm⟩)))
        go_wp2_with fail;go_ret;exact ⟨retB (Je3 (i:=j+1) qP0).symm,zL⟩
   ·go_wp2_with fail
    go_ret;exact ⟨retB (Jor (fun i hi=>hok.out i qH1) h16).symm,zL⟩
 ·have hg:JaL l=false:=by unfold JaL; rw [zA7 h16]; rfl
  have h16i:(decide ((16:Int)<(l.length:Int)))=true:=zB0 qH1;rw [hg];go_enter Tryz.func62,Tryz.ntmps62
  go_wp2_with fail;go_ret;exact ⟨rfl,zL⟩
def JfH (l:List Entry) (q:ByteArray):List Entry:=if isK (l.map Entry.path) q then l.take (posK (l.map Entry.path) q) ++ l.drop (posK (l.map Entry.path) q+1) else l
theorem JjC (l:List Entry) (q:ByteArray):(JfH l q).Sublist l:=by
 unfold JfH;split
 ·rw [<-List.eraseIdx_eq_take_drop_succ]; exact List.eraseIdx_sublist _ _
 ·exact List.Sublist.refl _
theorem JjD {l:List Entry} (h:JbO l) (q:ByteArray):JbO (JfH l q):=by
 rw [JeJ] at *;exact h.sublist (JjC l q)
theorem Jn6 {l:List Entry} (h:JbO l) (q:ByteArray) (y:Entry):y∈JfH l q↔y∈l/\y.path≠q:=by
 unfold JfH;cases hi:isK (l.map Entry.path) q with
 | false=>
  simp only [zC7,if_false];refine ⟨fun hy=>⟨hy,fun e=>?_⟩,fun hy=>hy.1⟩
  have:=(look_of h hy).1;rw [e,hi] at this;cases this
 | true=>
  simp only [if_true];obtain ⟨hq,hp⟩:=is_at hi;generalize posK (l.map Entry.path) q=k at *;constructor
  ·intro hy
   have hex:∃ i,i≠k/\l[i]?=some y:=by
    rcases zE7.1 hy with hy | hy
    ·obtain ⟨i,hi'⟩:=zJ8 hy
     have hlt:i<k:=by have:=(zB3.1 hi').1; rw [zC2] at this; omega
     exact ⟨i,by omega,by rwa [zL5 hlt] at hi'⟩
    ·obtain ⟨i,hi'⟩:=zJ8 hy
     rw [zF3] at hi';exact ⟨k+1+i,by omega,hi'⟩
   obtain ⟨i,hne,hiy⟩:=hex;refine ⟨zD3 hiy,fun e=>?_⟩
   have hk:l[k]?=some (l[k]'hq):=zA8 _;rcases Nat.lt_or_gt_of_ne hne with hlt | hlt
   ·have:=h i k _ _ hlt hiy hk
    rw [e,hp,Jbr] at this;omega
   ·have:=h k i _ _ hlt hk hiy
    rw [e,hp,Jbr] at this;omega
  ·rintro ⟨hy,hne⟩
   obtain ⟨i,hi'⟩:=zJ8 hy;rcases zO4 i k with hlt | rfl | hlt
   ·exact zE7.2 (.inl (zD3 (i:=i) (by rwa [zL5 hlt])))
   ·rw [zA8 hq] at hi'
    cases hi';exact absurd hp hne
   ·exact zE7.2 (.inr (zD3 (i:=i - (k+1)) (by rw [zF3,show k+1+(i - (k+1))=i from by omega]; exact hi')))
def Jih (s:Int) (n:Note):Bool:=decide (n.session=s) && !decide (n.kind=4)
def Jf1 (s:Int) (l:List Entry) (n:Note):List Entry:=if Jih s n then JfH l n.path else l
def JeI (s:Int) (l:List Entry) (ns:List Note):List Entry:=ns.foldl (Jf1 s) l
theorem Jl8 {s:Int} {l:List Entry} {ns:List Note} {k:Nat} {n:Note} (h:ns[k]?=some n):JeI s l (ns.take (k+1))=Jf1 s (JeI s l (ns.take k)) n:=by
 unfold JeI;rw [zF7,h];simp
theorem tellL_is {s:Int} {l:List Entry} (h:JbO l) (ns:List Note):JbO (JeI s l ns)/\∀ y,y∈JeI s l ns↔y∈l/\∀ n∈ns,Jih s n=true->y.path≠n.path:=by
 unfold JeI
 induction ns generalizing l with
 | nil=>exact ⟨h,fun y=>by simp⟩
 | cons n ns ih=>
  rw [zJ3];cases hh:Jih s n with
  | false=>
   have e:Jf1 s l n=l:=by unfold Jf1; rw [hh]; rfl
   rw [e];obtain ⟨h1,h2⟩:=ih h;refine ⟨h1,fun y=>?_⟩
   rw [h2];simp [hh]
  | true=>
   have e:Jf1 s l n=JfH l n.path:=by unfold Jf1; rw [hh]; rfl
   rw [e];obtain ⟨h1,h2⟩:=ih (JjD h n.path);refine ⟨h1,fun y=>?_⟩
   rw [h2,Jn6 h];simp [hh,and_assoc]
theorem Jf0 (s:Int) (l:List Entry) (ns:List Note):(JeI s l ns).length<=l.length:=by
 unfold JeI
 induction ns generalizing l with
 | nil=>exact zA3 _
 | cons n ns ih=>
  rw [zJ3];refine zB5 (ih _) ?_;unfold Jf1;split
  ·exact (JjC _ _).length_le
  ·exact zA3 _
theorem clTell (s n:Int) (v v2:Value) (l:List Entry) (ns:List Note) (w:World) (h:Sl Jae 3 w v l) (h2:Sl JbZ 3 w v2 ns) (hn:l.length*40<=140737488355328) (hm:ns.length<=140737488355328) :
    Calls Tryz.prog 115 #[.agg #[.int .i64 s,.int .i64 n,v],v2] w (ClIs s n (JeI s l ns) w):=by
  obtain ⟨A,c,rfl,hc1,hc2⟩:=h.form
  obtain ⟨A2,c2,rfl,hc3,hc4⟩:=h2.form
  have H:=zA0 h
  have H2:=zA0 h2
  have HLE:=zA0 (fun k=>Jf0 s l (ns.take k))
  have hll:l.length<=140737488355328:=qCE
  clear h h2
  go_enter Tryz.func115,Tryz.ntmps115
  go_wp2_with fail
  refine (Jd3 _ _ _ l _ ((H.out.alloc _).alloc _) hn qs0).mono ?_
  rintro e w1 ⟨A1,c1,rfl,ho1,hb1⟩
  obtain ⟨ext,d,rfl⟩:=zA2 _ hb1
  have HO1:=zA0 ho1
  clear hb1 ho1
  go_wp2_with fail
  go_loopw [13] (fun i wr=>∃ (k m:Nat) (A':Option Addr) (c':Nat) (ext:Array Obj) (d:Nat),k<=ns.length/\i=.int .i64 k/\wr=grow ((w.alloc (.cells #[.int .i64 s,.int .i64 n,.slice A' m c'] 51)).alloc (.cells #[.int .i64 0,.int .i64 0,.slice none 0 0] 51)) ext d/\m<=l.length/\c'<=9223372036854775807/\
     Hid (m=(JeI s l (ns.take k)).length/\Ow Jae 3 83 wr (w.heap.size+1+1) (.slice A' m c') (JeI s l (ns.take k)))) (fun i _=>ns.length - (intOf i).toNat)
  case atStart=>exact ⟨0,l.length,A1,c1,_,_,zB9 _,rfl,rfl,zA3 _,zB5 HO1.out.sl.cap_le (zH1 rfl),zA0 ⟨rfl,(HO1.out.regrow (zA3 _) qI1).mono qI1⟩⟩
  case round=>
    obtain ⟨k,m,A',c',ext2,d2,hk,rfl,rfl,hml,hcm,ho⟩:=hrel
    by_cases hlt:k<ns.length
    · have hx:ns[k]?=some (ns[k]'hlt):=zA8 _
      obtain ⟨b,off,rfl,hbw,x0,x1,x2⟩:=H2.out.Note_at hx
      have HSU:=zA0 (Jl8 (s:=s) (l:=l) hx)
      generalize ns[k]'hlt=x at *
      generalize hL:JeI s l (ns.take k)=L at *
      clear hx hL
      by_cases hs:x.session=s
      · by_cases h4:x.kind=4
        · have hh:Jih s x=false:=by simp [Jih,h4]
          have HH:=zA0 hh
          clear hh
          go_wp2_with fail
          go_roundw
          case rel=>exact ⟨k+1,m,A',c',_,_,by omega,by go_num,Jav zL,hml,hcm,zA0 (by rw [HSU.out,Jf1,HH.out]; exact ⟨ho.out.1,ho.out.2.below zL⟩)⟩
          case measure=>simp [intOf]; omega
        · have hh:Jih s x=true:=by simp [Jih,h4,hs]
          have HH:=zA0 hh
          have HG:Hid (Jf1 s L x=JfH L x.path):=zA0 (by rw [Jf1,hh]; rfl)
          have hfind:=fun (W:World) (v:Value) (hv:Sl Jae 3 W v L)=>Jo9 s n v L x.path W hv (by have:=ho.out.1; omega)
          cases hik:isK (L.map Entry.path) x.path with
          | false=>
            rw [hik] at hfind
            have HF:=zA0 hfind
            have HGL:Hid (JfH L x.path=L):=zA0 (by unfold JfH; rw [hik]; rfl)
            generalize posK (L.map Entry.path) x.path=q at *
            clear hfind hik hh
            go_wp2_with (first | (go_at_call 44; refine zc (HF.out _ _ (ho.out.2.sl.below zL)) (fun ext3 d3=>?_)))
            go_roundw
            case rel=>exact ⟨k+1,m,A',c',_,_,by omega,by go_num,Jav zL,hml,hcm,zA0 (by rw [HSU.out,HG.out,HGL.out]; exact ⟨ho.out.1,ho.out.2.below zL⟩)⟩
            case measure=>simp [intOf]; omega
          | true=>
            rw [hik] at hfind
            have HF:=zA0 hfind
            have hqk:=(is_at hik).1
            have HGL:Hid (JfH L x.path=L.take (posK (L.map Entry.path) x.path) ++ L.drop (posK (L.map Entry.path) x.path+1)):=zA0 (by unfold JfH; rw [hik]; rfl)
            generalize posK (L.map Entry.path) x.path=q at *
            clear hfind hik hh
            have HQ:=zA0 hqk
            have hqb:q<=140737488355328:=by have:=ho.out.1; omega
            clear hqk
            go_wp2_with (first | (go_at_call 44; refine zc (HF.out _ _ (ho.out.2.sl.below zL)) (fun ext3 d3=>?_)))
            refine (delEntry A' m c' q L _ _ (ho.out.2.below zL) HQ.out hcm).mono ?_
            rintro e w4 ⟨rfl,hd⟩
            have hb4:Below ((w.alloc (.cells #[.int .i64 s,.int .i64 n,.slice A' m c'] 51)).alloc (.cells #[.int .i64 0,.int .i64 0,.slice none 0 0] 51)).heap.size ((w.alloc (.cells #[.int .i64 s,.int .i64 n,.slice A' m c'] 51)).alloc (.cells #[.int .i64 0,.int .i64 0,.slice none 0 0] 51)) w4:=
              Below.grown zL hd.out.2 qB1 (fun g hg=>by have:=(Ow.own_in ho.out.2 hg).1; simpa using this)
            have HD:=zA0 hd.out.1
            obtain ⟨ext5,d5,rfl⟩:=zA2 _ hb4
            have hgl:(L.take q ++ L.drop (q+1)).length=m - 1:=by rw [zA9,zC2,zE5]; have:=HQ.out; have:=ho.out.1; omega
            have HGN:=zA0 hgl
            clear hb4 hd hgl
            go_wp2_with fail
            go_roundw
            case rel=>exact ⟨k+1,m - 1,A',c',_,_,by omega,by go_num,rfl,by omega,hcm,zA0 (by rw [HSU.out,HG.out,HGL.out]; exact ⟨HGN.out.symm,HD.out.regrow qI1 qI1⟩)⟩
            case measure=>simp [intOf]; omega
      · have hh:Jih s x=false:=by simp [Jih,hs]
        have HH:=zA0 hh
        clear hh
        go_wp2_with fail
        go_roundw
        case rel=>exact ⟨k+1,m,A',c',_,_,by omega,by go_num,Jav zL,hml,hcm,zA0 (by rw [HSU.out,Jf1,HH.out]; exact ⟨ho.out.1,ho.out.2.below zL⟩)⟩
        case measure=>simp [intOf]; omega
    · have hk':k=ns.length:=by omega
      subst hk'
      rw [zG1] at ho
      go_wp2_with fail
      refine zA1 (v:=.agg #[.int .i64 s,.int .i64 n,.slice A' m c']) (by simp [results,Tryz.results115,go_sem]) rfl ⟨A',c',by rw [ho.out.1],?_,zL⟩
      rw [<-ho.out.1]
      exact (ho.out.2.regrow qI1 qI1).mono qH1
end
end Go.Proofs.YtjnooagaghdkdaaGreatDoor
