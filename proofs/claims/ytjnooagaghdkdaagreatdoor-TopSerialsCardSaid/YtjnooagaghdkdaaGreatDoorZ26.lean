/-L-/
import Derived.Test.YtjnooagaghdkdaaGreatDoorZ8
import Derived.Test.YtjnooagaghdkdaaGreatDoorZ18
import Derived.Test.YtjnooagaghdkdaaGreatDoorZ25
set_option maxHeartbeats 10000000
set_option maxRecDepth 100000
set_option linter.all false
namespace Go.Proofs.YtjnooagaghdkdaaGreatDoor
section
open Go.RowKit Go.ChangeShapes Go.WideShapes Go.ChangeAt
def Tab (W : World) : Prop := Lib.TabIs Tryz.prog W "internal/strconv.uint64pow10" .u64 Lib.pow10Tab ∧ ∃ g, Tryz.prog.globalNamed "internal/strconv.uint64pow10" = some g
theorem Tab.below {w w':World} (h:Tab w) (hb:Below w.heap.size w w'):Tab w':=by
 obtain ⟨h1,g,hg⟩:=h;exact ⟨Joins.tab_stays hg h1 hb (zA3 _),g,hg⟩
theorem Jkf {z:Int} (h:Zx z):(Jck z).size<=21:=by
 unfold Zx at h;unfold Jck;have s1:=Je0 (u:=z / 2147483648) qH1 qH1;have s2:=Je0 (u:=z % 2147483648) qH1 qH1;rw [zI3,zI3];have:(⟨#[46]⟩:ByteArray).size=1:=rfl;omega
abbrev epT (ep:Int):ByteArray:=Jck (ep*2147483648)
theorem JfN {ep:Int} (h:Half ep):(epT ep).size<=21:=Jkf (by unfold Half at h; unfold Zx; omega)
theorem Jb4 {q:Option (ByteArray × ByteArray)} {a b:ByteArray} (hq:Jdv q<=1048576) (h:a.size+b.size<=1048576):∀ x∈dskB q a b,x.sized:=fun x hx=>(Jdl (Jcy hq h) x hx).1
theorem Ji8 (v:Value) (q:Option (ByteArray × ByteArray)) (a b:ByteArray) (ep:Int) (w:World) (h:Sl Jaa 3 w v (dskB q a b)) (hep:Half ep) (hq:Jdv q<=1048576) (hz:a.size+b.size<=1048576) (ht:Tab w) :
  Calls Tryz.prog 112 #[.agg #[v],.int .i64 ep] w (Jg6 (dskB (some (Jck (ep*2147483648),noB)) a b) 0 w):=by
 obtain ⟨A,c,rfl,hc1,hc2⟩:=h.form;have H:=zA0 h;have HM:=zA0 (fun (W:World)=>by
  have h1:=JhP ep 0 W hep ⟨by decide,by decide⟩
  rw [Int.add_zero] at h1;exact h1)
 have HX:=zA0 (fun (W:World) (hb:Below w.heap.size w W)=>by
  obtain ⟨h1,g,hg⟩:=ht.below hb;exact text_yes (ep*2147483648) W (by unfold Half at hep; unfold Zx; omega) h1 g hg)
 have hs:(Jck (ep*2147483648)).size<=21:=JfN hep;have HW:=zA0 (fun (W:World) (v:Value) (h:Sl Jaa 3 W v (dskB none a b))=>by
  have h1:=JkM v (dskB none a b) epN (Jck (ep*2147483648)) W h (Jb4 qG1 hz) qG1 qH1;have h2:=ep_write (a:=a) (b:=b) (s:=Jck (ep*2147483648)) hz qH1;rw [h2.1,h2.2] at h1;exact h1)
 have HS:=zA0 (fun (W:World) (v:Value) (h:Sl Jaa 3 W v (dskB (some (noB,Jck (ep*2147483648))) a b))=>by
  have hq1:noB.size+(Jck (ep*2147483648)).size<=1048576:=by show 0+_<=_; omega
  have h1:=dkSync v (dskB (some (noB,Jck (ep*2147483648))) a b) epN W h (Jb4 hq1 hz);have h2:=ep_sync (s:=noB) (t:=Jck (ep*2147483648)) hq1 hz;rw [h2.1,h2.2,Jh4] at h1;exact h1)
 have HR:=zA0 (fun (W:World) (v:Value) (h:Sl Jaa 3 W v (dskB q a b))=>by
  have h1:=dkRemove v (dskB q a b) epN W h (Jb4 hq hz);exact h1)
 clear ht h;cases q with
 | none=>
  have hr:=JoA (a:=a) (b:=b) hz;rw [hr] at HR;generalize Jde (dskB none a b) epN=rl at *;generalize dskB none a b=D at *;generalize dskB (some (noB,Jck (ep*2147483648))) a b=D1 at *;generalize dskB (some (Jck (ep*2147483648),noB)) a b=D2 at *;generalize Jck (ep*2147483648)=tx at *;clear hr hep hq hz;go_enter Tryz.func112,Tryz.ntmps112
  go_wp2_with (first | (go_at_call 94; refine (HM.out _).mono ?_; rintro e w1 ⟨rfl,rfl⟩; skip) | (go_at_call 148; refine (HX.out _ zR).mono ?_; rintro e w1 ⟨rfl,hb1⟩; obtain ⟨ext1,d1,rfl⟩:=zA2 _ hb1; clear hb1 HX) | (go_at_call 149; refine (HR.out _ _ (H.out.below zR)).mono ?_; rintro e w1 ⟨A2,k2,rfl,ho2,hb2⟩; obtain ⟨ext2,d2,rfl⟩:=zA2 _ hb2; clear ho2 hb2 HR) | (go_at_call 67; (with_reducible refine (HW.out _ _ ?hwl).mono ?_); (case hwl=>exact H.out.below zR); rintro e w1 ⟨A3,k3,rfl,ho3,hb3⟩; obtain ⟨ext3,d3,rfl⟩:=zA2 _ hb3; have HO3:=zA0 ho3; clear ho3 hb3 HW) | (go_at_call 141; (with_reducible refine (HS.out _ _ ?hsl).mono ?_); (case hsl=>(refine Ow.sl (Ow.moved (W':=?w1) (d':=?x1) HO3.out (zA3 _) ?b1 ?z1); (case b1=>exact zR); (case z1=>simp))); rintro e w1 ⟨A4,k4,rfl,ho4,hb4⟩; obtain ⟨ext4,d4,rfl⟩:=zA2 _ hb4; have HO4:=zA0 ho4; clear ho4 hb4 HS));refine zA1 (v:=.tuple #[.agg #[.slice A4 D2.length k4],.int .i64 0]) (by simp [results,Tryz.results112,go_sem]) rfl ⟨A4,k4,rfl,?_,zR⟩
  refine Ow.mono (Ow.moved (W':=?w9) (d':=?x9) HO4.out (zA3 _) ?b9 ?z9) qy0
  case b9=>exact zR
  case z9=>simp
 | some q=>
  obtain ⟨s,t⟩:=q;have hr:=(Jip (s:=s) (t:=t) hq hz).1;have hrm:=Joz (s:=s) (t:=t) hq hz;rw [hr,hrm] at HR;generalize dskB none a b=D at *;generalize dskB (some (s,t)) a b=D0 at *;generalize dskB (some (noB,Jck (ep*2147483648))) a b=D1 at *;generalize dskB (some (Jck (ep*2147483648),noB)) a b=D2 at *;generalize Jck (ep*2147483648)=tx at *;clear hr hrm hep hq hz;go_enter Tryz.func112,Tryz.ntmps112
  go_wp2_with (first | (go_at_call 94; refine (HM.out _).mono ?_; rintro e w1 ⟨rfl,rfl⟩; skip) | (go_at_call 148; refine (HX.out _ zR).mono ?_; rintro e w1 ⟨rfl,hb1⟩; obtain ⟨ext1,d1,rfl⟩:=zA2 _ hb1; clear hb1 HX) | (go_at_call 149; refine (HR.out _ _ (H.out.below zR)).mono ?_; rintro e w1 ⟨A2,k2,rfl,ho2,hb2⟩; obtain ⟨ext2,d2,rfl⟩:=zA2 _ hb2; have HO2:=zA0 ho2; clear ho2 hb2 HR) | (go_at_call 67; (with_reducible refine (HW.out _ _ ?hwl).mono ?_); (case hwl=>(refine Ow.sl (Ow.moved (W':=?w2) (d':=?x2) HO2.out (zA3 _) ?b2 ?z2); (case b2=>exact zR); (case z2=>simp))); rintro e w1 ⟨A3,k3,rfl,ho3,hb3⟩; obtain ⟨ext3,d3,rfl⟩:=zA2 _ hb3; have HO3:=zA0 ho3; clear ho3 hb3 HW) | (go_at_call 141; (with_reducible refine (HS.out _ _ ?hsl2).mono ?_); (case hsl2=>(refine Ow.sl (Ow.moved (W':=?w3) (d':=?x3) HO3.out (zA3 _) ?b3 ?z3); (case b3=>exact zR); (case z3=>simp))); rintro e w1 ⟨A4,k4,rfl,ho4,hb4⟩; obtain ⟨ext4,d4,rfl⟩:=zA2 _ hb4; have HO4:=zA0 ho4; clear ho4 hb4 HS));refine zA1 (v:=.tuple #[.agg #[.slice A4 D2.length k4],.int .i64 0]) (by simp [results,Tryz.results112,go_sem]) rfl ⟨A4,k4,rfl,?_,zR⟩
  refine Ow.mono (Ow.moved (W':=?w8) (d':=?x8) HO4.out (zA3 _) ?b8 ?z8) qy0
  case b8=>exact zR
  case z8=>simp
theorem JhD {f:List File} (h:JaW f epN≠0):Jce f=0:=by unfold Jce; rw [if_neg h]
def LogP (m:List Txn):Prop:=Jez m/\∀ t∈m,1<=t.zxid
theorem Sl.caps {α:Type} {f:α->List Value} {s:Nat} {w:World} {A:Option Addr} {n c:Nat} {l:List α} (h:Sl f s w (.slice A n c) l):l.length<=c/\c<=maxLen:=by
 obtain ⟨_,_,e,h1,h2⟩:=h.form;injection e with _ _ e3
 rw [e3];exact ⟨h1,h2⟩
theorem Sl.tail {α:Type} {f:α->List Value} {s:Nat} {w:World} {b off n c o:Nat} {x:α} {r:List α} (h:Sl f s w (.slice (some ⟨b,off,none⟩) n c) (x :: r)) (hn:n=r.length+1) {m k:Nat} (hm:m=r.length) (hk:c=k+1) (ho:o=off+s):Sl f s w (.slice (some ⟨b,o,none⟩) m k) r:=by
 subst hm hk ho;obtain ⟨A,c',he,h1,h2,h3,h4⟩:=h;injection he with e1 e2 e3
 subst e3;simp only [zH8,zD5,zG0] at h1 h4;obtain ⟨b',off',hA,hb,hc⟩:=h4 qH1;rw [hA] at e1;injection e1 with e1
 injection e1 with e4 e5
 subst e4 e5;refine ⟨some ⟨b,off+s,none⟩,k,by simp,by simp; omega,by omega,fun y hy=>h3 y (by simp only [zH8]; exact zF2 _ hy),fun _=>⟨b,off+s,rfl,hb,fun i y hy j u hu=>?_⟩⟩
 have:=hc (i+1) y (by simpa using hy) j u hu
 rw [show off+s+i*s+j=off+(i+1)*s+j from by rw [Nat.succ_mul]; omega]
 exact this
def comK:List Txn->List Txn->Nat
 | x :: a,y :: b=>if x.zxid=y.zxid then comK a b+1 else 0
 | _,_=>0
theorem JdI:∀ (a b:List Txn),comK a b<=a.length/\comK a b<=b.length
 | x :: a,y :: b=>by
  have:=JdI a b;unfold comK;simp only [zD5];split <;> omega
 | [],_=>by simp [comK]
 | _ :: _,[]=>by simp [comK]
theorem JgW:∀ (a b:List Txn) (i:Nat) (x y:Txn),i<comK a b->a[i]?=some x->b[i]?=some y->x.zxid=y.zxid
 | u :: a,v :: b,i,x,y,h,hx,hy=>by
  unfold comK at h;split at h
  ·cases i with
   | zero=>simp at hx hy; subst hx hy; assumption
   | succ i=>exact JgW a b i x y qH1 (by simpa using hx) (by simpa using hy)
  ·omega
 | [],_,_,_,_,h,_,_=>by simp [comK] at h
 | _ :: _,[],_,_,_,h,_,_=>by simp [comK] at h
theorem JjX:∀ (a b:List Txn) (x y:Txn),a[comK a b]?=some x->b[comK a b]?=some y->x.zxid≠y.zxid
 | u :: a,v :: b,x,y,hx,hy=>by
  unfold comK at hx hy;split at hx
  ·rename_i h
   rw [if_pos h] at hy;exact JjX a b x y (by simpa using hx) (by simpa using hy)
  ·rename_i h
   rw [if_neg h] at hy;simp at hx hy;subst hx hy;exact h
 | [],_,x,y,hx,_=>by simp at hx
 | _ :: _,[],x,y,_,hy=>by simp at hy
theorem Jd2 {a b:List Txn} {k:Nat} (hk:k<=comK a b) (h:¬ k<a.length\/¬ k<b.length\/∃ x y,a[k]?=some x/\b[k]?=some y/\x.zxid≠y.zxid):k=comK a b:=by
 have hl:=JdI a b;rcases zD1 k (comK a b) with hlt | hge
 ·exfalso
  rcases h with h | h | ⟨x,y,hx,hy,hne⟩
  ·omega
  ·omega
  ·exact hne (JgW a b k x y hlt hx hy)
 ·omega
theorem Jo1 {a b:List Txn} {k:Nat} (hk:k<=comK a b) {x y:Txn} (hx:a[k]?=some x) (hy:b[k]?=some y) (he:x.zxid=y.zxid):k+1<=comK a b:=by
 rcases zD1 k (comK a b) with hlt | hge
 ·omega
 ·exfalso
  obtain rfl:k=comK a b:=qCE;exact JjX a b x y hx hy he
def JeY (l:List Txn) (k:Nat):Int:=if k=0 then -1 else match l[k - 1]? with | some t=>t.zxid | none=>-1
theorem Jca {m:List Txn} (h:LogP m) {i j:Nat} {x y:Txn} (hij:i<j) (hx:m[i]?=some x) (hy:m[j]?=some y):x.zxid<y.zxid:=by
 obtain ⟨h1,rfl⟩:=zB3.1 hx;obtain ⟨h2,rfl⟩:=zB3.1 hy;exact zJ4.1 h.1.2 i j h1 h2 hij
theorem upZ_com {l m:List Txn} (_hl:LogP l) (hm:LogP m):upZ (JeY l (comK l m)) m=m.take (comK l m):=by
 have hle:=JdI l m;refine Jne hle.2 (fun t ht=>?_) ?_
 ·obtain ⟨i,hi⟩:=zF0.1 ht
  rw [zM7] at hi;split at hi
  ·rename_i hik
   unfold JeY;rw [if_neg qH1];have hx:=zA8 (l:=l) (i:=comK l m - 1) qH1;have hy:=zA8 (l:=m) (i:=comK l m - 1) qH1;have he:=JgW l m _ _ _ qH1 hx hy;rw [hx];simp only;rw [he];rcases zD1 i (comK l m - 1) with h | h
   ·exact Int.le_of_lt (Jca hm h hi hy)
   ·obtain rfl:i=comK l m - 1:=by omega
    rw [hy] at hi;injection hi with hi
    rw [hi];exact zD6 _
  ·cases hi
 ·rcases zD1 (comK l m) m.length with h | h
  ·have hz:=zA8 h
   refine .inr ⟨_,hz,?_⟩;unfold JeY
   by_cases h0:comK l m=0
   ·rw [if_pos h0]
    have:=hm.2 _ (zD3 hz);omega
   ·rw [if_neg h0]
    have hx:=zA8 (l:=l) (i:=comK l m - 1) qH1;have hy:=zA8 (l:=m) (i:=comK l m - 1) qH1;have he:=JgW l m _ _ _ qH1 hx hy;have:=Jca hm (i:=comK l m - 1) (j:=comK l m) qH1 hy hz;rw [hx];simp only;omega
  ·exact .inl qH1
theorem rec_dsk {q:Option (ByteArray × ByteArray)} {A B:ByteArray} {m L:List Txn} {d:List File} {c:Int} (hq:Jdv q<=1048576) (hz:A.size+B.size<=1048576) (hb:bs (A ++ B)=recs m) (hm:Jez m) (h:JdQ (dskB q A B) L d c):c=0/\L=m/\d=dskB q (bS (recs m)) noB:=by
 have hrd:=Jcf (a:=A) (b:=B) hq hz;rcases h with ⟨h1,_⟩ | ⟨_,h2,_⟩ | ⟨_,h2,n,h3,h4⟩
 ·rw [hrd.1] at h1
  exact absurd h1 qG1
 ·exact absurd hrd.1 h2
 ·rw [hrd.2,hb] at h3
  obtain ⟨rfl,rfl⟩:=Ji3 h3 (JnH hm);refine ⟨h2,rfl,?_⟩;have hsz:(A ++ B).size=(recs L).length:=by rw [<-zC1,hb]
  have:=(Je8 (a:=A) (b:=B) hq hz (n:=(recs L).length) (by rw [hsz]; exact zA3 _)).2
  rw [h4,this];congr 1;apply Jbs;rw [JaC,zJ1,hb,Jb2,zG1]
theorem keep_dsk {q:Option (ByteArray × ByteArray)} {A B:ByteArray} {m l:List Txn} {f':List File} {e:Int} (hq:Jdv q<=1048576) (hz:A.size+B.size<=1048576) (hb:bs (A ++ B)=recs m) (hl:LogP l) (hm:LogP m) (h:KeepIs (dskB q A B) (JeY l (comK l m)) f' e):e=0/\f'=dskB q (bS (recs (m.take (comK l m)))) noB:=by
 obtain ⟨L,d,c,hr,hc⟩:=h;obtain ⟨rfl,rfl,rfl⟩:=rec_dsk hq hz hb hm.1 hr;rcases hc with ⟨h,_⟩ | ⟨_,rfl,rfl⟩
 ·exact absurd rfl h
 ·have hsz:(bS (recs L)).size+noB.size<=1048576:=by
   rw [JaN,<-hb,zC1,zI3];show _+0<=_;omega
  have hk:Jjo (JeY l (comK l L)) L=(recs (L.take (comK l L))).length:=by unfold Jjo; rw [upZ_com hl hm]
  have hle:=JcC L (comK l L);rw [hk];have:=Je8 (q:=q) (a:=bS (recs L)) (b:=noB) hq hsz (n:=(recs (L.take (comK l L))).length) (by rw [Jcj,JaN]; exact hle)
  refine ⟨this.1,this.2.trans ?_⟩;congr 1;apply Jbs;rw [JaC,zJ1,Jcj,Jb2,Jb2];have e:recs L=recs (L.take (comK l L)) ++ recs (L.drop (comK l L)):=by rw [<-JaR,zD7]
  conv=>lhs; rw [e]
  rw [List.take_left' rfl]
theorem app_dsk {q:Option (ByteArray × ByteArray)} {m:List Txn} {t:Txn} (hq:Jdv q<=1048576) (ht:Jat t=0) (h:(recs (m ++ [t])).length<=1048576):appL (dskB q (bS (recs m)) noB) t true=dskB q (bS (recs (m ++ [t]))) noB/\appE (dskB q (bS (recs m)) noB) t true=0:=by
 have he:encR t=bS (recT t):=if_pos ht;rw [JaR,Jdf,zA9] at h;have hz:(bS (recs m)).size+(noB ++ bS (recT t)).size<=1048576:=by
  rw [Jh4,JaN,JaN]; exact h
 have hw:=JhG (q:=q) (a:=bS (recs m)) (b:=noB) (s:=bS (recT t)) hq (by rw [JaN (recs m),JaN (recT t)]; show _+0+_<=_; omega)
 unfold appL appE;rw [if_pos ht,if_pos ht,he,hw.1,hw.2,if_pos ⟨rfl,rfl⟩,if_pos ⟨rfl,rfl⟩,JjM hq hz,(Jcf hq hz).1,Jh4,Ji9];exact ⟨rfl,rfl⟩
def folM (l m:List Txn) (j:Nat):List Txn:=m.take (comK l m) ++ (l.drop (comK l m)).take j
theorem fol_last {l m:List Txn} (hl:LogP l) (_hm:LogP m) {j:Nat} {x:Txn} (hx:l[comK l m+j]?=some x):Jao (folM l m j)<x.zxid:=by
 have hle:=JdI l m;have h1:=hl.2 _ (zD3 hx);have hk:=(zB3.1 hx).1;unfold folM;rcases zK3 j with rfl | hj
 ·rw [zP0,zE9]
  rcases zK3 (comK l m) with h0 | h0
  ·rw [h0,zP0,Jcb]; omega
  ·have hy:=zA8 (l:=m) (i:=comK l m - 1) qH1
   have hy2:=zA8 (l:=l) (i:=comK l m - 1) qH1;have e:m.take (comK l m)=m.take (comK l m - 1) ++ [m[comK l m - 1]'qH1]:=by
    have:=zF7 (l:=m) (i:=comK l m - 1);rw [hy,show comK l m - 1+1=comK l m from by omega] at this
    exact this
   rw [e,Jcs,<-JgW l m _ _ _ qH1 hy2 hy];exact Jca hl qH1 hy2 hx
 ·have hy:l[comK l m+(j - 1)]?=some (l[comK l m+(j - 1)]'qH1):=zA8 _
  have e:(l.drop (comK l m)).take j=(l.drop (comK l m)).take (j - 1) ++ [l[comK l m+(j - 1)]'qH1]:=by
   have:=zF7 (l:=l.drop (comK l m)) (i:=j - 1);rw [zF3,hy,show j - 1+1=j from by omega] at this
   exact this
  rw [e,<-zC0,Jcs];exact Jca hl qH1 hy hx
theorem Jim {l m:List Txn} {j:Nat} {x:Txn} (hx:l[comK l m+j]?=some x):folM l m j ++ [x]=folM l m (j+1):=by
 unfold folM;rw [zF7,zF3,hx,zC0];rfl
theorem fol_mem {l m:List Txn} {j:Nat} {t:Txn} (ht:t∈folM l m j):t∈m\/t∈l:=by
 unfold folM at ht;rcases zE7.1 ht with h | h
 ·exact .inl (zH7 h)
 ·exact .inr (zL0 (zH7 h))
theorem Jou (l m:List Txn) (j:Nat):(folM l m j).length<=m.length+l.length:=by
 unfold folM;rw [zA9,zC2,zC2,zE5];omega
theorem JlD {l m:List Txn} (hl:LogP l) (hm:LogP m) (h1:l.length<=400) (h2:m.length<=400) (j:Nat):(recs (folM l m j)).length<=824800:=by
 have:=(JdW (l:=folM l m j) (fun t ht=>(fol_mem ht).elim (fun h=>hm.1.1 t h) (fun h=>hl.1.1 t h))).1
 have:=Jou l m j;omega
theorem JmD {l m:List Txn} {j:Nat} (hj:comK l m+j<=l.length):(folM l m j).length=comK l m+j:=by
 have:=JdI l m;unfold folM;rw [zA9,zC2,zC2,zE5];omega
structure SrvOk (s:Srv) (q:Option (ByteArray × ByteArray)) (A B:ByteArray):Prop where
 disk:s.disk=dskB q A B
 qs:Jdv q<=1048576
 log:bs (A ++ B)=recs s.log
 ok:LogP s.log
 len:s.log.length<=400
abbrev folS (s:Srv) (l:List Txn) (ep:Int) (j:Nat):Srv:={ s with disk:=dskB (some (epT ep,noB)) (bS (recs (folM l s.log j))) noB,epoch:=ep,log:=folM l s.log j }
theorem Sl.dropK {α:Type} {f:α->List Value} {s:Nat} {w:World} {b off n c:Nat} {l:List α} (h:Sl f s w (.slice (some ⟨b,off,none⟩) n c) l) {K:Nat} (hK:K<=l.length) (hn:n=l.length):Sl f s w (.slice (some ⟨b,off+K*s,none⟩) (n - K) (c - K)) (l.drop K):=by
 subst hn;obtain ⟨A,c',he,h1,h2,h3,h4⟩:=h;injection he with e1 e2 e3
 subst e3;simp only [zG0] at h1 h4;refine ⟨some ⟨b,off+K*s,none⟩,c - K,by simp,by simp; omega,by omega,fun y hy=>h3 y ?_,fun h0=>?_⟩
 ·rw [zO7] at hy
  exact zL0 hy
 ·obtain ⟨b',off',hA,hb,hc⟩:=h4 (by simp at h0; omega)
  rw [hA] at e1;injection e1 with e1
  injection e1 with e4 e5
  subst e4 e5;refine ⟨b,off+K*s,rfl,hb,fun i y hy j u hu=>?_⟩
  rw [zO7,zF3] at hy;have:=hc (K+i) y hy j u hu;rw [show off+K*s+i*s+j=off+(K+i)*s+j from by rw [Nat.add_mul]; omega]
  exact this
abbrev vFol (s:Srv) (ep:Int) (n:Nat) (v:SrvV):Value:=.agg #[.bool s.up,.slice v.da 2 v.dc,.int .i64 s.id,.int .i64 ep,.slice v.la n v.lc,.int .i64 s.done_,.int .i64 s.tz,.slice v.na s.nodes.length v.nc,.slice v.sa s.sess.length v.sc,.slice v.wa s.watches.length v.wc]
theorem Jka {s:Srv} {l:List Txn} {ep:Int} {j:Nat} (hj:comK l s.log+j<=l.length) (v:SrvV):vSrv (folS s l ep j) v=vFol s ep (comK l s.log+j) v:=by
 simp only [vSrv,JmD hj];rfl
def FolRes (p:Nat->Prop) (s:Srv) (l:List Txn) (ep:Int) (j n:Nat) (w:World) (e:Ending) (w':World):Prop:=∃ da dc la lc na nc sa sc wa wc,e=.returned (.tuple #[vFol s ep n ⟨da,dc,la,lc,na,nc,sa,sc,wa,wc⟩,.int .i64 0])/\SrvIn p w' (folS s l ep j) ⟨da,dc,la,lc,na,nc,sa,sc,wa,wc⟩/\Below w.heap.size w w'
theorem fol_take {s:Srv} {l:List Txn} {ep:Int} (hl:LogP l) (hm:LogP s.log) (h1:l.length<=400) (h2:s.log.length<=400) (hep:Half ep) {j:Nat} {x:Txn} (hx:l[comK l s.log+j]?=some x) (p:Nat->Prop) (v:SrvV) (w:World) (h:SrvIn p w (folS s l ep j) v) (hp:∀ q,p q->q<w.heap.size) :
  Calls Tryz.prog 72 #[vFol s ep (comK l s.log+j) v,vTxn x,.bool true] w (FolRes p s l ep (j+1) (comK l s.log+(j+1)) w):=by
 have hk:=(zB3.1 hx).1;have hg:Jat x=0:=hl.1.1 x (zD3 hx);have hq:Jdv (some (epT ep,noB))<=1048576:=by have:=JfN hep; show (epT ep).size+0<=_; omega
 have hs:=JlD hl hm h1 h2 (j+1);have ha:=app_dsk (q:=some (epT ep,noB)) (m:=folM l s.log j) hq hg (by rw [Jim hx]; omega)
 rw [Jim hx] at ha;have he:JiV (folS s l ep j) x true=0:=by
  unfold JiV;simp only;rw [if_neg (by have:=fol_last hl hm hx; omega)]
  exact ha.2
 have hS:Jcm (folS s l ep j) x true=folS s l ep (j+1):=by
  unfold Jcm;rw [if_pos he];simp only;rw [ha.1,Jim hx]
 have hsz:=JlD hl hm h1 h2 j;have h3:=JiW p (folS s l ep j) v x true w h hp (Jb4 hq qX0) (by have:=Jou l s.log j; simp only; omega) (JgE hg)
 rw [he,hS,Jka qH1] at h3;refine h3.mono fun e w' hh=>?_
 obtain ⟨⟨da,dc,la,lc,na,nc,sa,sc,wa,wc⟩,he,h4,h5⟩:=hh;exact ⟨da,dc,la,lc,na,nc,sa,sc,wa,wc,by rw [he,Jka qH1],h4,h5⟩
theorem SrvOk.size {s:Srv} {q:Option (ByteArray × ByteArray)} {A B:ByteArray} (h:SrvOk s q A B):A.size+B.size<=1048576:=by
 have h1:=congrArg List.length h.log;rw [zC1,zI3] at h1;have:=(JdW h.ok.1.1).1;have:=h.len;omega
theorem Jkh (p:Nat->Prop) (s:Srv) (v:SrvV) (u:Value) (l:List Txn) (ep:Int) (w:World) (q:Option (ByteArray × ByteArray)) (A B:ByteArray) (h:SrvIn p w s v) (hu:Sl cTxn 7 w u l) (hp:∀ q,p q->q<w.heap.size)
  (hs:SrvOk s q A B) (hl:LogP l) (hn:l.length<=400) (hep:Half ep) (ht:Tab w) (hd:s.done_<=comK l s.log) :
  Calls Tryz.prog 81 #[vSrv s v,u,.int .i64 ep] w (Jdu p (folS s l ep (l.length - comK l s.log)) 0 w):=by
 obtain ⟨LA,LC,rfl,hc1,hc2⟩:=hu.form;have HP:=zA0 hp;have HL:=zA0 hu;obtain ⟨up,disk,id,ep0,log,dn,tz,nodes,sess,wat⟩:=s;obtain ⟨da,dc,la,lc,na,nc,sa,sc,wa,wc⟩:=v;have hsz:=hs.size;obtain ⟨e1,hq,hlog,hok,hlen⟩:=hs;obtain ⟨hD,hG,hN,hS,hW⟩:=h;simp only at e1 hlog hok hlen hD hG hN hS hW hd;subst e1;have HD:=zA0 hD;have HG:Hid (Sl cTxn 7 w (.slice la log.length lc) log):=zA0 hG.1;have HN:=zA0 hN;have HS:=zA0 hS;have HW:=zA0 hW;have hcl:=JdI l log;have HK:=zA0 (fun (W:World) (h:Sl Jaa 3 W (.slice da (dskB q A B).length dc) (dskB q A B))=>(keep_any _ (dskB q A B) (JeY l (comK l log)) W h (Jb4 hq hsz)).mono (fun e w' hh=>show Jg6 (dskB q (bS (recs (log.take (comK l log)))) noB) 0 W e w' from by
  obtain ⟨B',k,f',code,he,hk,ho,hb⟩:=hh;obtain ⟨rfl,rfl⟩:=keep_dsk hq hsz hlog hl hok hk;exact ⟨B',k,he,ho,hb⟩))
 have hz2:(bS (recs (log.take (comK l log)))).size+noB.size<=1048576:=by
  rw [JaN];have:=JcC log (comK l log);have:=(JdW hok.1.1).1;show _+0<=_;omega
 have HR:=zA0 (fun (W:World) (v:Value) (h:Sl Jaa 3 W v (dskB q (bS (recs (log.take (comK l log)))) noB)) (ht:Tab W)=>Ji8 v q (bS (recs (log.take (comK l log)))) noB ep W h hep hq hz2 ht)
 have HT:=zA0 ht;generalize hK:comK l log=K at *;have HKK:=zA0 hK;generalize hD0:dskB q A B=D0 at *;clear hD hG hN hS hW hu hp hK hD0 ht;go_enter Tryz.func81,Tryz.ntmps81
 go_upto_block 0 with fail
 go_cut [8] (fun s8 wx=>∃ n,s8=.int .i64 (K:Nat)/\wx=((w.alloc (.cells #[.bool up,.slice da D0.length dc,.int .i64 id,.int .i64 ep0,.slice la log.length lc,.int .i64 dn,.int .i64 tz,.slice na nodes.length nc,.slice sa sess.length sc,.slice wa wat.length wc] 71)).alloc (.cells #[.bool false,.slice none 0 0,.int .i64 0,.int .i64 0,.slice none 0 0,.int .i64 0,.int .i64 0,.slice none 0 0,.slice none 0 0,.slice none 0 0] 71)).drewN n)
 case first=>
  clear HD HN HS HW HK HR HT hd hz2;go_wp2_with fail;go_loopw [8] (fun i wr=>∃ (k n:Nat),k<=K/\i=.int .i64 k/\wr=((w.alloc (.cells #[.bool up,.slice da D0.length dc,.int .i64 id,.int .i64 ep0,.slice la log.length lc,.int .i64 dn,.int .i64 tz,.slice na nodes.length nc,.slice sa sess.length sc,.slice wa wat.length wc] 71)).alloc (.cells #[.bool false,.slice none 0 0,.int .i64 0,.int .i64 0,.slice none 0 0,.int .i64 0,.int .i64 0,.slice none 0 0,.slice none 0 0,.slice none 0 0] 71)).drewN n) (fun i _=>K - (intOf i).toNat)
  case atStart=>exact ⟨0,0,zB9 _,rfl,rfl⟩
  case round=>
   obtain ⟨k,n,hk,rfl,rfl⟩:=hrel
   by_cases h1:k<l.length
   ·have hx:l[k]?=some (l[k]'h1):=zA8 _
    obtain ⟨b,off,rfl,hb,x0,_⟩:=HL.out.Txn_at hx
    by_cases h2:k<log.length
    ·have hy:log[k]?=some (log[k]'h2):=zA8 _
     obtain ⟨b2,off2,rfl,hb2,y0,_⟩:=HG.out.Txn_at hy
     by_cases h3:(l[k]'h1).zxid=(log[k]'h2).zxid
     ·have hgo:k+1<=K:=by rw [<-HKK.out]; exact Jo1 qo0 hx hy h3
      rw [h3] at x0;generalize (log[k]'h2).zxid=z at *;clear hx hy h3;go_wp2_with fail;go_quiet (fail);go_wp2_with fail;go_roundw
      case rel=>exact ⟨k+1,_,hgo,by go_num,rfl⟩
      case measure=>simp [intOf]; omega
     ·have hend:k=K:=by rw [<-HKK.out]; exact Jd2 qo0 (.inr (.inr ⟨_,_,hx,hy,h3⟩))
      have hne:((l[k]'h1).zxid == (log[k]'h2).zxid)=false:=zB7.2 h3;generalize (l[k]'h1).zxid=z1 at *;generalize (log[k]'h2).zxid=z2 at *;clear hx hy h3;subst hend;go_wp2_with fail;go_quiet (fail);go_wp2_with fail;go_meet;exact ⟨_,rfl,World.drewN_drewN _ _ _⟩
    ·have hend:k=K:=by rw [<-HKK.out]; exact Jd2 qo0 (.inr (.inl h2))
     subst hend;clear hx;go_wp2_with fail;go_quiet (fail);go_wp2_with fail;go_meet;exact ⟨_,rfl,World.drewN_drewN _ _ _⟩
   ·have hend:k=K:=by rw [<-HKK.out]; exact Jd2 qo0 (.inl h1)
    subst hend;go_wp2_with fail;go_quiet (fail);go_wp2_with fail;go_meet;exact ⟨_,rfl,World.drewN_drewN _ _ _⟩
 case rest=>
  obtain ⟨n,rfl,rfl⟩:=hcut;have hdn:decide ((K:Int)<dn)=false:=zA7 qH1;have hKL:K<=l.length:=hcl.1;have hKG:K<=log.length:=hcl.2;have HKZ:=zA0 (show JeY l K=JeY l K from rfl)
  have hlt1:(LC:Int)=(LC:Int):=rfl;clear hlt1;go_upto_if 50 with fail
  go_cut [9] (fun s9 wx=>∃ n,s9=.int .i64 (JeY l K)/\wx=((w.alloc (.cells #[.bool up,.slice da D0.length dc,.int .i64 id,.int .i64 ep0,.slice la log.length lc,.int .i64 dn,.int .i64 tz,.slice na nodes.length nc,.slice sa sess.length sc,.slice wa wat.length wc] 71)).alloc (.cells #[.bool false,.slice none 0 0,.int .i64 0,.int .i64 0,.slice none 0 0,.int .i64 0,.int .i64 0,.slice none 0 0,.slice none 0 0,.slice none 0 0] 71)).drewN n)
  case first=>
   clear HD HG HN HS HW HK HR HT hz2 HKZ;rcases zK3 K with h0 | h0
   ·have hz0:JeY l K = -1:=by unfold JeY; rw [if_pos h0]
    have hd0:decide (0<K)=false:=zA7 qH1;have HZ0:=zA0 hz0;clear hz0;subst h0;go_wp2_with fail;go_meet;exact ⟨_,by rw [HZ0.out],rfl⟩
   ·obtain ⟨j,rfl⟩:∃ j,K=j+1:=⟨K - 1,by omega⟩
    have hx:l[j]?=some (l[j]'qH1):=zA8 _;have hz0:JeY l (j+1)=(l[j]'qH1).zxid:=by unfold JeY; rw [if_neg qH1,Nat.add_sub_cancel,hx]
    obtain ⟨b,off,rfl,hb,x0,_⟩:=HL.out.Txn_at hx;generalize (l[j]'qH1).zxid=z at *;have HZ0:=zA0 hz0;have hwj:IntKind.i64.wrap ((j:Int)+1 - 1)=(j:Int):=qHE;have hjl:j<l.length:=qCE;clear hx hz0;go_wp2_with fail;go_meet;exact ⟨_,by rw [HZ0.out],rfl⟩
  case rest=>
   obtain ⟨n2,rfl,rfl⟩:=hcut;generalize JeY l K=z at *;generalize hFM:dskB q (bS (recs (log.take K))) noB=D1 at *;have HO:Hid (∀ j x,l[K+j]?=some x->∀ (p:Nat->Prop) (v:SrvV) (w:World),SrvIn p w (folS ⟨up,D0,id,ep0,log,dn,tz,nodes,sess,wat⟩ l ep j) v->(∀ q,p q->q<w.heap.size)->Calls Tryz.prog 72 #[vFol ⟨up,D0,id,ep0,log,dn,tz,nodes,sess,wat⟩ ep (K+j) v,vTxn x,.bool true] w (FolRes p ⟨up,D0,id,ep0,log,dn,tz,nodes,sess,wat⟩ l ep (j+1) (K+(j+1)) w)):=zA0 (fun j x hx p v w h hp=>by
    have h1:=fol_take (s:=⟨up,D0,id,ep0,log,dn,tz,nodes,sess,wat⟩) (l:=l) (ep:=ep) hl hok hn hlen hep (j:=j) (x:=x) (by simp only; rw [HKK.out]; exact hx) p v w h hp
    simp only [HKK.out] at h1;exact h1)
   have hKlc:K<=lc:=zB5 hcl.2 HG.out.caps.1;have htl:(log.take K).length=K:=by rw [zC2]; omega
   have HTL:=zA0 htl;have HGK:Hid (Sl cTxn 7 w (.slice la K lc) (log.take K)):=zA0 (by have hq:=HG.out.pre2 (List.take_prefix K log); rw [htl] at hq; exact hq)
   have hK4:K<=400:=qCE;clear htl;have hdl:(dskB (some (Jck (ep*2147483648),noB)) (bS (recs (List.take K log))) noB).length=2:=rfl;go_upto_region 17 with (first | (at_builtin; refine Jaf _ rfl (.const (.slice none 0 0)) (.tmp 86) _ rfl Jfr (B:=w.heap.size+1+1+ext1.size+1+ext2.size) (v:=.slice none 0 0) (xv:=.slice la K lc) (l:=[]) (m:=log.take K) rfl rfl (Ow.nil _ _ _ _ _) (HGK.out.below zR) JbY (by rw [HTL.out]; simp [maxLen]; omega) (by rw [HTL.out]; simp; omega) qy0 ?_; intro v3 w3 hown3 hg3 _; rw [zE0] at hown3; obtain ⟨A3,c3,he3,_⟩:=hown3.form; rw [HTL.out] at he3; subst he3; obtain ⟨ext3,d3,rfl⟩:=zA2 _ (Below.of_grown hg3); have HO3:=zA0 hown3; clear hown3 hg3) | (go_at_call 111; refine (HK.out _ (HD.out.1.below zR)).mono ?_; rintro e w1 ⟨A1,k1,rfl,ho1,hb1⟩; obtain ⟨ext1,d1,rfl⟩:=zA2 _ hb1; have HO1:=zA0 ho1; clear ho1 hb1 HK) | (go_at_call 112; (with_reducible refine (HR.out _ _ ?hr1 ?hr2).mono ?_); (case hr1=>(refine Ow.sl (Ow.moved (W':=?v1) (d':=?y1) HO1.out (zA3 _) ?c1 ?t1); (case c1=>exact zR); (case t1=>simp))); (case hr2=>exact HT.out.below zR); rintro e w1 ⟨A2,k2,rfl,ho2,hb2⟩; obtain ⟨ext2,d2,rfl⟩:=zA2 _ hb2; have HO2:=zA0 ho2; clear ho2 hb2 HR))
   refine Jax (fun W1 hW1=>?_)
   go_cut [92,93,94] (fun s92 s93 s94 wx=>∃ A' c',s92=.slice A' (l.length - K) c'/\s93=.int .i64 ((l.length - K:Nat):Int)/\s94=.int .i64 0/\Hid (Sl cTxn 7 w (.slice A' (l.length - K) c') (l.drop K))/\wx=W1)
   case first=>
    by_cases hKc:K=LC
    ·have hl0:l.length=K:=by omega
     have hdr:l.drop K=[]:=zQ2 qH1;have HDR:=zA0 hdr;have hK0:l.length - K=0:=qCE;have HK0:=zA0 hK0;have HL0:=zA0 hl0;clear hdr hK0 hW1 hl0;subst hKc;go_wp2_with fail;go_meet;exact ⟨LA,0,by rw [HK0.out],by rw [HK0.out]; rfl,rfl,zA0 (by rw [HK0.out,HDR.out]; exact Sl.empty _ _ _ _ (by simp [maxLen])),rfl⟩
    ·have hKc2:K<LC:=by omega
     clear hKc;cases LA with
     | none=>
      obtain rfl:=HL.out.none_nil;obtain rfl:K=0:=by simpa using hKL
      simp only [zG6] at *;go_wp2_with fail;go_meet;exact ⟨none,LC,rfl,rfl,rfl,zA0 (Sl.empty _ _ _ _ (by assumption)),rfl⟩
     | some a=>
      have hspot:∃ b off,a=⟨b,off,none⟩\/l=[]:=by
       rcases l with _ | ⟨x,r⟩
       ·exact ⟨0,0,.inr rfl⟩
       ·obtain ⟨b,off,hA,_⟩:=HL.out.at_ (i:=0) rfl
        injection hA with hA
        exact ⟨b,off,.inl hA⟩
      obtain ⟨b,off,hs⟩:=hspot;rcases hs with rfl | rfl
      ·have HSD:=zA0 (HL.out.dropK hKL rfl)
       clear hW1;go_wp2_with fail;go_meet;exact ⟨_,_,rfl,rfl,rfl,HSD,rfl⟩
      ·obtain rfl:K=0:=by simpa using hKL
       simp only [zG6] at *;clear hW1;go_wp2_with fail;go_meet;exact ⟨_,_,rfl,rfl,rfl,zA0 (Sl.empty _ _ _ _ (by first | assumption | (simp; done) | (simp; omega))),rfl⟩
   case rest=>
    obtain ⟨A',c',rfl,rfl,rfl,HSL,rfl⟩:=hcut;have hWW:=hW1.out;subst hWW;have HF0:Hid (folM l log 0=log.take K):=zA0 (by unfold folM; rw [HKK.out,zP0,zE9])
    clear HGK HG;generalize hM:l.length - K=M at *;have HMM:=zA0 hM;have hM4:M<=400:=qCE;clear hM;go_wp2_with fail;go_loopw [94] (fun i wr=>∃ (j:Nat) (da:Option Addr) (dc:Nat) (la:Option Addr) (lc:Nat) (na:Option Addr) (nc:Nat) (sa:Option Addr) (sc:Nat) (wa:Option Addr) (wc:Nat) (ext:Array Obj) (d:Nat),j<=M/\i=.int .i64 j/\
     wr=grow ((w.alloc (.cells #[.bool up,.slice da 2 dc,.int .i64 id,.int .i64 ep,.slice la (K+j) lc,.int .i64 dn,.int .i64 tz,.slice na nodes.length nc,.slice sa sess.length sc,.slice wa wat.length wc] 71)).alloc (.cells #[.bool false,.slice none 0 0,.int .i64 0,.int .i64 0,.slice none 0 0,.int .i64 0,.int .i64 0,.slice none 0 0,.slice none 0 0,.slice none 0 0] 71)) ext d/\
     Hid (SrvIn (fun q=>p q\/q=w.heap.size\/q=w.heap.size+1) wr (folS ⟨up,D0,id,ep0,log,dn,tz,nodes,sess,wat⟩ l ep j) ⟨da,dc,la,lc,na,nc,sa,sc,wa,wc⟩)) (fun i _=>M - (intOf i).toNat)
    case atStart=>
     refine ⟨0,A2,k2,A3,c3,na,nc,sa,sc,wa,wc,_,_,zB9 _,rfl,(by rw [zH9]; exact Jav zR),zA0 ⟨?_,?_,?_,?_,?_⟩⟩
     ·show SlA _ Jaa 3 _ (.slice A2 2 k2) (dskB (some (Jck (ep*2147483648),noB)) (bS (recs (folM l log 0))) noB)
      rw [HF0.out];refine Ow.sla (Ow.moved (W':=?w5) (d':=?x5) HO2.out (zA3 _) ?b5 ?z5) (fun q hq=>?_)
      case b5=>exact zR
      case z5=>simp
      rcases hq with hq | rfl | rfl
      ·exact zD0 (HP.out q hq) qB1
      ·simp; omega
      ·simp; omega
     ·show SlA _ cTxn 7 _ (.slice A3 (folM l log 0).length c3) (folM l log 0)
      rw [HF0.out,HTL.out];refine Ow.sla (B:=w.heap.size+1+1+ext1.size+1+ext2.size) (Ow.moved (W':=?w6) (d':=?x6) HO3.out ?c6 ?b6 ?z6) (fun q hq=>?_)
      case b6=>exact zR
      case z6=>simp
      case c6=>simp
      rcases hq with hq | rfl | rfl
      ·have:=HP.out q hq; omega
      ·omega
      ·omega
     ·exact (HN.out.more (p':=fun q=>p q\/q=w.heap.size\/q=w.heap.size+1) qC0).below zR
     ·exact (HS.out.more (p':=fun q=>p q\/q=w.heap.size\/q=w.heap.size+1) qC0).below zR
     ·exact (HW.out.more (p':=fun q=>p q\/q=w.heap.size\/q=w.heap.size+1) qC0).below zR
    case round=>
     obtain ⟨j,da2,dc2,la2,lc2,na2,nc2,sa2,sc2,wa2,wc2,ext,d,hj,rfl,rfl,hsv⟩:=hrel;clear HO1 HO2 HO3 HN HS HW HD HT;have HPW:Hid (∀ (W:World),w.heap.size+1+1<=W.heap.size->∀ q,(p q\/q=w.heap.size\/q=w.heap.size+1)->q<W.heap.size):=zA0 (fun W hW q hq=>by
      rcases hq with hq | rfl | rfl
      ·have:=HP.out q hq; omega
      ·omega
      ·omega)
     by_cases hlt:j<M
     ·have hx:l[K+j]?=some (l[K+j]'(by have:=HMM.out; omega)):=zA8 _
      have hx2:(l.drop K)[j]?=some (l[K+j]'(by have:=HMM.out; omega)):=by rw [zF3]; exact hx
      obtain ⟨b,off,rfl,hb,x0,x1,x2,x3,x4,x5,x6⟩:=HSL.out.Txn_at hx2;have HX:=zA0 (HO.out j _ hx);generalize l[K+j]'(by have:=HMM.out; omega)=x at *
      clear hx hx2;go_wp2_with (go_at_call 72; (with_reducible refine (HX.out (fun q=>p q\/q=w.heap.size\/q=w.heap.size+1) ⟨da2,dc2,la2,lc2,na2,nc2,sa2,sc2,wa2,wc2⟩ _ ?tk1 ?tk2).mono ?_); (case tk1=>exact hsv.out.below zR); (case tk2=>exact HPW.out _ qy0); rintro e w4 ⟨da3,dc3,la3,lc3,na3,nc3,sa3,sc3,wa3,wc3,rfl,h3,hb3⟩; obtain ⟨ext4,d4,rfl⟩:=zA2 _ hb3; have H3:=zA0 h3; clear h3 hb3)
      go_roundw
      case rel=>exact ⟨j+1,da3,dc3,la3,lc3,na3,nc3,sa3,sc3,wa3,wc3,_,_,by omega,by go_num,Jav zR,zA0 (H3.out.swap zS)⟩
      case measure=>simp [intOf]; omega
     ·have hjm:j=M:=by omega
      subst hjm;go_wp2_with fail;refine zA1 (v:=.tuple #[vFol ⟨up,D0,id,ep0,log,dn,tz,nodes,sess,wat⟩ ep (K+j) ⟨da2,dc2,la2,lc2,na2,nc2,sa2,sc2,wa2,wc2⟩,.int .i64 0]) (by simp [results,Tryz.results81,go_sem]) rfl ⟨⟨da2,dc2,la2,lc2,na2,nc2,sa2,sc2,wa2,wc2⟩,?_,(hsv.out.swap zS).more (fun q hq=>.inl (.inl hq)),zR⟩
      have hv:=Jka (s:=⟨up,D0,id,ep0,log,dn,tz,nodes,sess,wat⟩) (l:=l) (ep:=ep) (j:=j) (by simp only; rw [HKK.out]; have:=HMM.out; omega) ⟨da2,dc2,la2,lc2,na2,nc2,sa2,sc2,wa2,wc2⟩
      simp only [HKK.out] at hv;rw [hv]
end
section
open Go.RowKit
def playS (s:List Txn × Tr) (r:Request):List Txn × Tr:=
 if s.1.length<40/\Jbi s.2 (1+s.1.length) r=0 then (s.1 ++ [JaS s.2 (1+s.1.length) r],JaO s.2 (JaS s.2 (1+s.1.length) r)) else s
def runT (t:Tr) (m:List Txn):Tr:=m.foldl JaO t
def JcU:Tr->List Txn->Prop
 | _,[]=>True
 | t,x :: m=>Jaz t x=0/\JcU (JaO t x) m
theorem Jfq:∀ (m:List Txn) (t:Tr) (x:Txn),JcU t m->Jaz (runT t m) x=0->JcU t (m ++ [x])
 | [],_,_,_,h=>⟨h,trivial⟩
 | y :: m,t,x,h,hx=>⟨h.1,Jfq m (JaO t y) x h.2 hx⟩
theorem Ji5 (t:Tr) (m:List Txn) (x:Txn):runT t (m ++ [x])=JaO (runT t m) x:=by unfold runT; rw [zI2]; rfl
theorem Jfp:∀ (m:List Txn) (t:Tr) (k:Nat) (x:Txn),JcU t m->m[k]?=some x->Jaz (runT t (m.take k)) x=0
 | y :: m,t,0,x,h,hx=>by
  injection hx with hx
  subst hx;exact h.1
 | y :: m,t,k+1,x,h,hx=>Jfp m (JaO t y) k x h.2 hx
structure Played (s:List Txn × Tr):Prop where
 len:s.1.length<=40
 good:Jan s.2=true
 run:runT newTr s.1=s.2
 ok:JcU newTr s.1
 zx:∀ (i:Nat) (x:Txn),s.1[i]?=some x->x.zxid=1+(i:Int)
 gt:∀ x∈s.1,Jat x=0
theorem Played.step {s:List Txn × Tr} (h:Played s) (r:Request):Played (playS s r):=by
 unfold playS;split
 ·rename_i hc
  obtain ⟨h1,h2⟩:=hc;obtain ⟨f1,f2,f3,f4,f5,f6,f7⟩:=Jcw h2;refine ⟨?_,?_,?_,?_,?_,?_⟩
  ·simp only [zA9,zM4]; omega
  ·exact (Jd9 f1).1
  ·simp only [Ji5,h.run]
  ·exact Jfq _ _ _ h.ok (by rw [h.run]; exact f1)
  ·intro i x hx
   by_cases hi:i<s.1.length
   ·rw [zF1 hi] at hx
    exact h.zx i x hx
   ·rw [zI5 qH1] at hx
    have hi2:i=s.1.length:=by
     by_cases hj:i=s.1.length
     ·exact hj
     ·rw [zM0 qB1] at hx
      cases hx
    subst hi2;rw [zI6] at hx;injection hx with hx
    rw [<-hx];exact f3
  ·intro x hx
   rcases zE7.1 hx with hx | hx
   ·exact h.gt x hx
   ·rw [zE3.1 hx]; exact f6
 ·exact h
def comS (s:Tr × List Watch × List Note) (x:Txn):Tr × List Watch × List Note:=
 (JaO s.1 x,(if x.op=2 then Jfs (Jbf s.2.1 (Jcg s.1 x)).2 x.session else (Jbf s.2.1 (Jcg s.1 x)).2),s.2.2 ++ (Jbf s.2.1 (Jcg s.1 x)).1)
def comL (s:Tr × List Watch × List Note) (m:List Txn):Tr × List Watch × List Note:=m.foldl comS s
theorem JgV:∀ (m:List Txn) (s:Tr × List Watch × List Note),(comL s m).1=runT s.1 m
 | [],_=>rfl
 | x :: m,s=>JgV m (comS s x)
theorem comS_len (s:Tr × List Watch × List Note) (x:Txn):(comS s x).2.1.length+(comS s x).2.2.length<=s.2.1.length+s.2.2.length:=by
 have h:=JgO s.2.1 (Jcg s.1 x);have h2:=JjN (Jbf s.2.1 (Jcg s.1 x)).2 x.session;unfold comS;simp only [zA9];split <;> omega
theorem JfP:∀ (m:List Txn) (s:Tr × List Watch × List Note),(comL s m).2.1.length+(comL s m).2.2.length<=s.2.1.length+s.2.2.length
 | [],_=>zA3 _
 | x :: m,s=>zB5 (JfP m (comS s x)) (comS_len s x)
theorem JnV (l:List Node) (s:Int):(JaJ l s).length<=l.length:=by
 unfold JaJ;rw [zG0];exact zM8 _ _
theorem gone_len (ps:List ByteArray):(ps.flatMap JgI).length=ps.length*2:=by
 induction ps with
 | nil=>rfl
 | cons p ps ih=>rw [zG2,zA9,ih,zD5]; show 2+_=_; omega
theorem Jm1 {t:Tr} (x:Txn) (h:t.nodes.length<=400):(Jcg t x).length<=800:=by
 have h1:=JnV t.nodes x.session;have h2:=gone_len (JaJ t.nodes x.session);unfold Jcg doV Jo4;split
 ·split
  ·omega
  ·split
   ·show 2<=800
    omega
   ·split
    ·show 2<=800
     omega
    ·split
     ·show 1<=800
      omega
     ·show 0<=800
      omega
 ·show 0<=800
  omega
theorem Jhk:∀ (m:List Txn) (t:Tr),Jan t=true->JcU t m->Jan (runT t m)=true
 | [],_,h,_=>h
 | x :: m,t,_,h=>Jhk m (JaO t x) (Jd9 h.1).1 h.2
theorem JeS:∀ (m:List Txn) (t:Tr) (k:Nat),JcU t m->JcU t (m.take k)
 | [],_,_,_=>by simp [JcU]
 | _ :: _,_,0,_=>trivial
 | _ :: m,_,k+1,h=>⟨h.1,JeS m _ k h.2⟩
theorem Jjd:∀ (m:List Txn) (t:Tr) (k:Nat),JcU t m->JcU (runT t (m.take k)) (m.drop k)
 | [],_,_,_=>by simp [JcU]
 | _ :: _,_,0,h=>h
 | _ :: m,_,k+1,h=>Jjd m _ k h.2
theorem Jo0 (s:Tr × List Watch × List Note) (m:List Txn) (x:Txn):comL s (m ++ [x])=comS (comL s m) x:=by unfold comL; rw [zI2]; rfl
theorem JoZ {m:List Txn} {k:Nat} {x:Txn} (s:Tr × List Watch × List Note) (h:m[k]?=some x):comL s (m.take (k+1))=comS (comL s (m.take k)) x:=by
 rw [zF7,h];exact Jo0 s _ x
end
section
open Go.RowKit Go.ChangeShapes Go.WideShapes Go.ChangeAt
def pS (p0:Nat->Prop) (gs gr:Nat) (av:Value):Nat->Prop:=fun q=>p0 q\/q=gs\/q=gr\/av.ownBlock=some q
abbrev srvZ:List Value:=[.bool false,.slice none 0 0,.int .i64 0,.int .i64 0,.slice none 0 0,.int .i64 0,.int .i64 0,.slice none 0 0,.slice none 0 0,.slice none 0 0]
structure Cm (p0:Nat->Prop) (W1:World) (gs gr:Nat) (up:Bool) (dv lv:Value) (id ep dn:Int) (D:List File) (L:List Txn) (w:World) (t:Tr) (nv sv wv:Value) (ws:List Watch) (av:Value) (notes:List Note):Prop where
 ne:gs≠gr
 o1:W1.heap.size<=gs
 o2:W1.heap.size<=gr
 bel:Below W1.heap.size W1 w
 box:Bk w gs [.bool up,dv,.int .i64 id,.int .i64 ep,lv,.int .i64 dn,.int .i64 t.zxid,nv,sv,wv] 71
 res:Bk w gr srvZ 71
 dsk:SlA (pS p0 gs gr av) Jaa 3 w dv D
 log:SlA (pS p0 gs gr av) cTxn 7 w lv L
 nod:SlA (pS p0 gs gr av) Jab 9 w nv t.nodes
 ses:SlA (pS p0 gs gr av) cInt 1 w sv t.sess
 wat:SlA (pS p0 gs gr av) Jal 3 w wv ws
 all:Ow JbZ 3 80 w W1.heap.size av notes
theorem JdX {α:Type} {f:α->List Value} {s0:Nat} {e t:TypeId} {w:World} {B g:Nat} {v:Value} {L:List α} {pp:List Value} (ho:Ow f s0 e w B v L) (hb:Bk w g pp t) (ht:t≠e):v.ownBlock≠some g:=by
 intro hq;rcases ho.1.2 with ⟨rfl,_⟩ | ⟨k,cap,cur,rfl,hb2,hg,_⟩
 ·cases hq
 ·have e1:k=g:=by simpa [Value.ownBlock] using hq
  subst e1;unfold Bk at hb;rw [hg] at hb;injection hb with hb
  injection hb with _ hb _
  exact ht hb.symm
theorem SlA.grow {α:Type} {p p':Nat->Prop} {f:α->List Value} {s:Nat} {w w':World} {v:Value} {l:List α} {r:Option Nat} (h:SlA p f s w v l) (hg:w.grownBy w' r) (hr:∀ q,r=some q->p q) (hp:∀ q,p' q->p q\/w.heap.size<=q):SlA p' f s w' v l:=by
 have h2:=h.more hp;refine ⟨?_,h2.2⟩;obtain ⟨A,c,hv,h1,h2,h3,h4⟩:=h.1;refine ⟨A,c,hv,h1,h2,h3,fun h0=>?_⟩
 obtain ⟨b,off,rfl,hb,hc⟩:=h4 h0;have hnp:some b≠r:=by
  intro e;have hp:=hr b e.symm;rcases h.2 with h5 | h5
  ·rw [h5] at h0; simp at h0
  ·exact h5 b hp (by rw [hv]; rfl)
 exact ⟨b,off,rfl,zD0 hb hg.size,fun i x hx j u hu=>(World.cell?_of_block (hg.block b hb hnp)).trans (hc i x hx j u hu)⟩
section
variable {p0:Nat->Prop} {W1:World} {gs gr:Nat} {up:Bool} {dv lv:Value} {id ep dn:Int} {D:List File} {L:List Txn} {w w':World} {t t':Tr} {nv sv wv nv' sv' wv':Value} {ws ws':List Watch} {av:Value} {notes:List Note}
theorem Cm.below (h:Cm p0 W1 gs gr up dv lv id ep dn D L w t nv sv wv ws av notes) (hb:Below w.heap.size w w'):Cm p0 W1 gs gr up dv lv id ep dn D L w' t nv sv wv ws av notes:=
 ⟨h.ne,h.o1,h.o2,h.bel.trans (hb.mono h.bel.size),h.box.below hb,h.res.below hb,h.dsk.below hb,h.log.below hb,h.nod.below hb,h.ses.below hb,h.wat.below hb,h.all.below hb⟩
theorem JaV {W1 x:World} {g j:Nat} {u:Value} (hb:Below W1.heap.size W1 x) (ho:W1.heap.size<=g):Below W1.heap.size W1 (x.setCell ⟨g,j,none⟩ u):=
 hb.grown (zD9 x g j u) hb.size (fun k hk=>by injection hk with hk; exact hk▸ho)
theorem Cm.put (h:Cm p0 W1 gs gr up dv lv id ep dn D L w t nv sv wv ws av notes) (hn:SlA (pS p0 gs gr av) Jab 9 w nv' t'.nodes) (hs:SlA (pS p0 gs gr av) cInt 1 w sv' t'.sess) (hw:SlA (pS p0 gs gr av) Jal 3 w wv' ws') :
  Cm p0 W1 gs gr up dv lv id ep dn D L ((((w.setCell ⟨gs,6,none⟩ (.int .i64 t'.zxid)).setCell ⟨gs,7,none⟩ nv').setCell ⟨gs,8,none⟩ sv').setCell ⟨gs,9,none⟩ wv') t' nv' sv' wv' ws' av notes:=by
 have hsw:Swap (pS p0 gs gr av) w ((((w.setCell ⟨gs,6,none⟩ (.int .i64 t'.zxid)).setCell ⟨gs,7,none⟩ nv').setCell ⟨gs,8,none⟩ sv').setCell ⟨gs,9,none⟩ wv'):=
  ((((Swap.refl _ w).set gs 6 _ (.inr (.inl rfl))).set gs 7 _ (.inr (.inl rfl))).set gs 8 _ (.inr (.inl rfl))).set gs 9 _ (.inr (.inl rfl))
 have k:=JdX h.all h.box qG1;exact ⟨h.ne,h.o1,h.o2,JaV (JaV (JaV (JaV h.bel h.o1) h.o1) h.o1) h.o1,(((h.box.put 6 _).put 7 _).put 8 _).put 9 _,(((h.res.far h.ne.symm).far h.ne.symm).far h.ne.symm).far h.ne.symm,h.dsk.swap hsw,h.log.swap hsw,hn.swap hsw,hs.swap hsw,hw.swap hsw,(((h.all.far2 k).far2 k).far2 k).far2 k⟩
theorem Cm.push {av':Value} {notes':List Note} (h:Cm p0 W1 gs gr up dv lv id ep dn D L w t nv sv wv ws av notes) (hg:w.grownBy w' av.ownBlock) (ho:Ow JbZ 3 80 w' W1.heap.size av' notes') (ha:av'.ownBlock=av.ownBlock\/∃ q,av'.ownBlock=some q/\w.heap.size<=q):Cm p0 W1 gs gr up dv lv id ep dn D L w' t nv sv wv ws av' notes':=by
 have hr:∀ q,av.ownBlock=some q->pS p0 gs gr av q:=fun q hq=>.inr (.inr (.inr hq))
 have hp:∀ q,pS p0 gs gr av' q->pS p0 gs gr av q\/w.heap.size<=q:=by
  intro q hq;rcases hq with hq | hq | hq | hq
  ·exact .inl (.inl hq)
  ·exact .inl (.inr (.inl hq))
  ·exact .inl (.inr (.inr (.inl hq)))
  ·rcases ha with e | ⟨q',e,hle⟩
   ·exact .inl (.inr (.inr (.inr (e▸hq))))
   ·rw [hq] at e
    injection e with e
    exact .inr (e▸hle)
 exact ⟨h.ne,h.o1,h.o2,h.bel.grown hg h.bel.size (fun k hk=>(h.all.own_in hk).1),h.box.grown hg (fun e=>JdX h.all h.box qG1 e.symm),h.res.grown hg (fun e=>JdX h.all h.res qG1 e.symm),h.dsk.grow hg hr hp,h.log.grow hg hr hp,h.nod.grow hg hr hp,h.ses.grow hg hr hp,h.wat.grow hg hr hp,ho⟩
end
end
end Go.Proofs.YtjnooagaghdkdaaGreatDoor
