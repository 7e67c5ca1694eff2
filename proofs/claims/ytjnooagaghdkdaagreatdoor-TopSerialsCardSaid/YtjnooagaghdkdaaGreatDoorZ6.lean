/-L-/
import Derived.Test.YtjnooagaghdkdaaGreatDoorZ2
set_option maxHeartbeats 10000000
set_option maxRecDepth 100000
set_option linter.all false
namespace Go.Proofs.YtjnooagaghdkdaaGreatDoor
section
open Go.RowKit
theorem JkF (A:Option Addr) (n c:Nat) (l:List File) (x:File) (w:World) (B vb:Nat) (hown:Ow Jaa 3 128 w B (.slice A n c) l) (hl:n=l.length) (hv:Bk w vb (Jaa x) 128)
  (hB:B<=w.heap.size) (hn:(n+1)*48<=140737488355328) :
  Calls Tryz.prog 96 #[.slice A n c,.int .i64 n,.slice (some ⟨vb,0,none⟩) 1 1] w (Jee Jaa 3 128 B (n+1) (l ++ [x]) (Value.slice A n c).ownBlock w):=by
 have H:=zA0 hown;obtain ⟨A',c',hf1,hf2,hf3,hf4,hf5⟩:=hown.form;injection hf1 with e1 e2 e3
 subst e1; subst e3;have HL:=zA0 hl;rw [<-hl] at hf2;have HN:=zA0 hf4;clear hl e2 hown hf4 hf5
 by_cases hcn:c=n
 ·subst hcn
  go_enter Tryz.func96,Tryz.ntmps96
  go_wp2_with (at_builtin; refine Jaf _ rfl (.tmp 23) (.tmp 24) _ rfl Jc5 (l:=l) (m:=[x]) rfl rfl H.out (Sl.blk rfl hv) Jc9 qU0 qe0 hB ?_; intro v' w1 hown1 hg1 hat1; obtain ⟨A1,c1,rfl⟩:=Ow.is_slice (m:=c+1) hown1 ql0; have HO:=zA0 hown1; have HG:=zA0 hg1; have HT:=zA0 hat1; clear hown1 hg1 hat1);go_ret;exact ⟨A1,c1,rfl,HO.out,HG.out,HT.out⟩
 ·go_enter Tryz.func96,Tryz.ntmps96
  go_wp2_with (at_builtin; refine Jaf _ rfl (.tmp 23) (.tmp 24) _ rfl Jc5 (l:=l) (m:=[x]) rfl rfl H.out (Sl.blk rfl hv) Jc9 qU0 qe0 hB ?_; intro v' w1 hown1 hg1 hat1; obtain ⟨A1,c1,rfl⟩:=Ow.is_slice (m:=n+1) hown1 ql0; have HO:=zA0 hown1; have HG:=zA0 hg1; have HT:=zA0 hat1; clear hown1 hg1 hat1);go_ret;exact ⟨A1,c1,rfl,HO.out,HG.out,HT.out⟩
theorem Jju (A:Option Addr) (n k:Nat) (l:List File) (x:File) (w:World) (B vb:Nat) (hown:Ow Jaa 3 128 w B (.slice A n n) l) (hk:k<n) (hv:Bk w vb (Jaa x) 128)
  (hB:B<=w.heap.size) (hn:(n+1)*48<=140737488355328) :
  Calls Tryz.prog 96 #[.slice A n n,.int .i64 k,.slice (some ⟨vb,0,none⟩) 1 1] w (Jee Jaa 3 128 B (n+1) (l.take k ++ x :: l.drop k) (Value.slice A n n).ownBlock w):=by
 obtain ⟨g,J,rfl,hBg,hbk,hbl,_,hcm,hnl⟩:=hown.blk qH1;have H2:=zA0 hown.2;generalize hcur:l.flatMap Jaa ++ J=cur at hbk hbl;have HC:=zA0 hcur;have HL:=zA0 hnl;have HBL:=zA0 hbl;clear hcur hown hnl hbl;have ecnt:=zA0 (show (((n+1 - k:Nat):Nat):Int)=(n:Int)+1 - (k:Int) by omega)
 have hne:((k:Int) == (n:Int))=false:=qXE;have F1:=zA0 (Ja1 H2.out k);go_enter Tryz.func96,Tryz.ntmps96
 have hkc:k+(n+1 - k)=n+1:=qCE;have hvg:g<w.heap.size:=hbk.lt;have hvv:vb<w.heap.size:=hv.lt;go_wp2_with (first | (with_reducible refine Jbl ?_); go_loud (refine Jb8 rfl (.tmp 43) (.tmp 44) _ _ rfl Jc5 (cs:=Jaa x) rfl rfl hb1 qA0 (fun j v hj=>by show w1.cell? _=_; rw [Addr.add_lit,zG3,(hv.grown hg1 qI1).cell]; exact hj) (by have:=HBL.out; simp [hz1,Jaa]; omega) (Jc9 x) ?_; intro w2 hb2 hg2 hs2) | at_builtin; go_loud (refine Jdd rfl (.tmp 34) (.tmp 39) _ _ rfl Jc5 Tryz.underlying3 (k:=k) (c:=n) (cnt:=n+1 - k) rfl qS0 hbk qn0 qH1 qH1 qs0 qH1 ?_; intro w1 Z cap hb1 hz1 hc1 hc2 hg1 hs1))
 have e1:IntKind.i64.wrap ((k:Int)+1)=(k:Int)+1:=qGE;have e2:((k:Int)+1).toNat=k+1:=qCE;have e3:(0:Int)<=(k:Int)+1:=qCE;have e4:(k:Int)+1<=(n:Int)+1:=qCE;have e5:¬ cap=k+1:=qCE;have e6:¬ n=k:=qCE;have e7:k<=n:=qCE;have hcsl:((l.drop k).flatMap Jaa).length=(n - k)*3:=qEE;have hcs1:∀ v∈(l.drop k).flatMap Jaa,v.oneCell'=true:=qTE;have hlt:(cur.take (k*3)).length=k*3:=qiE;have hsl:(splice (cur.take (k*3) ++ Z) (k*3) (Jaa x)).length=k*3+(cap - k)*3:=qPE;have hgs:Bk w2 g cur 128:=(hbk.grown hg1 qI1).grown hg2 qB1;have hsrc:∀ (j:Nat) (v:Value),((l.drop k).flatMap Jaa)[j]?=some v->cur[k*3+j]?=some v:=by
  intro j v hj;rw [F1.out.2,zF3] at hj;rw [<-HC.out,zF1 (zB3.1 hj).1];exact hj
 have HS:=zA0 hsl;have HSR:=zA0 hsrc;have HCL:=zA0 hcsl;clear hsl hsrc hcsl;have hb2d:Bk w2.drew w.heap.size (splice (cur.take (k*3) ++ Z) (k*3) (Jaa x)) 128:=hb2;go_region_law (go_loud (refine Jdy rfl _ _ _ _ rfl Jc5 (cs:=(l.drop k).flatMap Jaa) (off:=(k+1)*3) (dLen:=n+1 - (k+1)) (dCap:=cap - (k+1)) (ad:=⟨g,k*3,none⟩) (sLen:=n - k) (sCap:=n - k) qi0 qi0 hb2d qB0 (fun j v hj=>by show w2.cell? _=_; rw [Addr.add_lit,hgs.cell]; exact HSR.out j v hj) qf0 hcs1 ?_; intro w3 hb3 hg3 hs3))
 go_wp2;go_ret;refine ⟨some ⟨w.heap.size,0,none⟩,cap,rfl,?_,((hg1.but _).andThen hg2 qI1).andThen (show w2.grownBy w3 (some w.heap.size) from ⟨hg3.os,hg3.tape,hg3.output,hg3.size,hg3.block⟩) qI1,.inr rfl⟩
 have hta:cur.take (k*3)=(l.take k).flatMap Jaa:=by rw [F1.out.1,<-HC.out,zK5 (by rw [zC5 H2.out,<-HL.out]; omega)]
 have hall:∀ y∈l.take k ++ x :: l.drop k,(Jaa y).length=3:=fun y _=>rfl
 have hlen:(l.take k ++ x :: l.drop k).length=n+1:=by rw [zA9,zC2,zD5,zE5,<-HL.out]; omega
 have:=Ow.of_blk (B:=B) (g:=w.heap.size) (c:=cap) (J:=Z.drop (3+((l.drop k).flatMap Jaa).length)) hall hB hb3 (by
  have h:=ins2 (cur.take (k*3)) Z ((l.drop k).flatMap Jaa) (Jaa x);rw [hlt] at h;rw [show (k+1)*3=k*3+(Jaa x).length from by show _=k*3+3; omega,h,hta,zF6,zG2]
  simp only [zC0];rfl) qE0 qw0 hc2
 rw [hlen] at this;exact this
theorem Jjt (A:Option Addr) (n k c:Nat) (l:List File) (x:File) (w:World) (B vb:Nat) (hown:Ow Jaa 3 128 w B (.slice A n c) l) (hk:k<n) (hc:n<c) (hv:Bk w vb (Jaa x) 128) (hvA:(Value.slice A n c).ownBlock≠some vb) :
  Calls Tryz.prog 96 #[.slice A n c,.int .i64 k,.slice (some ⟨vb,0,none⟩) 1 1] w (Jee Jaa 3 128 B (n+1) (l.take k ++ x :: l.drop k) (Value.slice A n c).ownBlock w):=by
 obtain ⟨g,J,rfl,hBg,hbk,hbl,_,hcm,hnl⟩:=hown.blk qH1;have H2:=zA0 hown.2;have hvg:vb≠g:=qlE;generalize hcur:l.flatMap Jaa ++ J=cur at hbk hbl;have HC:=zA0 hcur;have HL:=zA0 hnl;have HBL:=zA0 hbl;clear hcur hown hnl hbl;have hne:((k:Int) == (n:Int))=false:=qXE;have F1:=zA0 (Ja1 H2.out k);have d1:IntKind.i64.wrap ((n:Int)+1)=(n:Int)+1:=qGE;have d2:((n:Int)+1).toNat=n+1:=qCE;have d3:(0:Int)<=(n:Int)+1:=qCE;have d4:(n:Int)+1<=(c:Int):=qCE;have d5:¬ (c:Int)<(n:Int)+1:=qCE;have e1:IntKind.i64.wrap ((k:Int)+1)=(k:Int)+1:=qGE;have e2:((k:Int)+1).toNat=k+1:=qCE;have e3:(0:Int)<=(k:Int)+1:=qCE;have e4:(k:Int)+1<=(n:Int)+1:=qCE;have e5:¬ c=k+1:=qCE;have e6:¬ c=k:=qCE;have e7:(k:Int)<=(n:Int)+1:=qCE;have e8:k<=n:=qCE;have hov:=fun (off lb cb:Nat)=>Jdi Jc5 Tryz.func122 qE1 qE1 qE1 (tB:=4) qE1 hv hbk hvg qn0 off 1 1 lb cb
 go_enter Tryz.func96,Tryz.ntmps96
 go_wp2_with (simp only [hov]);have hcsl:((l.drop k).flatMap Jaa).length=(n - k)*3:=qEE;have hcs1:∀ v∈(l.drop k).flatMap Jaa,v.oneCell'=true:=qTE;have hsl:(splice cur ((k+1)*3) ((l.drop k).flatMap Jaa)).length=c*3:=qOE;have hsrc:∀ (j:Nat) (v:Value),((l.drop k).flatMap Jaa)[j]?=some v->cur[k*3+j]?=some v:=by
  intro j v hj;rw [F1.out.2,zF3] at hj;rw [<-HC.out,zF1 (zB3.1 hj).1];exact hj
 have HS:=zA0 hsl;have HSR:=zA0 hsrc;have HCL:=zA0 hcsl;clear hsl hsrc hcsl;have hbd:Bk w.drew g cur 128:=hbk;have hvd:Bk w.drew vb (Jaa x) 128:=hv;go_region_law (go_loud (refine Jdy rfl _ _ _ _ rfl Jc5 (cs:=(l.drop k).flatMap Jaa) (off:=(k+1)*3) (dLen:=n - k) (dCap:=c - (k+1)) (ad:=⟨g,k*3,none⟩) (sLen:=n+1 - k) (sCap:=c - k) qi0 qi0 hbd qD0 (fun j v hj=>by rw [Addr.add_lit,hbd.cell]; exact HSR.out j v hj) qc0 hcs1 ?_; intro w3 hb3 hg3 hs3))
 go_wp2_with (first | (with_reducible refine Jbl ?_); go_loud (refine Jb8 rfl (.tmp 80) (.tmp 81) _ _ rfl Jc5 (cs:=Jaa x) (off:=k*3) (dLen:=n+1 - k) (dCap:=c - k) rfl rfl hb3 qA0 (fun j v hj=>by rw [Addr.add_lit,zG3,(hvd.grown hg3 (by simp; exact hvg)).cell]; exact hj) qR0 (Jc9 x) ?_; intro w4 hb4 hg4 hs4))
 go_ret;refine ⟨some ⟨g,0,none⟩,c,rfl,?_,(show w.grownBy w3 (some g) from ⟨hg3.os,hg3.tape,hg3.output,hg3.size,hg3.block⟩).trans hg4,.inl rfl⟩
 have hta:cur=(l.take k).flatMap Jaa ++ (l.drop k).flatMap Jaa ++ J:=by rw [<-zF6,zD7,HC.out]
 have hlt:((l.take k).flatMap Jaa).length=k*3:=by rw [zC5 (fun y hy=>H2.out y (zH7 hy)),zC2,<-HL.out,zF8 qH1]
 have hJ:(Jaa x).length<=J.length:=by
  have h:=HBL.out;rw [hta,zA9,zA9,hlt,HCL.out] at h;show 3<=_;omega
 have hall:∀ y∈l.take k ++ x :: l.drop k,(Jaa y).length=3:=fun y _=>rfl
 have hlen:(l.take k ++ x :: l.drop k).length=n+1:=by rw [zA9,zC2,zD5,zE5,<-HL.out]; omega
 have:=Ow.of_blk (B:=B) (g:=g) (c:=c) (J:=J.drop (Jaa x).length) hall hBg hb4 (by
  have h:=ins1 ((l.take k).flatMap Jaa) ((l.drop k).flatMap Jaa) J (Jaa x) hJ;rw [hlt,<-hta] at h;rw [show (k+1)*3=k*3+(Jaa x).length from by show _=k*3+3; omega,h,zF6,zG2]
  simp only [zC0]) (by rw [zI8 _ _ _ qR0,HS.out]) qw0 hcm
 rw [hlen] at this;exact this
theorem insFile (v:Value) (k:Nat) (l:List File) (x:File) (w:World) (B vb:Nat) (hown:Ow Jaa 3 128 w B v l) (hk:k<=l.length) (hv:Bk w vb (Jaa x) 128) (hvA:v.ownBlock≠some vb)
  (hB:B<=w.heap.size) (hn:(l.length+1)*48<=140737488355328) :
  Calls Tryz.prog 96 #[v,.int .i64 k,.slice (some ⟨vb,0,none⟩) 1 1] w (Jee Jaa 3 128 B (l.length+1) (l.take k ++ x :: l.drop k) v.ownBlock w):=by
 obtain ⟨A,c,rfl,h2⟩:=hown.form;rcases zD1 k l.length with h | h
 ·obtain ⟨g,J,rfl,_,_,_,hnc,_,_⟩:=hown.blk qH1
  by_cases hc:c=l.length
  ·subst hc
   exact Jju _ _ k l x w B vb hown h hv hB hn
  ·exact Jjt _ _ k c l x w B vb hown h qH1 hv hvA
 ·obtain rfl:k=l.length:=by omega
  rw [zG1,zO8];exact JkF _ _ c l x w B vb hown rfl hv hB hn
theorem Jo9 (s n:Int) (v:Value) (l:List Entry) (p:ByteArray) (w:World) (h:Sl Jae 3 w v l) (hn:l.length<=140737488355328) :
  Calls Tryz.prog 44 #[.agg #[.int .i64 s,.int .i64 n,v],.string p] w fun e w'=>e=.returned (.tuple #[.int .i64 (posK (l.map Entry.path) p),.bool (isK (l.map Entry.path) p)])/\Below w.heap.size w w':=by
 obtain ⟨A,c,rfl,h1,h2⟩:=h.form;have H:=zA0 h;clear h;go_enter Tryz.func44,Tryz.ntmps44
 go_wp2_with (go_at_call 59; refine (bsfEntry _ _ _ _ (H.out.alloc _) hn).mono ?_; rintro e w1 ⟨rfl,hb⟩; obtain ⟨ext,d,rfl⟩:=zA2 _ hb);go_ret2;exact ⟨rfl,zL⟩
def Jn1:Entry:=⟨ByteArray.empty,ByteArray.empty,false⟩
def lookE (l:List Entry) (p:ByteArray):Entry:=if isK (l.map Entry.path) p then l.getD (posK (l.map Entry.path) p) Jn1 else Jn1
def Jef (e:Entry):Entry:=if e.there_ then e else { e with data:=ByteArray.empty }
def JeZ (l:List Entry) (e:Entry):List Entry:=if isK (l.map Entry.path) e.path then l.set (posK (l.map Entry.path) e.path) (Jef e) else l.take (posK (l.map Entry.path) e.path) ++ Jef e :: l.drop (posK (l.map Entry.path) e.path)
theorem isK_lt {l:List Entry} {p:ByteArray} (h:isK (l.map Entry.path) p=true):posK (l.map Entry.path) p<l.length:=by
 unfold isK at h;simp at h;exact h.1
def InsIs (l:List Entry) (W:World) (r:Ending) (w':World):Prop:=∃ A c ext d,r=.returned (.slice A l.length c)/\w'=grow W ext d/\Ow Jae 3 83 w' W.heap.size (.slice A l.length c) l
theorem JgB {L:List Entry} {W:World} {e0 e1:Array Obj} {d0 d1:Nat} {v:Value} {k:Nat} {l:List Entry} {x:Entry} {fr:Nat × Nat} (hown:Ow Jae 3 83 (grow W e0 d0) W.heap.size v l) (hk:k<=l.length) (hn:(l.length+1)*40<=140737488355328) (vb:Nat) (hvb:vb=(grow (grow W e0 d0) e1 d1).heap.size) (hfr:fr=(0,0)) (hL:L=l.take k ++ x :: l.drop k) :
  Calls Tryz.prog 109 #[v,.int .i64 k,.slice (some ⟨vb,0,none⟩) 1 1] ((grow (grow W e0 d0) e1 d1).alloc (.cells #[.string x.path,.string x.data,.bool x.there_] 83 fr)) (InsIs L W):=by
 subst hL;subst hfr;have hb:Below W.heap.size W ((grow (grow W e0 d0) e1 d1).alloc (.cells #[.string x.path,.string x.data,.bool x.there_] 83 (0,0))):=zL;have ho:Ow Jae 3 83 ((grow (grow W e0 d0) e1 d1).alloc (.cells #[.string x.path,.string x.data,.bool x.there_] 83 (0,0))) W.heap.size v l:=(hown.below (Ja8 _ _ (zB6 _ _))).alloc _;refine (insEntry v k l x _ W.heap.size vb ho hk ?_ ?_ hb.size hn).mono ?_
 ·subst hvb
  have:=heap_alloc_new (grow (grow W e0 d0) e1 d1) (.cells #[.string x.path,.string x.data,.bool x.there_] 83 (0,0));exact this
 ·intro hc
  have h2:=(hown.own_in hc).2;simp at h2 hvb;omega
 ·rintro r w' ⟨A,c,rfl,h1,h2,h3⟩
  have hl:(l.take k ++ x :: l.drop k).length=l.length+1:=qXE;obtain ⟨ext,d,rfl⟩:=JaA hb h2 (fun k hk=>(hown.own_in hk).1)
  exact ⟨A,c,ext,d,by rw [hl],rfl,by rw [hl]; exact h1⟩
theorem JmU (s n:Int) (v:Value) (l:List Entry) (x:Entry) (w:World) (h:Sl Jae 3 w v l) (hn:(l.length+1)*40<=140737488355328) (hk:isK (l.map Entry.path) x.path=false) :
  Calls Tryz.prog 79 #[.agg #[.int .i64 s,.int .i64 n,v],.agg #[.string x.path,.string x.data,.bool x.there_]] w (ClIs s n (JeZ l x) w):=by
 obtain ⟨A,c,rfl,h1,h2⟩:=h.form;have H:=zA0 h;clear h;have hq:posK (l.map Entry.path) x.path<=l.length:=by unfold posK; have:=JlU (ltK (l.map Entry.path) x.path) (l.map Entry.path).length; simpa using this
 have hL:JeZ l x=l.take (posK (l.map Entry.path) x.path) ++ Jef x :: l.drop (posK (l.map Entry.path) x.path):=by unfold JeZ; rw [hk]; rfl
 rw [hL];have hcall:=fun w' v' a b (hs:Sl Jae 3 w' v' l)=>Jo9 a b v' l x.path w' hs qH1
 rw [hk] at hcall;clear hk hL;generalize posK (l.map Entry.path) x.path=q at hcall hq;have HC:=zA0 hcall;clear hcall;obtain ⟨xp,xd,xt⟩:=x;cases xt with
 | true=>
  rw [show Jef ⟨xp,xd,true⟩=⟨xp,xd,true⟩ from rfl]
  generalize hL:l.take q ++ (⟨xp,xd,true⟩:Entry) :: l.drop q=L;have HL:=zA0 hL;clear hL;go_enter Tryz.func79,Tryz.ntmps79
  go_wp2_with (first | (go_at_call 106; refine (Jd3 _ _ _ _ _ (((H.out.alloc _).alloc _).alloc _) qH1 qs0).mono ?_; rintro e w1 ⟨A',c',rfl,hown,hb⟩; obtain ⟨ext,d,rfl⟩:=zA2 _ hb; have HO:=zA0 hown; clear hown) | (go_at_call 44; refine (HC.out _ _ _ _ ((HO.out.regrow (zA3 _) qI1).sl)).mono ?_; rintro e w1 ⟨rfl,hb1⟩; obtain ⟨ext1,d1,rfl⟩:=zA2 _ hb1) | (go_at_call 109; refine (JgB (x:=⟨xp,xd,true⟩) ((HO.out.regrow (zA3 _) qI1).mono qI1) hq hn _ qI1 rfl HL.out.symm).mono ?_; rintro e w1 ⟨A2,c2,ext2,d2,rfl,rfl,ho2⟩; skip));refine zA1 (v:=.agg #[.int .i64 s,.int .i64 n,.slice A2 L.length c2]) (by simp [results,Tryz.results79,go_sem]) rfl ⟨A2,c2,rfl,?_,?_⟩
  ·exact (ho2.regrow (zA3 _) qI1).mono qB1
  ·exact zL
 | false=>
  rw [show Jef ⟨xp,xd,false⟩=⟨xp,ByteArray.empty,false⟩ from rfl]
  generalize hL:l.take q ++ (⟨xp,ByteArray.empty,false⟩:Entry) :: l.drop q=L;have HL:=zA0 hL;clear hL;go_enter Tryz.func79,Tryz.ntmps79
  go_wp2_with (first | (go_at_call 106; refine (Jd3 _ _ _ _ _ (((H.out.alloc _).alloc _).alloc _) qH1 qs0).mono ?_; rintro e w1 ⟨A',c',rfl,hown,hb⟩; obtain ⟨ext,d,rfl⟩:=zA2 _ hb; have HO:=zA0 hown; clear hown) | (go_at_call 44; refine (HC.out _ _ _ _ ((HO.out.regrow (zA3 _) qI1).sl)).mono ?_; rintro e w1 ⟨rfl,hb1⟩; obtain ⟨ext1,d1,rfl⟩:=zA2 _ hb1) | (go_at_call 109; refine (JgB (x:=⟨xp,ByteArray.empty,false⟩) ((HO.out.regrow (zA3 _) qI1).mono qI1) hq hn _ qI1 rfl HL.out.symm).mono ?_; rintro e w1 ⟨A2,c2,ext2,d2,rfl,rfl,ho2⟩; skip));refine zA1 (v:=.agg #[.int .i64 s,.int .i64 n,.slice A2 L.length c2]) (by simp [results,Tryz.results79,go_sem]) rfl ⟨A2,c2,rfl,?_,?_⟩
  ·exact (ho2.regrow (zA3 _) qI1).mono qB1
  ·exact zL
theorem JmT (s n:Int) (v:Value) (l:List Entry) (x:Entry) (w:World) (h:Sl Jae 3 w v l) (hn:(l.length+1)*40<=140737488355328) (hk:isK (l.map Entry.path) x.path=true) :
  Calls Tryz.prog 79 #[.agg #[.int .i64 s,.int .i64 n,v],.agg #[.string x.path,.string x.data,.bool x.there_]] w (ClIs s n (JeZ l x) w):=by
 obtain ⟨A,c,rfl,h1,h2⟩:=h.form;have H:=zA0 h;clear h;have hq:=isK_lt hk;have hL:JeZ l x=l.set (posK (l.map Entry.path) x.path) (Jef x):=by unfold JeZ; rw [hk]; rfl
 rw [hL];have hcall:=fun w' v' a b (hs:Sl Jae 3 w' v' l)=>Jo9 a b v' l x.path w' hs qH1
 rw [hk] at hcall;clear hk hL;generalize posK (l.map Entry.path) x.path=q at hcall hq;have HC:=zA0 hcall;clear hcall;obtain ⟨xp,xd,xt⟩:=x;cases xt with
 | true=>
  rw [show Jef ⟨xp,xd,true⟩=⟨xp,xd,true⟩ from rfl]
  go_enter Tryz.func79,Tryz.ntmps79
  go_wp2_with (first | (go_at_call 106; refine (Jd3 _ _ _ _ _ (((H.out.alloc _).alloc _).alloc _) qH1 qs0).mono ?_; rintro e w1 ⟨A',c',rfl,hown,hb⟩; obtain ⟨ext,d,rfl⟩:=zA2 _ hb; obtain ⟨g,J,rfl,hBg,hbk,hbl,hnc,hcm,hnl,v0,v1,v2,x0,y0,x1,y1,x2,y2⟩:=hown.open3 (N:=w.heap.size+1+1+1) qI1 qI1 hq; have HO:=zA0 hown; have HB:=zA0 hbk; have HBL:=zA0 hbl; clear hown hbk hbl) | (go_at_call 44; refine (HC.out _ _ _ _ ((HO.out.regrow (zA3 _) qI1).sl)).mono ?_; rintro e w1 ⟨rfl,hb1⟩; obtain ⟨ext1,d1,rfl⟩:=zA2 _ hb1));have n1:¬ w.heap.size+1+1=g:=qCE;have n2:¬ g=w.heap.size+1+1:=qCE;refine zA1 (v:=.agg #[.int .i64 s,.int .i64 n,.slice (some ⟨g,0,none⟩) l.length c']) (by simp (config:={ maxDischargeDepth:=8 }) [results,Tryz.results79,go_sem]) rfl ⟨some ⟨g,0,none⟩,c',by rw [zF4],?_,?_⟩
  ·rw [zF4]
   refine Ow.far (Ow.far (Ow.far (Ow.put3 (fun _ _=>rfl) ((HB.out.regrow qB1 qI1).below (Ja8 _ _ (zB6 _ _))) HBL.out qH1 rfl hnc hcm hq _ rfl rfl) ?_) ?_) ?_ <;> omega
  ·refine Below.put (Below.put (Below.put (Below.put (Below.put (Below.put ?_ ?_) ?_) ?_) ?_) ?_) ?_
   ·exact zL
   all_goals omega
 | false=>
  rw [show Jef ⟨xp,xd,false⟩=⟨xp,ByteArray.empty,false⟩ from rfl]
  go_enter Tryz.func79,Tryz.ntmps79
  go_wp2_with (first | (go_at_call 106; refine (Jd3 _ _ _ _ _ (((H.out.alloc _).alloc _).alloc _) qH1 qs0).mono ?_; rintro e w1 ⟨A',c',rfl,hown,hb⟩; obtain ⟨ext,d,rfl⟩:=zA2 _ hb; obtain ⟨g,J,rfl,hBg,hbk,hbl,hnc,hcm,hnl,v0,v1,v2,x0,y0,x1,y1,x2,y2⟩:=hown.open3 (N:=w.heap.size+1+1+1) qI1 qI1 hq; have HO:=zA0 hown; have HB:=zA0 hbk; have HBL:=zA0 hbl; clear hown hbk hbl) | (go_at_call 44; refine (HC.out _ _ _ _ ((HO.out.regrow (zA3 _) qI1).sl)).mono ?_; rintro e w1 ⟨rfl,hb1⟩; obtain ⟨ext1,d1,rfl⟩:=zA2 _ hb1));have n1:¬ w.heap.size+1+1=g:=qCE;have n2:¬ g=w.heap.size+1+1:=qCE;refine zA1 (v:=.agg #[.int .i64 s,.int .i64 n,.slice (some ⟨g,0,none⟩) l.length c']) (by simp (config:={ maxDischargeDepth:=8 }) [results,Tryz.results79,go_sem]) rfl ⟨some ⟨g,0,none⟩,c',by rw [zF4],?_,?_⟩
  ·rw [zF4]
   refine Ow.far (Ow.far (Ow.far (Ow.put3 (fun _ _=>rfl) ((HB.out.regrow qB1 qI1).below (Ja8 _ _ (zB6 _ _))) HBL.out qH1 rfl hnc hcm hq _ rfl rfl) ?_) ?_) ?_ <;> omega
  ·refine Below.put (Below.put (Below.put (Below.put (Below.put (Below.put ?_ ?_) ?_) ?_) ?_) ?_) ?_
   ·exact zL
   all_goals omega
theorem clKeep (s n:Int) (v:Value) (l:List Entry) (x:Entry) (w:World) (h:Sl Jae 3 w v l) (hn:(l.length+1)*40<=140737488355328) :
  Calls Tryz.prog 79 #[.agg #[.int .i64 s,.int .i64 n,v],.agg #[.string x.path,.string x.data,.bool x.there_]] w (ClIs s n (JeZ l x) w):=by
 cases hk:isK (l.map Entry.path) x.path with
 | true=>exact JmT s n v l x w h hn hk
 | false=>exact JmU s n v l x w h hn hk
def rnd (c:Nat):Nat:=if c % 2=1 then (c / 2) ^^^ 3988292384 else c / 2
def rndN:Nat->Nat->Nat
 | 0,c=>c
 | n+1,c=>rnd (rndN n c)
def sumK (l:List UInt8) (c:Nat):Nat:=l.foldl (fun c b=>rndN 8 (c ^^^ b.toNat)) c
def sumN (l:List UInt8):Nat:=4294967295 - sumK l 4294967295
theorem Jk2 {a b:Nat} (ha:a<4294967296) (hb:b<4294967296):a ^^^ b<4294967296:=Nat.xor_lt_two_pow (n:=32) ha hb
theorem rnd_lt {c:Nat} (h:c<4294967296):rnd c<4294967296:=by
 unfold rnd;split
 ·exact Jk2 qH1 qH1
 ·omega
theorem Jks {c:Nat} (h:c<4294967296):∀ n,rndN n c<4294967296
 | 0=>h
 | n+1=>rnd_lt (Jks h n)
theorem Jnx:∀ (l:List UInt8) {c:Nat},c<4294967296->sumK l c<4294967296
 | [],_,h=>h
 | b :: r,c,h=>by
  have hb:b.toNat<256:=b.toNat_lt;exact Jnx r (Jks (Jk2 h qH1) 8)
theorem Jnw (l:List UInt8) (b:UInt8) (c:Nat):sumK (l ++ [b]) c=rndN 8 (sumK l c ^^^ b.toNat):=by unfold sumK; rw [zI2]; rfl
theorem bv32 (a:Nat) (ha:a<4294967296):(BitVec.ofInt 32 (a:Int)).toNat=a:=by
 rw [BitVec.ofInt_natCast,BitVec.toNat_ofNat];exact zN1 qH1
theorem Jj6 (a:Nat) (h:a<4294967296):IntKind.u32.wrap (a:Int)=a:=by
 unfold IntKind.wrap;simp [IntKind.signed,IntKind.bits];omega
theorem JhM (a b:Nat) (ha:a<4294967296) (hb:b<4294967296):bits .xor .u32 (a:Int) (b:Int)=((a ^^^ b:Nat):Int):=by
 show IntKind.u32.wrap ((BitVec.ofInt 32 (a:Int) ^^^ BitVec.ofInt 32 (b:Int)).toNat:Int)=_;rw [BitVec.toNat_xor,bv32 a ha,bv32 b hb,Jj6 _ (Jk2 ha hb)]
theorem Jpi (a:Nat) (ha:a<4294967296):bits .and .u32 (a:Int) 1=((a % 2:Nat):Int):=by
 show IntKind.u32.wrap ((BitVec.ofInt 32 (a:Int) &&& BitVec.ofInt 32 ((1:Nat):Int)).toNat:Int)=_;rw [BitVec.toNat_and,bv32 a ha,bv32 1 qH1,Nat.and_one_is_mod,Jj6 _ qH1]
theorem JmW (a:Nat) (ha:a<4294967296):bits .xor .u32 IntKind.u32.max (a:Int)=((4294967295 - a:Nat):Int):=by
 show IntKind.u32.wrap ((BitVec.ofInt 32 ((4294967295:Nat):Int) ^^^ BitVec.ofInt 32 (a:Int)).toNat:Int)=_;have h1:BitVec.ofInt 32 ((4294967295:Nat):Int)=BitVec.allOnes 32:=by decide
 rw [h1,BitVec.xor_comm,BitVec.xor_allOnes,BitVec.toNat_not,bv32 a ha,Jj6 _ qH1]
theorem Jnv (s:ByteArray) (w:World) (hs:s.size<=9223372036854775807) :
  Calls Tryz.prog 126 #[.string s] w fun e w'=>e=.returned (.int .i64 (sumN (bs s)))/\w=w':=by
 go_enter Tryz.func126,Tryz.ntmps126
 go_wp2;go_loop [3,4] (fun c i=>∃ k:Nat,k<=s.size/\c=.int .u32 (sumK ((bs s).take k) 4294967295:Nat)/\i=.int .i64 k) (fun _ i=>s.size - (intOf i).toNat)
 case atStart=>exact ⟨0,zB9 _,rfl,rfl⟩
 case round=>
  obtain ⟨k,hk,rfl,rfl⟩:=hrel;have hlt0:=Jnx ((bs s).take k) (c:=4294967295) qH1
  by_cases hlt:k<s.size
  ·have hx:(bs s)[k]?=some (s[k]):=zA8 (by rw [zC1]; exact hlt)
   have htk:(bs s).take (k+1)=(bs s).take k ++ [s[k]]:=qdE;have hsn:=Jnw ((bs s).take k) s[k] 4294967295;rw [<-htk] at hsn;have hc:s[k].toNat<256:=s[k].toNat_lt;have hxb:=JhM (sumK ((bs s).take k) 4294967295) s[k].toNat hlt0 qH1;have hx2:sumK ((bs s).take k) 4294967295 ^^^ s[k].toNat<4294967296:=Jk2 hlt0 qH1;have HSN:=zA0 hsn;generalize sumK ((bs s).take k) 4294967295=c0 at *;clear htk hsn hx;go_wp2;generalize c0 ^^^ s[k].toNat=y at *;go_loop [3,18] (fun c j=>∃ n:Nat,n<=8/\c=.int .u32 (rndN n y:Nat)/\j=.int .i64 n) (fun _ j=>8 - (intOf j).toNat)
   case atStart=>exact ⟨0,by omega,rfl,rfl⟩
   case round=>
    obtain ⟨n,hn,rfl,rfl⟩:=hrel;have hr:=Jks hx2 n
    by_cases h8:n<8
    ·have hand:=Jpi (rndN n y) hr
     have hrd:rndN (n+1) y=rnd (rndN n y):=rfl;have hh:rndN n y / 2<4294967296:=qCE;have hxr:bits .xor .u32 ((rndN n y:Int) / 2) 3988292384=((rndN n y / 2 ^^^ 3988292384:Nat):Int):=JhM (rndN n y / 2) 3988292384 hh qH1;have HRD:=zA0 hrd;generalize rndN n y=z at *;clear hrd;rcases Nat.mod_two_eq_zero_or_one z with h2 | h2
     ·have hz:rnd z=z / 2:=by unfold rnd; rw [if_neg qH1]
      have HZ:=zA0 hz;clear hz;rw [h2] at hand;go_wp2;exact ⟨⟨n+1,by omega,by rw [HRD.out,HZ.out] <;> rfl,by go_num⟩,by simp [intOf]; omega⟩
     ·have hz:rnd z=(z / 2) ^^^ 3988292384:=by unfold rnd; rw [if_pos h2]
      have HZ:=zA0 hz;clear hz;rw [h2] at hand;go_wp2;exact ⟨⟨n+1,by omega,by rw [HRD.out,HZ.out],by go_num⟩,by simp [intOf]; omega⟩
    ·have hn8:n=8:=by omega
     subst hn8;go_wp2;go_round
     case rel=>exact ⟨k+1,by omega,by rw [HSN.out],by go_num⟩
     case measure=>simp [intOf]; omega
  ·have hk':k=s.size:=by omega
   subst hk';have hfull:(bs s).take s.size=bs s:=zG4 qW0;rw [hfull] at hlt0 ⊢;have HSU:=zA0 (show sumN (bs s)=4294967295 - sumK (bs s) 4294967295 from rfl)
   generalize sumK (bs s) 4294967295=c0 at *;have hnot:=JmW c0 hlt0;have hw:wrap64 (((4294967295 - c0:Nat):Int))=((4294967295 - c0:Nat):Int):=by unfold wrap64; omega
   generalize hd:4294967295 - c0=d at *;clear hfull hd;go_wp2;go_ret;exact ⟨by rw [HSU.out]; rfl,rfl⟩
theorem Jo2 (x:Node) (p:ByteArray) (w:World) :
  Calls Tryz.prog 145 #[.agg #[.string x.path,.string x.data,.int .i64 x.czxid,.int .i64 x.mzxid,.int .i64 x.pzxid,.int .i64 x.version,.int .i64 x.cversion,.int .i64 x.owner,.int .i64 x.kids],.string p] w fun e w'=>e=.returned (.int .i64 (cmpB x.path p))/\Below w.heap.size w w':=by
 go_enter Tryz.func145,Tryz.ntmps145
 go_wp2_with (go_at_call 61; refine (Tryz.strings_Compare _ _ _).mono ?_; rintro e w1 ⟨rfl,rfl⟩);go_ret;exact ⟨rfl,zL⟩

theorem bsfNode (v:Value) (l:List Node) (p:ByteArray) (w:World) (h:Sl Jab 9 w v l) (hn:l.length<=140737488355328) :
  Calls Tryz.prog 144 #[v,.string p,.func (.func 145) #[] #[]] w fun e w'=>e=.returned (.tuple #[.int .i64 (posK (l.map Node.path) p),.bool (isK (l.map Node.path) p)])/\Below w.heap.size w w':=by
 obtain ⟨A,c,rfl,hc1,hc2⟩:=h.form;have H:=zA0 h;clear h;go_enter Tryz.func144,Tryz.ntmps144
 go_wp2;go_loopw [9,10] (fun i j wr=>∃ (a b:Nat),a<=b/\b<=l.length/\i=.int .i64 a/\j=.int .i64 b/\Hid (bsr (ltK (l.map Node.path) p) a b=posK (l.map Node.path) p)/\Below w.heap.size w wr) (fun i j _=>(intOf j - intOf i).toNat)
 case atStart=>exact ⟨0,l.length,zB9 _,zA3 _,rfl,rfl,(by simp [posK]:bsr (ltK (l.map Node.path) p) 0 l.length=posK (l.map Node.path) p),zB6 _ _⟩
 case round=>
  obtain ⟨a,b,hab,hbl,rfl,rfl,hr,hb⟩:=hrel
  by_cases hlt:a<b
  ·have hx:l[(a+b) / 2]?=some (l[(a+b) / 2]'qH1):=zA8 _
   obtain ⟨bk,off,rfl,hbw,c0,c1,c2,c3,c4,c5,c6,c7,c8⟩:=(H.out.below hb).Node_at hx;generalize hxe:l[(a+b) / 2]'qH1=x at hx c0 c1 c2 c3 c4 c5 c6 c7 c8;have HX:=zA0 hx;clear hx hxe;go_wp2_with (go_at_call 145; refine (Jo2 _ _ _).mono ?_; rintro e w1 ⟨rfl,hb1⟩; obtain ⟨ext1,d1,rfl⟩:=zA2 _ hb1)
   all_goals
    have hcmp:=Jjj (g:=Node.path) HX.out p;go_roundw
   case rel=>
    have hlt2:cmpB x.path p<0:=by assumption
    exact ⟨(a+b) / 2+1,b,by omega,by omega,by go_num,rfl,Eq.trans (JhL _ _ _ hlt (by rw [hcmp]; simpa using hlt2)).symm hr.out,zL⟩
   case measure=>simp [intOf]; omega
   case rel=>
    have hge2:0<=cmpB x.path p:=by assumption
    exact ⟨a,(a+b) / 2,by omega,by omega,rfl,by go_num,Eq.trans (Jd6 _ _ _ hlt (by rw [hcmp]; simpa using hge2)).symm hr.out,zL⟩
   case measure=>simp [intOf]; omega
  ·obtain rfl:a=b:=by omega
   have hpos:posK (l.map Node.path) p=a:=by rw [<-hr.out]; exact JdO _ _ _ hlt
   have HP:=zA0 hpos;clear hpos hr
   by_cases han:a<l.length
   ·have hx:l[a]?=some (l[a]'qH1):=zA8 _
    obtain ⟨bk,off,rfl,hbw,c0,c1,c2,c3,c4,c5,c6,c7,c8⟩:=(H.out.below hb).Node_at hx;generalize hxe:l[a]'qH1=x at hx c0 c1 c2 c3 c4 c5 c6 c7 c8;have HX:=zA0 hx;clear hx hxe;go_wp2_with (go_at_call 145; refine (Jo2 _ _ _).mono ?_; rintro e w1 ⟨rfl,hb1⟩; obtain ⟨ext1,d1,rfl⟩:=zA2 _ hb1);go_ret2;refine ⟨?_,zL⟩;rw [Je1 HP.out HX.out,HP.out];rfl
   ·go_wp2
    go_ret2;refine ⟨?_,zL⟩;rw [Jgz HP.out han,HP.out];rfl
def Bm (w:World) (g:Nat) (cs:Array Value) (t:TypeId):Prop:=w.heap[g]?=some (.cells cs t (cs.size,cs.size+1))
theorem Bm.cell {w:World} {g:Nat} {cs:Array Value} {t:TypeId} (h:Bm w g cs t) (i:Nat):w.cell? ⟨g,i,none⟩=cs[i]?:=by unfold Bm at h; simp [World.cell?,h]
theorem Bm.frozen {w:World} {g:Nat} {cs:Array Value} {t:TypeId} (h:Bm w g cs t) {i:Nat} (hi:i<cs.size):w.frozen? ⟨g,i,none⟩=false:=by
 unfold Bm at h;simp [World.frozen?,h];omega
theorem Bm.set {w:World} {g:Nat} {cs:Array Value} {t:TypeId} (h:Bm w g cs t) (i:Nat) (v:Value):Bm (w.setCell ⟨g,i,none⟩ v) g (cs.setIfInBounds i v) t:=by
 unfold Bm at h ⊢;simp [World.setCell,zO5,h]
def bv (c:UInt8):Value:=.int .u8 (c.toNat:Int)
def Jec (l:List UInt8) (z:List Value):Array Value:=(l.map bv ++ z).toArray
theorem Ji6 (l:List UInt8) (z:List Value) (i:Nat) (h:i<l.length):(Jec l z)[i]?=some (bv l[i]):=by
 unfold Jec;simp [zF1,h]
theorem JnK (l:List UInt8) (z:List Value) (i:Nat) (h:i<l.length) (c:UInt8):(Jec l z).setIfInBounds i (bv c)=Jec (l.set i c) z:=by
 unfold Jec;apply Array.ext';simp [List.set_append_left,h,List.map_set]
theorem Jmh (l:List UInt8) (z:List Value):(Jec l z).size=l.length+z.length:=by simp [Jec]

theorem Ji1 (w:World) (s:ByteArray) (n:Nat) (e:TypeId) (cap:Nat) :
  Bm ((w.alloc (.cells (bytesRow (s ++ ⟨#[48,48,48,48,48,48,48,48,48,48]⟩) cap) e ((bytesRow (s ++ ⟨#[48,48,48,48,48,48,48,48,48,48]⟩) cap).size,(bytesRow (s ++ ⟨#[48,48,48,48,48,48,48,48,48,48]⟩) cap).size+1))).drew)
   w.heap.size (Jec (bs s ++ part 0 n) (List.replicate (cap - (s.size+10)) (.int .u8 0))) e/\
  Below w.heap.size w ((w.alloc (.cells (bytesRow (s ++ ⟨#[48,48,48,48,48,48,48,48,48,48]⟩) cap) e ((bytesRow (s ++ ⟨#[48,48,48,48,48,48,48,48,48,48]⟩) cap).size,(bytesRow (s ++ ⟨#[48,48,48,48,48,48,48,48,48,48]⟩) cap).size+1))).drew):=by
 have hC:bytesRow (s ++ ⟨#[48,48,48,48,48,48,48,48,48,48]⟩) cap=Jec (bs s ++ part 0 n) (List.replicate (cap - (s.size+10)) (.int .u8 0)):=by
  apply Array.ext';have h1:(s ++ (⟨#[48,48,48,48,48,48,48,48,48,48]⟩:ByteArray)).data.toList=bs s ++ List.replicate 10 48:=by
   simp [bs]
  have h2:(s ++ (⟨#[48,48,48,48,48,48,48,48,48,48]⟩:ByteArray)).size=s.size+10:=by simp; rfl
  simp only [bytesRow,Jec,Array.toList_append,Array.toList_map,h1,h2,Array.toList_replicate];simp [part,digs];rfl
 rw [hC];refine ⟨?_,((zB6 _ _).alloc (zA3 _) _).drew⟩;exact heap_alloc_new w _
theorem byte_of (m:Nat):(48:Int)+(m:Int) % 10=((UInt8.ofNat (48+m % 10)).toNat:Int):=by
 simp;omega
theorem Jmg {w:World} {g e n j q:Nat} {s:ByteArray} {z:List Value} (h:Bm w g (Jec (bs s ++ part j n) z) e) (hj:j<10) (hq:(q:Int)=s.size+9 - j) :
  Bm (w.setCell ⟨g,q,none⟩ (.int .u8 (48+((n / 10 ^ j:Nat):Int) % 10))) g (Jec (bs s ++ part (j+1) n) z) e:=by
 have h1:=h.set q (.int .u8 (48+((n / 10 ^ j:Nat):Int) % 10));have hv:(Value.int .u8 (48+((n / 10 ^ j:Nat):Int) % 10))=bv (UInt8.ofNat (48+n / 10 ^ j % 10)):=by rw [bv,<-byte_of]
 have hl:(bs s ++ part j n).length=s.size+10:=by rw [zA9,zC1,Jgv j n qH1]
 rw [hv] at h1 ⊢;rw [JnK _ _ _ qH1,zM3 _ _ (by rw [zC1]; omega),zC1,show q - s.size=9 - j from by omega,part_set j n hj] at h1
 exact h1
theorem JnE {w:World} {g e n j q:Nat} {s:ByteArray} {z:List Value} (h:Bm w g (Jec (bs s ++ part j n) z) e) (hj:j<10) (hq:(q:Int)=s.size+9 - j) :
  (∃ c,w.cell? ⟨g,q,none⟩=some (bv c))/\w.frozen? ⟨g,q,none⟩=false:=by
 have hl:(bs s ++ part j n).length=s.size+10:=by rw [zA9,zC1,Jgv j n qH1]
 exact ⟨⟨_,by rw [h.cell,Ji6 _ _ _ qH1]⟩,h.frozen (by rw [Jmh]; omega)⟩

theorem bs_mk (L:List UInt8):bs ⟨L.toArray⟩=L:=rfl
theorem Jkp {P:Program} {w:World} {g e src dst N cap:Nat} {L:List UInt8} {z:List Value} (h:Bm w g (Jec L z) e) (hN:L.length=N) (hs:P.underlying src=some (.slice e)) (he:P.underlying e=some (.int .u8)) (hd:P.underlying dst=some .string) :
  (convert src dst (.slice (some ⟨g,0,none⟩) N cap)).run P w=.ok (.string ⟨L.toArray⟩) w:=by
 subst hN;refine run_convert_bytes_back w src dst e ⟨g,0,none⟩ cap L hs he hd (fun j hj=>?_)
 have hadd:(⟨g,0,none⟩:Addr).add j=⟨g,j,none⟩:=by unfold Addr.add; split <;> simp_all
 rw [hadd,h.cell,Ji6 _ _ _ hj];rfl
def Jkq (L:List UInt8):Ending:=if JaK L then .returned (.tuple #[.string ⟨L.toArray⟩,.int .i64 0]) else .returned (.tuple #[.string ⟨#[]⟩,.int .i64 2])
theorem Jko (s:ByteArray) (n:Nat) (L:List UInt8) (hL:Hid (bs s ++ digs 10 n=L)) (w:World) (hn:n<=2147483647) (hs:s.size<=140737488351232) :
  Calls Tryz.prog 130 #[.string s,.int .i64 n] w fun e w'=>e=Jkq L/\Below w.heap.size w w':=by
 have hconv:=fun (w:World) (s:ByteArray)=>run_bytes_of_string (P:=Tryz.prog) w 9 193 5 s Tryz.underlying9 Tryz.underlying193 Tryz.underlying5
 go_enter Tryz.func130,Tryz.ntmps130
 go_wp2;obtain ⟨f1,f2⟩:=Ji1 w s n 5 (grownCap w (s.size+10) 0 5);generalize World.drew (World.alloc w _)=W1 at f1 f2 ⊢;generalize grownCap w (s.size+10) 0 5=cap at f1 ⊢;generalize List.replicate (cap - (s.size+10)) (Value.int .u8 0)=z at f1;generalize hg:w.heap.size=g at f1 f2 ⊢;have Hg:=zA0 hg;clear hg;have F1:=zA0 f1;clear f1 hconv;go_loopw [1,7] (fun n' i wr=>∃ (j m:Nat) (q:Int),j<=10/\m<=2147483647/\n'=.int .i64 m/\i=.int .i64 q/\q<=s.size+9/\Hid (m=n / 10 ^ j)/\Hid (q=s.size+9 - j)/\Hid (Bm wr g (Jec (bs s ++ part j n) z) 5)/\Below g w wr) (fun n' _ _=>(intOf n').toNat)
 case atStart=>exact ⟨0,n,_,by omega,hn,rfl,rfl,by omega,(by simp:n=n / 10 ^ 0),(by simp; omega:((s.size:Int)+10 - 1=s.size+9 - (0:Nat))),F1,f2⟩
 case round=>
  obtain ⟨j,m,q,hj,hm,rfl,rfl,hq9,Hm,Hq,HB,hb⟩:=hrel;clear F1
  by_cases hpos:0<m
  ·have hj10:j<10:=lt_ten hn (by rw [<-Hm.out]; exact hpos)
   obtain ⟨q',rfl⟩:∃ q':Nat,q=q':=⟨q.toNat,by have:=Hq.out; omega⟩
   obtain ⟨⟨c,hc⟩,hf⟩:=JnE HB.out hj10 Hq.out;have HR:=zA0 (Jmg HB.out hj10 Hq.out);have hqs:(q':Int)<s.size+10:=qCE;go_wp2;go_roundw
   case rel=>
    refine ⟨j+1,m / 10,(q':Int) - 1,by omega,by omega,by go_num,rfl,by omega,?_,?_,?_,hb.setCell (zA3 _) _⟩
    ·show m / 10=n / 10 ^ (j+1)
     rw [Hm.out,zR1,zI4]
    ·show (q':Int) - 1=s.size+9 - ((j+1:Nat):Int)
     have:=Hq.out;omega
    ·have:=HR.out
     rw [<-Hm.out] at this;exact this
   case measure=>simp [intOf]; omega
  ·have hm0:m<=0:=by omega
   have HB2:Bm wr g (Jec L z) 5:=by rw [<-hL.out,<-part_end j n hj (by have:=Hm.out; omega)]; exact HB.out
   have hback:=Jkp HB2 (cap:=cap) (by rw [<-hL.out,zA9,zC1,JbL]) Tryz.underlying193 Tryz.underlying5 Tryz.underlying9
   have hLs:(⟨L.toArray⟩:ByteArray).size<=9223372036854775807:=by
    show L.toArray.size<=_;rw [<-hL.out];simp [JbL];omega
   have HLs:=zA0 hLs;clear HB Hm Hq HB2 hLs;cases hnm:JaK L
   all_goals
    go_wp2_with (go_at_call 43; refine (Jc0 _ _ HLs.out).mono ?_; rw [bs_mk,hnm]; rintro e w1 ⟨rfl,rfl⟩);go_ret2;exact ⟨by unfold Jkq; rw [hnm]; rfl,by rw [Hg.out]; exact hb⟩
theorem Ji2 (s:ByteArray) (n:Int) (w:World) (hn:n<0\/2147483647<n) :
  Calls Tryz.prog 130 #[.string s,.int .i64 n] w fun e w'=>e=.returned (.tuple #[.string ⟨#[]⟩,.int .i64 3])/\w=w':=by
 go_enter Tryz.func130,Tryz.ntmps130
 go_wp2
 all_goals
  go_ret2;exact ⟨rfl,rfl⟩
end
end Go.Proofs.YtjnooagaghdkdaaGreatDoor
