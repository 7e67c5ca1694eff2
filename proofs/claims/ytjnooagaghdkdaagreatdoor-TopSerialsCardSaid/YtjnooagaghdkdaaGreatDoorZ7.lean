/-L-/
import Derived.Test.YtjnooagaghdkdaaGreatDoorZ2
set_option maxHeartbeats 10000000
set_option maxRecDepth 100000
set_option linter.all false
namespace Go.Proofs.YtjnooagaghdkdaaGreatDoor
section
open Go.RowKit
theorem Jo3 (x:File) (p:ByteArray) (w:World) :
  Calls Tryz.prog 120 #[.agg #[.string x.name,.string x.safe,.string x.tail],.string p] w fun e w'=>e=.returned (.int .i64 (cmpB x.name p))/\Below w.heap.size w w':=by
 go_enter Tryz.func120,Tryz.ntmps120
 go_wp2_with (go_at_call 61; refine (Tryz.strings_Compare _ _ _).mono ?_; rintro e w1 ⟨rfl,rfl⟩);go_ret;exact ⟨rfl,zL⟩

theorem bsfFile (v:Value) (l:List File) (p:ByteArray) (w:World) (h:Sl Jaa 3 w v l) (hn:l.length<=140737488355328) :
  Calls Tryz.prog 119 #[v,.string p,.func (.func 120) #[] #[]] w fun e w'=>e=.returned (.tuple #[.int .i64 (posK (l.map File.name) p),.bool (isK (l.map File.name) p)])/\Below w.heap.size w w':=by
 obtain ⟨A,c,rfl,hc1,hc2⟩:=h.form;have H:=zA0 h;clear h;go_enter Tryz.func119,Tryz.ntmps119
 go_wp2;go_loopw [9,10] (fun i j wr=>∃ (a b:Nat),a<=b/\b<=l.length/\i=.int .i64 a/\j=.int .i64 b/\Hid (bsr (ltK (l.map File.name) p) a b=posK (l.map File.name) p)/\Below w.heap.size w wr) (fun i j _=>(intOf j - intOf i).toNat)
 case atStart=>exact ⟨0,l.length,zB9 _,zA3 _,rfl,rfl,(by simp [posK]:bsr (ltK (l.map File.name) p) 0 l.length=posK (l.map File.name) p),zB6 _ _⟩
 case round=>
  obtain ⟨a,b,hab,hbl,rfl,rfl,hr,hb⟩:=hrel
  by_cases hlt:a<b
  ·have hx:l[(a+b) / 2]?=some (l[(a+b) / 2]'qH1):=zA8 _
   obtain ⟨bk,off,rfl,hbw,c0,c1,c2⟩:=(H.out.below hb).File_at hx;generalize hxe:l[(a+b) / 2]'qH1=x at hx c0 c1 c2;have HX:=zA0 hx;clear hx hxe;go_wp2_with (go_at_call 120; refine (Jo3 _ _ _).mono ?_; rintro e w1 ⟨rfl,hb1⟩; obtain ⟨ext1,d1,rfl⟩:=zA2 _ hb1)
   all_goals
    have hcmp:=Jjj (g:=File.name) HX.out p;go_roundw
   case rel=>
    have hlt2:cmpB x.name p<0:=by assumption
    exact ⟨(a+b) / 2+1,b,by omega,by omega,by go_num,rfl,Eq.trans (JhL _ _ _ hlt (by rw [hcmp]; simpa using hlt2)).symm hr.out,zL⟩
   case measure=>simp [intOf]; omega
   case rel=>
    have hge2:0<=cmpB x.name p:=by assumption
    exact ⟨a,(a+b) / 2,by omega,by omega,rfl,by go_num,Eq.trans (Jd6 _ _ _ hlt (by rw [hcmp]; simpa using hge2)).symm hr.out,zL⟩
   case measure=>simp [intOf]; omega
  ·obtain rfl:a=b:=by omega
   have hpos:posK (l.map File.name) p=a:=by rw [<-hr.out]; exact JdO _ _ _ hlt
   have HP:=zA0 hpos;clear hpos hr
   by_cases han:a<l.length
   ·have hx:l[a]?=some (l[a]'qH1):=zA8 _
    obtain ⟨bk,off,rfl,hbw,c0,c1,c2⟩:=(H.out.below hb).File_at hx;generalize hxe:l[a]'qH1=x at hx c0 c1 c2;have HX:=zA0 hx;clear hx hxe;go_wp2_with (go_at_call 120; refine (Jo3 _ _ _).mono ?_; rintro e w1 ⟨rfl,hb1⟩; obtain ⟨ext1,d1,rfl⟩:=zA2 _ hb1);go_ret2;refine ⟨?_,zL⟩;rw [Je1 HP.out HX.out,HP.out];rfl
   ·go_wp2
    go_ret2;refine ⟨?_,zL⟩;rw [Jgz HP.out han,HP.out];rfl
end
section
open Go.RowKit Go.ChangeShapes Go.WideShapes Go.ChangeAt
theorem Jnr {l:List Watch} {a:Nat} (ha:a<=l.length) (J:List Value):(l.flatMap Jal ++ J).take (a*3)=(l.take a).flatMap Jal:=by
 have hlen:((l.take a).flatMap Jal).length=a*3:=by rw [zC5 (f:=Jal) (s:=3) (fun y _=>rfl),zC2,zF8 ha]
 conv=>lhs; rw [<-zD7 a l]
 rw [zF6,zC0,<-hlen,zH2]
theorem JmL (ev:Event) (w W:World) (bn be gL c N:Nat) (l:List Watch) (J:List Value) (notes:List Note) (bs:List (Nat × List Value × TypeId)) (h:FS w W bn notes ((gL,l.flatMap Jal ++ J,148) :: bs)) (he:(be,JaG ev,78)∈bs)
  (hg:w.heap.size<=gL) (hne:∀ b∈bs,b.1≠gL) (hN:(l.flatMap Jal ++ J).length=N) (hc:l.length<=c) (hcm:c<=9223372036854775807) (hn:(notes.length+l.length+1)*32<=140737488355328) :
  Calls Tryz.prog 151 #[.slice (some ⟨gL,0,none⟩) l.length c,.func (.func 152) #[] #[.pointer (some ⟨be,0,none⟩),.pointer (some ⟨bn,0,none⟩)]] W (DelIs ev w bn gL c notes bs l N):=by
 have HF:=zA0 h;have HN:=zA0 hN;have hm1:(notes.length+1)*32<=140737488355328:=zB5 (zL1 32 qH1) hn;have hm2:l.length<=140737488355328:=zB5 (show l.length<=(notes.length+l.length+1)*32 by omega) hn
 have HC:Hid (∀ (x:Watch) (W':World) (ns:List Note) (bs':List (Nat × List Value × TypeId)),FS w W' bn ns bs'->(be,JaG ev,78)∈bs'->(ns.length+1)*32<=140737488355328->Calls Tryz.prog 152 #[.agg #[.int .i64 x.session,.int .i64 x.kind,.string x.path],.pointer (some ⟨be,0,none⟩),.pointer (some ⟨bn,0,none⟩)] W' fun e W''=>e=.returned (.bool (Jbm x ev))/\FS w W'' bn (ns ++ JaI ev [x]) bs'):=zA0 (fun (x:Watch) (W':World) (ns:List Note) (bs':List (Nat × List Value × TypeId)) (hf:FS w W' bn ns bs') (hm:(be,JaG ev,78)∈bs') (hns:(ns.length+1)*32<=140737488355328)=>JgP x ev w W' bn be ns bs' hf hm hns)
 have HI:Hid (Calls Tryz.prog 176 #[.slice (some ⟨gL,0,none⟩) l.length c,.func (.func 152) #[] #[.pointer (some ⟨be,0,none⟩),.pointer (some ⟨bn,0,none⟩)]] W (IdxIs ev w bn notes ((gL,l.flatMap Jal ++ J,148) :: bs) l)):=zA0 (Jok ev w W bn be gL c l J notes _ h (zF2 _ he) zF5 hm1 hm2)
 have HE:=zA0 he;have HNE:=zA0 hne;clear h he hN hne;go_enter Tryz.func151,Tryz.ntmps151
 go_wp2_with fail;refine HI.out.mono ?_;rintro e W1 (⟨hno,rfl,hf⟩ | ⟨i,x0,hno,hx0,ht0,rfl,hf⟩)
 ·have HF1:=zA0 hf
  have HNO:=zA0 hno;clear hf hno;go_wp2_with fail;obtain ⟨hk,hnn⟩:=Jgy HNO.out;refine zA1 (v:=.slice (some ⟨gL,0,none⟩) l.length c) (by simp [results,Tryz.results151,go_sem]) rfl ⟨J,by rw [hk],by rw [hk,hnn,zE9]; exact HF1.out,by rw [hk]; exact HN.out⟩
 ·obtain ⟨hmid,hnn⟩:=Mid.first hno hx0 ht0
  have hi:i<l.length:=(zB3.1 hx0).1;have hi2:((i:Int) == -1)=false:=by simp
  rw [<-hnn] at hf;have HF1:=zA0 hf;have HM:=zA0 hmid;clear hf hmid hno hx0 ht0 hnn;go_wp2_with fail;go_loopw [5,6] (fun i j wr=>∃ (a k:Nat) (cur:List Watch),i=.int .i64 a/\j=.int .i64 k/\a<k/\k<=l.length/\Hid (Mid ev l cur a k)/\Hid (FS w wr bn (notes ++ JaI ev (l.take k)) ((gL,cur.flatMap Jal ++ J,148) :: bs))) (fun _ j _=>l.length - (intOf j).toNat)
  case atStart=>exact ⟨i,i+1,l,rfl,by go_num,by omega,by omega,HM,HF1⟩
  case round=>
   obtain ⟨a,k,cur,rfl,rfl,hak,hk,hm,hf⟩:=hrel
   by_cases hlt:k<l.length
   ·have hx:l[k]?=some (l[k]'hlt):=zA8 _
    have hxc:=(hm.out.at_ hlt).trans hx;obtain ⟨c0,c1,c2⟩:=JiA (hf.out.bk zF5) hxc;generalize hxe:l[k]'hlt=x at hx hxc c0 c1 c2;have hft:=hf.out.push (Jal x) 148;have hnl:((notes ++ JaI ev (l.take k)).length+1)*32<=140737488355328:=by
     have h1:(JaI ev (l.take k)).length<=(l.take k).length:=by unfold JaI; rw [zG0]; exact zM8 _ _
     rw [zC2] at h1;rw [zA9];exact zB5 (zL1 32 qH1) hn
    have HCX:=zA0 (HC.out x _ _ _ hft (zF2 _ (zF2 _ HE.out)) hnl);have hnt:JaI ev (l.take (k+1))=JaI ev (l.take k) ++ JaI ev [x]:=by rw [zF7,hx,Jeg]; rfl
    have HNT:=zA0 hnt;have HX:=zA0 hx;clear hnl hnt hft hx hxc hxe;rw [zC0,<-HNT.out] at HCX;cases htb:Jbm x ev with
    | true=>
     rw [htb] at HCX;have HTB:=zA0 htb;clear htb;go_wp2_with (first | (go_at_call 152; refine (HCX.out).mono ?_; rintro e w1 ⟨rfl,hf1⟩; have HF2:=zA0 hf1; clear hf1));go_roundw
     case rel=>exact ⟨a,k+1,cur,rfl,by go_num,by omega,by omega,zA0 (hm.out.hit HX.out HTB.out),zA0 (HF2.out.sub (fun b hb=>zF2 _ hb))⟩
     case measure=>simp [intOf]; omega
    | false=>
     rw [htb] at HCX;have HTB:=zA0 htb;clear htb;have hac:a<cur.length:=by have:=hm.out.2.2.1; omega
     have hya:cur[a]?=some (cur[a]'hac):=zA8 _;generalize hye:cur[a]'hac=y at hya;have HYA:=zA0 hya;have HAC:=zA0 hac;clear hya hye hac;go_wp2_with (first | (go_at_call 152; refine (HCX.out).mono ?_; rintro e w1 ⟨rfl,hf1⟩; have hv:=hf1.bk zF5; have v0:w1.cell? ⟨wr.heap.size,0,none⟩=some (.int .i64 x.session):=hv.cell 0; have v1:w1.cell? ⟨wr.heap.size,1,none⟩=some (.int .i64 x.kind):=hv.cell 1; have v2:w1.cell? ⟨wr.heap.size,2,none⟩=some (.string x.path):=hv.cell 2; have hr:=hf1.bk (zF2 _ zF5); obtain ⟨r0,r1,r2⟩:=JiA hr HYA.out; have q0:=hr.frozen (a*3); have q1:=hr.frozen (a*3+1); have q2:=hr.frozen (a*3+2); have HF2:=zA0 hf1; clear hf1 hv hr));have p0:=HF2.out.sub (bs':=(gL,cur.flatMap Jal ++ J,148) :: bs) (fun b hb=>zF2 _ hb)
     have p3:=((p0.put hg HNE.out (a*3) (.int .i64 x.session)).put hg HNE.out (a*3+1) (.int .i64 x.kind)).put hg HNE.out (a*3+2) (.string x.path);rw [set3 HAC.out x] at p3;have HP3:=zA0 p3;clear p0 p3;go_roundw
     case rel=>exact ⟨a+1,k+1,cur.set a x,by go_num,by go_num,by omega,by omega,zA0 (hm.out.miss HX.out HTB.out),HP3⟩
     case measure=>simp [intOf]; omega
   ·have hk':k=l.length:=by omega
    subst hk';have hm0:=hm.out;rw [Mid,zG1] at hm0;rw [zG1] at hf;obtain ⟨_,_,m3,m4,_⟩:=hm0;have hbk:=hf.out.bk zF5;have hal:a<=l.length:=qCE;have hkl:(Jbb ev l).length=a:=by rw [<-m4,zC2,m3]; omega
    have hcur:(cur.flatMap Jal ++ J).length=N:=by
     rw [<-HN.out,zA9,zA9,zC5 (f:=Jal) (s:=3) (fun y _=>rfl),zC5 (f:=Jal) (s:=3) (fun y _=>rfl),m3]
    have hfit:a*3+(l.length - a)*3<=(cur.flatMap Jal ++ J).length:=by
     rw [zA9,zC5 (f:=Jal) (s:=3) (fun y _=>rfl),m3]
     omega
    have HB:=zA0 hbk;have HM4:=zA0 m4;have HKL:=zA0 hkl;have HCUR:=zA0 hcur;have HFIT:=zA0 hfit;have hna:((l.length:Int) - (a:Int))=((l.length - a:Nat):Int):=qCE;clear hbk m3 m4 hkl hcur hfit;go_wp2_with (first | (with_reducible refine JaZ ?_); go_loud (refine Jbu rfl (.tmp 38) _ rfl Jbq (off:=a*3) (n:=l.length - a) rfl HB.out qG1 HFIT.out ?_; intro w' cur' hb' hl' ht' hg' _; have HB2:=zA0 hb'; have HL2:=zA0 hl'; have HT2:=zA0 ht'; have HG2:=zA0 hg'; clear hb' hl' ht' hg'));have htk:(Jbb ev l).flatMap Jal ++ cur'.drop (a*3)=cur':=by
     rw [<-HM4.out,<-Jnr (by have:=hm.out.2.2.1; omega) J,<-HT2.out,zD7]
    have hfs:=hf.out.clr hg HNE.out HB2.out HG2.out;refine zA1 (v:=.slice (some ⟨gL,0,none⟩) a c) (by simp [results,Tryz.results151,go_sem]) rfl ⟨cur'.drop (a*3),by rw [HKL.out],?_,?_⟩
    ·rw [htk]; exact hfs
    ·rw [htk,HL2.out,HCUR.out]
end
section
open Go.RowKit
theorem JkC (A:Option Addr) (n c:Nat) (l:List Node) (x:Node) (w:World) (B vb:Nat) (hown:Ow Jab 9 75 w B (.slice A n c) l) (hl:n=l.length) (hv:Bk w vb (Jab x) 75)
  (hB:B<=w.heap.size) (hn:(n+1)*88<=140737488355328) :
  Calls Tryz.prog 169 #[.slice A n c,.int .i64 n,.slice (some ⟨vb,0,none⟩) 1 1] w (Jee Jab 9 75 B (n+1) (l ++ [x]) (Value.slice A n c).ownBlock w):=by
 have H:=zA0 hown;obtain ⟨A',c',hf1,hf2,hf3,hf4,hf5⟩:=hown.form;injection hf1 with e1 e2 e3
 subst e1; subst e3;have HL:=zA0 hl;rw [<-hl] at hf2;have HN:=zA0 hf4;clear hl e2 hown hf4 hf5
 by_cases hcn:c=n
 ·subst hcn
  go_enter Tryz.func169,Tryz.ntmps169
  go_wp2_with (at_builtin; refine Jaf _ rfl (.tmp 23) (.tmp 24) _ rfl Jc4 (l:=l) (m:=[x]) rfl rfl H.out (Sl.blk rfl hv) Jc8 qU0 qe0 hB ?_; intro v' w1 hown1 hg1 hat1; obtain ⟨A1,c1,rfl⟩:=Ow.is_slice (m:=c+1) hown1 ql0; have HO:=zA0 hown1; have HG:=zA0 hg1; have HT:=zA0 hat1; clear hown1 hg1 hat1);go_ret;exact ⟨A1,c1,rfl,HO.out,HG.out,HT.out⟩
 ·go_enter Tryz.func169,Tryz.ntmps169
  go_wp2_with (at_builtin; refine Jaf _ rfl (.tmp 23) (.tmp 24) _ rfl Jc4 (l:=l) (m:=[x]) rfl rfl H.out (Sl.blk rfl hv) Jc8 qU0 qe0 hB ?_; intro v' w1 hown1 hg1 hat1; obtain ⟨A1,c1,rfl⟩:=Ow.is_slice (m:=n+1) hown1 ql0; have HO:=zA0 hown1; have HG:=zA0 hg1; have HT:=zA0 hat1; clear hown1 hg1 hat1);go_ret;exact ⟨A1,c1,rfl,HO.out,HG.out,HT.out⟩
theorem Jjs (A:Option Addr) (n k:Nat) (l:List Node) (x:Node) (w:World) (B vb:Nat) (hown:Ow Jab 9 75 w B (.slice A n n) l) (hk:k<n) (hv:Bk w vb (Jab x) 75)
  (hB:B<=w.heap.size) (hn:(n+1)*88<=140737488355328) :
  Calls Tryz.prog 169 #[.slice A n n,.int .i64 k,.slice (some ⟨vb,0,none⟩) 1 1] w (Jee Jab 9 75 B (n+1) (l.take k ++ x :: l.drop k) (Value.slice A n n).ownBlock w):=by
 obtain ⟨g,J,rfl,hBg,hbk,hbl,_,hcm,hnl⟩:=hown.blk qH1;have H2:=zA0 hown.2;generalize hcur:l.flatMap Jab ++ J=cur at hbk hbl;have HC:=zA0 hcur;have HL:=zA0 hnl;have HBL:=zA0 hbl;clear hcur hown hnl hbl;have ecnt:=zA0 (show (((n+1 - k:Nat):Nat):Int)=(n:Int)+1 - (k:Int) by omega)
 have hne:((k:Int) == (n:Int))=false:=qXE;have F1:=zA0 (Ja1 H2.out k);go_enter Tryz.func169,Tryz.ntmps169
 have hkc:k+(n+1 - k)=n+1:=qCE;have hvg:g<w.heap.size:=hbk.lt;have hvv:vb<w.heap.size:=hv.lt;go_wp2_with (first | (with_reducible refine Jbl ?_); go_loud (refine Jb8 rfl (.tmp 43) (.tmp 44) _ _ rfl Jc4 (cs:=Jab x) rfl rfl hb1 qA0 (fun j v hj=>by show w1.cell? _=_; rw [Addr.add_lit,zG3,(hv.grown hg1 qI1).cell]; exact hj) (by have:=HBL.out; simp [hz1,Jab]; omega) (Jc8 x) ?_; intro w2 hb2 hg2 hs2) | at_builtin; go_loud (refine Jdd rfl (.tmp 34) (.tmp 39) _ _ rfl Jc4 Tryz.underlying3 (k:=k) (c:=n) (cnt:=n+1 - k) rfl qS0 hbk qn0 qH1 qH1 qs0 qH1 ?_; intro w1 Z cap hb1 hz1 hc1 hc2 hg1 hs1))
 have e1:IntKind.i64.wrap ((k:Int)+1)=(k:Int)+1:=qGE;have e2:((k:Int)+1).toNat=k+1:=qCE;have e3:(0:Int)<=(k:Int)+1:=qCE;have e4:(k:Int)+1<=(n:Int)+1:=qCE;have e5:¬ cap=k+1:=qCE;have e6:¬ n=k:=qCE;have e7:k<=n:=qCE;have hcsl:((l.drop k).flatMap Jab).length=(n - k)*9:=qEE;have hcs1:∀ v∈(l.drop k).flatMap Jab,v.oneCell'=true:=qUE;have hlt:(cur.take (k*9)).length=k*9:=qiE;have hsl:(splice (cur.take (k*9) ++ Z) (k*9) (Jab x)).length=k*9+(cap - k)*9:=by rw [zI8 _ _ _ (by simp only [zA9,hlt,hz1]; show k*9+9<=_; omega),zA9,hlt,hz1]
 have hgs:Bk w2 g cur 75:=(hbk.grown hg1 qI1).grown hg2 qB1;have hsrc:∀ (j:Nat) (v:Value),((l.drop k).flatMap Jab)[j]?=some v->cur[k*9+j]?=some v:=by
  intro j v hj;rw [F1.out.2,zF3] at hj;rw [<-HC.out,zF1 (zB3.1 hj).1];exact hj
 have HS:=zA0 hsl;have HSR:=zA0 hsrc;have HCL:=zA0 hcsl;clear hsl hsrc hcsl;have hb2d:Bk w2.drew w.heap.size (splice (cur.take (k*9) ++ Z) (k*9) (Jab x)) 75:=hb2;go_region_law (go_loud (refine Jdy rfl _ _ _ _ rfl Jc4 (cs:=(l.drop k).flatMap Jab) (off:=(k+1)*9) (dLen:=n+1 - (k+1)) (dCap:=cap - (k+1)) (ad:=⟨g,k*9,none⟩) (sLen:=n - k) (sCap:=n - k) qi0 qi0 hb2d qB0 (fun j v hj=>by show w2.cell? _=_; rw [Addr.add_lit,hgs.cell]; exact HSR.out j v hj) qf0 hcs1 ?_; intro w3 hb3 hg3 hs3))
 go_wp2;go_ret;refine ⟨some ⟨w.heap.size,0,none⟩,cap,rfl,?_,((hg1.but _).andThen hg2 qI1).andThen (show w2.grownBy w3 (some w.heap.size) from ⟨hg3.os,hg3.tape,hg3.output,hg3.size,hg3.block⟩) qI1,.inr rfl⟩
 have hta:cur.take (k*9)=(l.take k).flatMap Jab:=by rw [F1.out.1,<-HC.out,zK5 (by rw [zC5 H2.out,<-HL.out]; omega)]
 have hall:∀ y∈l.take k ++ x :: l.drop k,(Jab y).length=9:=fun y _=>rfl
 have hlen:(l.take k ++ x :: l.drop k).length=n+1:=by rw [zA9,zC2,zD5,zE5,<-HL.out]; omega
 have:=Ow.of_blk (B:=B) (g:=w.heap.size) (c:=cap) (J:=Z.drop (9+((l.drop k).flatMap Jab).length)) hall hB hb3 (by
  have h:=ins2 (cur.take (k*9)) Z ((l.drop k).flatMap Jab) (Jab x);rw [hlt] at h;rw [show (k+1)*9=k*9+(Jab x).length from by show _=k*9+9; omega,h,hta,zF6,zG2]
  simp only [zC0];rfl) qE0 qw0 hc2
 rw [hlen] at this;exact this
theorem Jjr (A:Option Addr) (n k c:Nat) (l:List Node) (x:Node) (w:World) (B vb:Nat) (hown:Ow Jab 9 75 w B (.slice A n c) l) (hk:k<n) (hc:n<c) (hv:Bk w vb (Jab x) 75) (hvA:(Value.slice A n c).ownBlock≠some vb) :
  Calls Tryz.prog 169 #[.slice A n c,.int .i64 k,.slice (some ⟨vb,0,none⟩) 1 1] w (Jee Jab 9 75 B (n+1) (l.take k ++ x :: l.drop k) (Value.slice A n c).ownBlock w):=by
 obtain ⟨g,J,rfl,hBg,hbk,hbl,_,hcm,hnl⟩:=hown.blk qH1;have H2:=zA0 hown.2;have hvg:vb≠g:=qlE;generalize hcur:l.flatMap Jab ++ J=cur at hbk hbl;have HC:=zA0 hcur;have HL:=zA0 hnl;have HBL:=zA0 hbl;clear hcur hown hnl hbl;have hne:((k:Int) == (n:Int))=false:=qXE;have F1:=zA0 (Ja1 H2.out k);have d1:IntKind.i64.wrap ((n:Int)+1)=(n:Int)+1:=qGE;have d2:((n:Int)+1).toNat=n+1:=qCE;have d3:(0:Int)<=(n:Int)+1:=qCE;have d4:(n:Int)+1<=(c:Int):=qCE;have d5:¬ (c:Int)<(n:Int)+1:=qCE;have e1:IntKind.i64.wrap ((k:Int)+1)=(k:Int)+1:=qGE;have e2:((k:Int)+1).toNat=k+1:=qCE;have e3:(0:Int)<=(k:Int)+1:=qCE;have e4:(k:Int)+1<=(n:Int)+1:=qCE;have e5:¬ c=k+1:=qCE;have e6:¬ c=k:=qCE;have e7:(k:Int)<=(n:Int)+1:=qCE;have e8:k<=n:=qCE;have hov:=fun (off lb cb:Nat)=>Jdi Jc4 Tryz.func182 qE1 qE1 qE1 (tB:=4) qE1 hv hbk hvg qn0 off 1 1 lb cb
 go_enter Tryz.func169,Tryz.ntmps169
 go_wp2_with (simp only [hov]);have hcsl:((l.drop k).flatMap Jab).length=(n - k)*9:=qEE;have hcs1:∀ v∈(l.drop k).flatMap Jab,v.oneCell'=true:=qUE;have hsl:(splice cur ((k+1)*9) ((l.drop k).flatMap Jab)).length=c*9:=qOE;have hsrc:∀ (j:Nat) (v:Value),((l.drop k).flatMap Jab)[j]?=some v->cur[k*9+j]?=some v:=by
  intro j v hj;rw [F1.out.2,zF3] at hj;rw [<-HC.out,zF1 (zB3.1 hj).1];exact hj
 have HS:=zA0 hsl;have HSR:=zA0 hsrc;have HCL:=zA0 hcsl;clear hsl hsrc hcsl;have hbd:Bk w.drew g cur 75:=hbk;have hvd:Bk w.drew vb (Jab x) 75:=hv;go_region_law (go_loud (refine Jdy rfl _ _ _ _ rfl Jc4 (cs:=(l.drop k).flatMap Jab) (off:=(k+1)*9) (dLen:=n - k) (dCap:=c - (k+1)) (ad:=⟨g,k*9,none⟩) (sLen:=n+1 - k) (sCap:=c - k) qi0 qi0 hbd qD0 (fun j v hj=>by rw [Addr.add_lit,hbd.cell]; exact HSR.out j v hj) qc0 hcs1 ?_; intro w3 hb3 hg3 hs3))
 go_wp2_with (first | (with_reducible refine Jbl ?_); go_loud (refine Jb8 rfl (.tmp 80) (.tmp 81) _ _ rfl Jc4 (cs:=Jab x) (off:=k*9) (dLen:=n+1 - k) (dCap:=c - k) rfl rfl hb3 qA0 (fun j v hj=>by rw [Addr.add_lit,zG3,(hvd.grown hg3 (by simp; exact hvg)).cell]; exact hj) (by rw [HS.out]; show k*9+9<=_; omega) (Jc8 x) ?_; intro w4 hb4 hg4 hs4))
 go_ret;refine ⟨some ⟨g,0,none⟩,c,rfl,?_,(show w.grownBy w3 (some g) from ⟨hg3.os,hg3.tape,hg3.output,hg3.size,hg3.block⟩).trans hg4,.inl rfl⟩
 have hta:cur=(l.take k).flatMap Jab ++ (l.drop k).flatMap Jab ++ J:=by rw [<-zF6,zD7,HC.out]
 have hlt:((l.take k).flatMap Jab).length=k*9:=by rw [zC5 (fun y hy=>H2.out y (zH7 hy)),zC2,<-HL.out,zF8 qH1]
 have hJ:(Jab x).length<=J.length:=by
  have h:=HBL.out;rw [hta,zA9,zA9,hlt,HCL.out] at h;show 9<=_;omega
 have hall:∀ y∈l.take k ++ x :: l.drop k,(Jab y).length=9:=fun y _=>rfl
 have hlen:(l.take k ++ x :: l.drop k).length=n+1:=by rw [zA9,zC2,zD5,zE5,<-HL.out]; omega
 have:=Ow.of_blk (B:=B) (g:=g) (c:=c) (J:=J.drop (Jab x).length) hall hBg hb4 (by
  have h:=ins1 ((l.take k).flatMap Jab) ((l.drop k).flatMap Jab) J (Jab x) hJ;rw [hlt,<-hta] at h;rw [show (k+1)*9=k*9+(Jab x).length from by show _=k*9+9; omega,h,zF6,zG2]
  simp only [zC0]) (by rw [zI8 _ _ _ (by rw [HS.out]; show k*9+9<=_; omega),HS.out]) qw0 hcm
 rw [hlen] at this;exact this
theorem insNode (v:Value) (k:Nat) (l:List Node) (x:Node) (w:World) (B vb:Nat) (hown:Ow Jab 9 75 w B v l) (hk:k<=l.length) (hv:Bk w vb (Jab x) 75) (hvA:v.ownBlock≠some vb)
  (hB:B<=w.heap.size) (hn:(l.length+1)*88<=140737488355328) :
  Calls Tryz.prog 169 #[v,.int .i64 k,.slice (some ⟨vb,0,none⟩) 1 1] w (Jee Jab 9 75 B (l.length+1) (l.take k ++ x :: l.drop k) v.ownBlock w):=by
 obtain ⟨A,c,rfl,h2⟩:=hown.form;rcases zD1 k l.length with h | h
 ·obtain ⟨g,J,rfl,_,_,_,hnc,_,_⟩:=hown.blk qH1
  by_cases hc:c=l.length
  ·subst hc
   exact Jjs _ _ k l x w B vb hown h hv hB hn
  ·exact Jjr _ _ k c l x w B vb hown h qH1 hv hvA
 ·obtain rfl:k=l.length:=by omega
  rw [zG1,zO8];exact JkC _ _ c l x w B vb hown rfl hv hB hn
theorem Jmw (A:Option Addr) (n c:Nat) (l:List Int) (x:Int) (w:World) (B vb:Nat) (hown:Ow cInt 1 3 w B (.slice A n c) l) (hl:n=l.length) (hv:Bk w vb (cInt x) 3)
  (hB:B<=w.heap.size) (hn:(n+1)*8<=140737488355328) :
  Calls Tryz.prog 134 #[.slice A n c,.int .i64 n,.slice (some ⟨vb,0,none⟩) 1 1] w (Jee cInt 1 3 B (n+1) (l ++ [x]) (Value.slice A n c).ownBlock w):=by
 have H:=zA0 hown;obtain ⟨A',c',hf1,hf2,hf3,hf4,hf5⟩:=hown.form;injection hf1 with e1 e2 e3
 subst e1; subst e3;have HL:=zA0 hl;rw [<-hl] at hf2;have HN:=zA0 hf4;clear hl e2 hown hf4 hf5
 by_cases hcn:c=n
 ·subst hcn
  go_enter Tryz.func134,Tryz.ntmps134
  go_wp2_with (at_builtin; refine Jaf _ rfl (.tmp 23) (.tmp 24) _ rfl Je6 (l:=l) (m:=[x]) rfl rfl H.out (Sl.blk rfl hv) Jd4 qU0 qe0 hB ?_; intro v' w1 hown1 hg1 hat1; obtain ⟨A1,c1,rfl⟩:=Ow.is_slice (m:=c+1) hown1 ql0; have HO:=zA0 hown1; have HG:=zA0 hg1; have HT:=zA0 hat1; clear hown1 hg1 hat1);go_ret;exact ⟨A1,c1,rfl,HO.out,HG.out,HT.out⟩
 ·go_enter Tryz.func134,Tryz.ntmps134
  go_wp2_with (at_builtin; refine Jaf _ rfl (.tmp 23) (.tmp 24) _ rfl Je6 (l:=l) (m:=[x]) rfl rfl H.out (Sl.blk rfl hv) Jd4 qU0 qe0 hB ?_; intro v' w1 hown1 hg1 hat1; obtain ⟨A1,c1,rfl⟩:=Ow.is_slice (m:=n+1) hown1 ql0; have HO:=zA0 hown1; have HG:=zA0 hg1; have HT:=zA0 hat1; clear hown1 hg1 hat1);go_ret;exact ⟨A1,c1,rfl,HO.out,HG.out,HT.out⟩
theorem JkE (A:Option Addr) (n k:Nat) (l:List Int) (x:Int) (w:World) (B vb:Nat) (hown:Ow cInt 1 3 w B (.slice A n n) l) (hk:k<n) (hv:Bk w vb (cInt x) 3)
  (hB:B<=w.heap.size) (hn:(n+1)*8<=140737488355328) :
  Calls Tryz.prog 134 #[.slice A n n,.int .i64 k,.slice (some ⟨vb,0,none⟩) 1 1] w (Jee cInt 1 3 B (n+1) (l.take k ++ x :: l.drop k) (Value.slice A n n).ownBlock w):=by
 obtain ⟨g,J,rfl,hBg,hbk,hbl,_,hcm,hnl⟩:=hown.blk qH1;have H2:=zA0 hown.2;generalize hcur:l.flatMap cInt ++ J=cur at hbk hbl;have HC:=zA0 hcur;have HL:=zA0 hnl;have HBL:=zA0 hbl;clear hcur hown hnl hbl;have ecnt:=zA0 (show (((n+1 - k:Nat):Nat):Int)=(n:Int)+1 - (k:Int) by omega)
 have hne:((k:Int) == (n:Int))=false:=qXE;have F1:=zA0 (Ja1 H2.out k);go_enter Tryz.func134,Tryz.ntmps134
 have hkc:k+(n+1 - k)=n+1:=qCE;have hvg:g<w.heap.size:=hbk.lt;have hvv:vb<w.heap.size:=hv.lt;go_wp2_with (first | (with_reducible refine Jbl ?_); go_loud (refine Jb8 rfl (.tmp 43) (.tmp 44) _ _ rfl Je6 (cs:=cInt x) rfl rfl hb1 qA0 (fun j v hj=>by show w1.cell? _=_; rw [Addr.add_lit,zG3,(hv.grown hg1 qI1).cell]; exact hj) (by have:=HBL.out; simp [hz1,cInt]; omega) (Jd4 x) ?_; intro w2 hb2 hg2 hs2) | at_builtin; go_loud (refine Jdd rfl (.tmp 34) (.tmp 39) _ _ rfl Je6 Tryz.underlying3 (k:=k) (c:=n) (cnt:=n+1 - k) rfl qS0 hbk qn0 qH1 qH1 qs0 qH1 ?_; intro w1 Z cap hb1 hz1 hc1 hc2 hg1 hs1))
 have e1:IntKind.i64.wrap ((k:Int)+1)=(k:Int)+1:=qGE;have e2:((k:Int)+1).toNat=k+1:=qCE;have e3:(0:Int)<=(k:Int)+1:=qCE;have e4:(k:Int)+1<=(n:Int)+1:=qCE;have e5:¬ cap=k+1:=qCE;have e6:¬ n=k:=qCE;have e7:k<=n:=qCE;have hcsl:((l.drop k).flatMap cInt).length=(n - k)*1:=qEE;have hcs1:∀ v∈(l.drop k).flatMap cInt,v.oneCell'=true:=qVE;have hlt:(cur.take (k*1)).length=k*1:=qiE;have hsl:(splice (cur.take (k*1) ++ Z) (k*1) (cInt x)).length=k*1+(cap - k)*1:=by rw [zI8 _ _ _ (by simp only [zA9,hlt,hz1]; show k*1+1<=_; omega),zA9,hlt,hz1]
 have hgs:Bk w2 g cur 3:=(hbk.grown hg1 qI1).grown hg2 qB1;have hsrc:∀ (j:Nat) (v:Value),((l.drop k).flatMap cInt)[j]?=some v->cur[k*1+j]?=some v:=by
  intro j v hj;rw [F1.out.2,zF3] at hj;rw [<-HC.out,zF1 (zB3.1 hj).1];exact hj
 have HS:=zA0 hsl;have HSR:=zA0 hsrc;have HCL:=zA0 hcsl;clear hsl hsrc hcsl;have hb2d:Bk w2.drew w.heap.size (splice (cur.take (k*1) ++ Z) (k*1) (cInt x)) 3:=by rw [zK7]; rw [zK7] at hb2; exact hb2
 go_region_law (go_loud (refine Jdy rfl _ _ _ _ rfl Je6 (cs:=(l.drop k).flatMap cInt) (off:=(k+1)*1) (dLen:=n+1 - (k+1)) (dCap:=cap - (k+1)) (ad:=⟨g,k*1,none⟩) (sLen:=n - k) (sCap:=n - k) qi0 qi0 hb2d qB0 (fun j v hj=>by show w2.cell? _=_; rw [Addr.add_lit,hgs.cell]; exact HSR.out j v hj) qf0 hcs1 ?_; intro w3 hb3 hg3 hs3))
 go_wp2;go_ret;refine ⟨some ⟨w.heap.size,0,none⟩,cap,rfl,?_,((hg1.but _).andThen hg2 qI1).andThen (show w2.grownBy w3 (some w.heap.size) from ⟨hg3.os,hg3.tape,hg3.output,hg3.size,hg3.block⟩) qI1,.inr rfl⟩
 have hta:cur.take (k*1)=(l.take k).flatMap cInt:=by rw [F1.out.1,<-HC.out,zK5 (by rw [zC5 H2.out,<-HL.out]; omega)]
 have hall:∀ y∈l.take k ++ x :: l.drop k,(cInt y).length=1:=fun y _=>rfl
 have hlen:(l.take k ++ x :: l.drop k).length=n+1:=by rw [zA9,zC2,zD5,zE5,<-HL.out]; omega
 have:=Ow.of_blk (B:=B) (g:=w.heap.size) (c:=cap) (J:=Z.drop (1+((l.drop k).flatMap cInt).length)) hall hB hb3 (by
  have h:=ins2 (cur.take (k*1)) Z ((l.drop k).flatMap cInt) (cInt x);rw [hlt] at h;rw [show (k+1)*1=k*1+(cInt x).length from by show _=k*1+1; omega,h,hta,zF6,zG2]
  simp only [zC0];rfl) qE0 qw0 hc2
 rw [hlen] at this;exact this
theorem JkD (A:Option Addr) (n k c:Nat) (l:List Int) (x:Int) (w:World) (B vb:Nat) (hown:Ow cInt 1 3 w B (.slice A n c) l) (hk:k<n) (hc:n<c) (hv:Bk w vb (cInt x) 3) (hvA:(Value.slice A n c).ownBlock≠some vb) :
  Calls Tryz.prog 134 #[.slice A n c,.int .i64 k,.slice (some ⟨vb,0,none⟩) 1 1] w (Jee cInt 1 3 B (n+1) (l.take k ++ x :: l.drop k) (Value.slice A n c).ownBlock w):=by
 obtain ⟨g,J,rfl,hBg,hbk,hbl,_,hcm,hnl⟩:=hown.blk qH1;have H2:=zA0 hown.2;have hvg:vb≠g:=qlE;generalize hcur:l.flatMap cInt ++ J=cur at hbk hbl;have HC:=zA0 hcur;have HL:=zA0 hnl;have HBL:=zA0 hbl;clear hcur hown hnl hbl;have hne:((k:Int) == (n:Int))=false:=qXE;have F1:=zA0 (Ja1 H2.out k);have d1:IntKind.i64.wrap ((n:Int)+1)=(n:Int)+1:=qGE;have d2:((n:Int)+1).toNat=n+1:=qCE;have d3:(0:Int)<=(n:Int)+1:=qCE;have d4:(n:Int)+1<=(c:Int):=qCE;have d5:¬ (c:Int)<(n:Int)+1:=qCE;have e1:IntKind.i64.wrap ((k:Int)+1)=(k:Int)+1:=qGE;have e2:((k:Int)+1).toNat=k+1:=qCE;have e3:(0:Int)<=(k:Int)+1:=qCE;have e4:(k:Int)+1<=(n:Int)+1:=qCE;have e5:¬ c=k+1:=qCE;have e6:¬ c=k:=qCE;have e7:(k:Int)<=(n:Int)+1:=qCE;have e8:k<=n:=qCE;have hov:=fun (off lb cb:Nat)=>Jdi Je6 Tryz.func165 qE1 qE1 qE1 (tB:=4) qE1 hv hbk hvg qn0 off 1 1 lb cb
 go_enter Tryz.func134,Tryz.ntmps134
 go_wp2_with (simp only [hov]);have hcsl:((l.drop k).flatMap cInt).length=(n - k)*1:=qEE;have hcs1:∀ v∈(l.drop k).flatMap cInt,v.oneCell'=true:=qVE;have hsl:(splice cur ((k+1)*1) ((l.drop k).flatMap cInt)).length=c*1:=qOE;have hsrc:∀ (j:Nat) (v:Value),((l.drop k).flatMap cInt)[j]?=some v->cur[k*1+j]?=some v:=by
  intro j v hj;rw [F1.out.2,zF3] at hj;rw [<-HC.out,zF1 (zB3.1 hj).1];exact hj
 have HS:=zA0 hsl;have HSR:=zA0 hsrc;have HCL:=zA0 hcsl;clear hsl hsrc hcsl;have hbd:Bk w.drew g cur 3:=hbk;have hvd:Bk w.drew vb (cInt x) 3:=hv;go_region_law (go_loud (refine Jdy rfl _ _ _ _ rfl Je6 (cs:=(l.drop k).flatMap cInt) (off:=(k+1)*1) (dLen:=n - k) (dCap:=c - (k+1)) (ad:=⟨g,k*1,none⟩) (sLen:=n+1 - k) (sCap:=c - k) qi0 qi0 hbd qD0 (fun j v hj=>by rw [Addr.add_lit,hbd.cell]; exact HSR.out j v hj) qc0 hcs1 ?_; intro w3 hb3 hg3 hs3))
 go_wp2_with (first | (with_reducible refine Jbl ?_); go_loud (refine Jb8 rfl (.tmp 80) (.tmp 81) _ _ rfl Je6 (cs:=cInt x) (off:=k*1) (dLen:=n+1 - k) (dCap:=c - k) (by first | rfl | simp [Act.eval]) rfl hb3 qA0 (fun j v hj=>by rw [Addr.add_lit,zG3,(hvd.grown hg3 (by simp; exact hvg)).cell]; exact hj) (by rw [HS.out]; show k*1+1<=_; omega) (Jd4 x) ?_; intro w4 hb4 hg4 hs4))
 go_ret;refine ⟨some ⟨g,0,none⟩,c,rfl,?_,(show w.grownBy w3 (some g) from ⟨hg3.os,hg3.tape,hg3.output,hg3.size,hg3.block⟩).trans hg4,.inl rfl⟩
 have hta:cur=(l.take k).flatMap cInt ++ (l.drop k).flatMap cInt ++ J:=by rw [<-zF6,zD7,HC.out]
 have hlt:((l.take k).flatMap cInt).length=k*1:=by rw [zC5 (fun y hy=>H2.out y (zH7 hy)),zC2,<-HL.out,zF8 qH1]
 have hJ:(cInt x).length<=J.length:=by
  have h:=HBL.out;rw [hta,zA9,zA9,hlt,HCL.out] at h;show 1<=_;omega
 have hall:∀ y∈l.take k ++ x :: l.drop k,(cInt y).length=1:=fun y _=>rfl
 have hlen:(l.take k ++ x :: l.drop k).length=n+1:=by rw [zA9,zC2,zD5,zE5,<-HL.out]; omega
 have:=Ow.of_blk (B:=B) (g:=g) (c:=c) (J:=J.drop (cInt x).length) hall hBg hb4 (by
  have h:=ins1 ((l.take k).flatMap cInt) ((l.drop k).flatMap cInt) J (cInt x) hJ;rw [hlt,<-hta] at h;rw [show (k+1)*1=k*1+(cInt x).length from by show _=k*1+1; omega,h,zF6,zG2]
  simp only [zC0]) (by rw [zI8 _ _ _ (by rw [HS.out]; show k*1+1<=_; omega),HS.out]) qw0 hcm
 rw [hlen] at this;exact this
theorem insInt (v:Value) (k:Nat) (l:List Int) (x:Int) (w:World) (B vb:Nat) (hown:Ow cInt 1 3 w B v l) (hk:k<=l.length) (hv:Bk w vb (cInt x) 3) (hvA:v.ownBlock≠some vb)
  (hB:B<=w.heap.size) (hn:(l.length+1)*8<=140737488355328) :
  Calls Tryz.prog 134 #[v,.int .i64 k,.slice (some ⟨vb,0,none⟩) 1 1] w (Jee cInt 1 3 B (l.length+1) (l.take k ++ x :: l.drop k) v.ownBlock w):=by
 obtain ⟨A,c,rfl,h2⟩:=hown.form;rcases zD1 k l.length with h | h
 ·obtain ⟨g,J,rfl,_,_,_,hnc,_,_⟩:=hown.blk qH1
  by_cases hc:c=l.length
  ·subst hc
   exact JkE _ _ k l x w B vb hown h hv hB hn
  ·exact JkD _ _ k c l x w B vb hown h qH1 hv hvA
 ·obtain rfl:k=l.length:=by omega
  rw [zG1,zO8];exact Jmw _ _ c l x w B vb hown rfl hv hB hn
end
end Go.Proofs.YtjnooagaghdkdaaGreatDoor
