/-L-/
import Derived.Deep.CutRange
import Derived.Test.YtjnooagaghdkdaaGreatDoorZ14
set_option maxHeartbeats 10000000
set_option maxRecDepth 100000
set_option linter.all false
namespace Go.Proofs.YtjnooagaghdkdaaGreatDoor
open Go.RowKit Go.ChangeShapes Go.WideShapes Go.ChangeAt
end Go.Proofs.YtjnooagaghdkdaaGreatDoor
namespace Go.Proofs.YtjnooagaghdkdaaGreatDoor
section
open Go.RowKit Go.ChangeShapes Go.WideShapes Go.ChangeAt
abbrev sessB (t:Tr):Bool:=(List.range t.sess.length).all (okS t.sess)
abbrev nodesB (t:Tr):Bool:=(List.range t.nodes.length).all (okN t)
abbrev Jmq (t:Tr):Bool:=t.nodes.all (fun n=>decide (n.kids=((t.nodes.countP (kidB n.path):Nat):Int)))
theorem Jon {t:Tr} (h:sessB t=false):Jan t=false:=by unfold Jan; rw [show (List.range t.sess.length).all (okS t.sess)=false from h,zJ5,zJ6]
theorem Jmz {t:Tr} (h:nodesB t=false):Jan t=false:=by unfold Jan; rw [show (List.range t.nodes.length).all (okN t)=false from h,zJ5,zJ6,zJ6]
theorem Jop {t:Tr} (h:Jmq t=false):Jan t=false:=by unfold Jan; rw [show t.nodes.all (fun n=>decide (n.kids=((t.nodes.countP (kidB n.path):Nat):Int)))=false from h,zJ6,zJ6,zJ6]
theorem good_all {t:Tr} (h1:JfG t=true) (h2:sessB t=true) (h3:nodesB t=true) (h4:Jmq t=true):Jan t=true:=by
 unfold Jan;rw [h1,show (List.range t.sess.length).all (okS t.sess)=true from h2,show (List.range t.nodes.length).all (okN t)=true from h3,show t.nodes.all (fun n=>decide (n.kids=((t.nodes.countP (kidB n.path):Nat):Int)))=true from h4]
 rfl
theorem all_no {n:Nat} {f:Nat->Bool} {k:Nat} (hk:k<n) (h:f k=false):(List.range n).all f=false:=by
 rw [zQ0];intro ha;rw [List.all_eq_true] at ha;rw [ha k (zK0.2 hk)] at h;cases h
theorem Jpo {n:Nat} {f:Nat->Bool} (h:∀ k,k<n->f k=true):(List.range n).all f=true:=List.all_eq_true.2 fun k hk=>h k (zK0.1 hk)
theorem JkU {l:List Node} {k:Nat} {x:Node} (h:l[k]?=some x) (q:ByteArray):(l.take (k+1)).countP (kidB q)=(l.take k).countP (kidB q)+(if kidB q x then 1 else 0):=by
 rw [zF7,h];simp [zN3,zP6]
theorem Cnt.mono {w:World} {b n m:Nat} {c:ByteArray->Int} (h:Cnt w b n c) (hn:n<=m):Cnt w b m c:=by
 obtain ⟨D,h,hc⟩:=h;exact ⟨D,h.mono hn,hc⟩
theorem Cnt.lt {w:World} {b n:Nat} {c:ByteArray->Int} (h:Cnt w b n c):b<w.heap.size:=by
 obtain ⟨D,h,_⟩:=h;exact h.lt
theorem Cnt.same {w:World} {b n:Nat} {c c':ByteArray->Int} (h:Cnt w b n c) (hc:∀ q,c' q=c q):Cnt w b n c':=by
 rw [funext hc]
 exact h
theorem less_is (y:Node) (p:ByteArray):Op.bytesLess y.path.toList p.toList=decide (cmpB y.path p<0):=by
 rw [zE4,zE4,Jc1];rfl
theorem statB_q (z:Int) (xp xd:ByteArray) (xz xm xq xv xc xo xk:Int):Jnz z ⟨xp,xd,xz,xm,xq,xv,xc,xo,xk⟩ =
  !(decide (xv<0) || (decide (2147483647<xv) || (decide (xc<0) || (decide (2147483647<xc) || (decide (xz<0) || (decide (xm<xz) || (decide (xq<xz) || (decide (z<xm) || decide (z<xq))))))))):=by
 rw [zN8];unfold Jnz;simp only [decide_eq_true_eq,Bool.not_eq_true',zN5,decide_eq_false_iff_not];omega
theorem size_q (d:ByteArray):decide (d.size<=256)=!decide ((256:Int)<(d.size:Int)):=by
 rw [zN8];simp only [decide_eq_true_eq,Bool.not_eq_true',decide_eq_false_iff_not];omega
theorem ownB_q (ss:List Int) (xp xd:ByteArray) (xz xm xq xv xc xo xk:Int):ownB ss ⟨xp,xd,xz,xm,xq,xv,xc,xo,xk⟩=((xo == 0) || (isI ss xo && (xk == 0))):=by
 unfold ownB;rw [zN8];simp
theorem gen_k {K:Act->World->Prop} {a:Act} {w:World} (h:∀ W,Hid (W=w)->K a W):K a w:=h w (zA0 rfl)
theorem Jpm {B b:Nat} {a X w2:World} (h:Below B a X) (hB:B<=X.heap.size) (hb:B<=b) (hg:X.grownBy w2 (some b)):Below B a w2:=by
 obtain ⟨g1,g2,g3,g4,g5⟩:=hg;exact h.trans ⟨g1,g2,g3,g4,fun k hk=>g5 k qH1 qB1⟩
theorem Jmd (s:ByteArray):(Jac s).1.size<=200:=by
 unfold Jac
 by_cases h:Jaw s=true
 ·rw [if_pos h]
  have:=(Ja6 h).2
  by_cases h2:s=slash
  ·rw [if_pos h2]
   show (0:Nat)<=200;omega
  ·rw [if_neg h2]
   by_cases h3:Jbk s=0
   ·rw [if_pos h3]
    show (1:Nat)<=200;omega
   ·rw [if_neg h3]
    show (s.extract 0 (Jbk s)).size<=200;rw [zH5];omega
 ·rw [if_neg h]
  show (0:Nat)<=200;omega
theorem Jkd (z:Int) (v v2:Value) (l:List Node) (ss:List Int) (w:World) (h:Sl Jab 9 w v l) (h2:Sl cInt 1 w v2 ss) (hn:ss.length<=140737488355328) (hh:JfG ⟨z,l,ss⟩=true) (hz:∀ n∈l,n.path.size<=9223372036854775807) :
  Calls Tryz.prog 101 #[.agg #[.int .i64 z,v,v2]] w fun e w'=>e=.returned (.bool (Jan ⟨z,l,ss⟩))/\Below w.heap.size w w':=by
 obtain ⟨A,c,rfl,h1,h1b⟩:=h.form;obtain ⟨A2,c2,rfl,h3,h3b⟩:=h2.form;have H:=zA0 h;have H2:=zA0 h2;have HG:=zA0 (fun (W:World) (hz:Zx z)=>Ja4 z W hz)
 obtain ⟨hl4,hzx,n,hn0,hp,ho⟩:=JlB hh;have HF1:=zA0 (fun k (hk:k<ss.length) (h:okS ss k=false)=>Jon (t:=⟨z,l,ss⟩) (all_no hk h))
 have HF2:=zA0 (fun k (hk:k<l.length) (h:okN ⟨z,l,ss⟩ k=false)=>Jmz (t:=⟨z,l,ss⟩) (all_no hk h))
 have HF3:=zA0 (fun (h:Jmq ⟨z,l,ss⟩=false)=>Jop (t:=⟨z,l,ss⟩) h)
 have HF4:=zA0 (fun (hs:∀ k,k<ss.length->okS ss k=true) (hn:∀ k,k<l.length->okN ⟨z,l,ss⟩ k=true) (hk:Jmq ⟨z,l,ss⟩=true)=>good_all hh (Jpo hs) (Jpo hn) hk)
 obtain ⟨bk,off,rfl,hbw,n0,n1,n2,n3,n4,n5,n6,n7,n8⟩:=h.Node_at hn0;simp only [Nat.zero_mul,zH9] at n0 n1 n2 n3 n4 n5 n6 n7 n8;rw [hp] at n0;rw [ho] at n7;have hpp:(slash.toList == [47])=true:=by unfold slash; rw [zE4]; rfl
 have hm1:0<l.length:=(zB3.1 hn0).1;have hm0:((l.length:Int) == 0)=false:=zB7.2 qH1;have hm4:decide ((400:Int)<(l.length:Int))=false:=zA7 qH1;generalize Jan ⟨z,l,ss⟩=gt at *;clear h h2 hh hn0 hp ho;go_enter Tryz.func101,Tryz.ntmps101
 go_upto_region 3 with ((go_at_call 95; refine (HG.out _ hzx).mono ?_; rintro e w1 ⟨rfl,rfl⟩; skip))
 clear n0 n1 n2 n3 n4 n5 n6 n7 n8 HG;go_wp2_with fail;go_loopw [52] (fun i wr=>∃ k:Nat,k<=ss.length/\i=.int .i64 k/\Hid (∀ i,i<k->okS ss i=true)/\wr=w.alloc (.cells #[.int .i64 z,.slice (some ⟨bk,off,none⟩) l.length c,.slice A2 ss.length c2] 68)) (fun i _=>ss.length - (intOf i).toNat)
 case atStart=>exact ⟨0,zB9 _,rfl,zA0 (fun i hi=>absurd hi (Nat.not_lt_zero _)),rfl⟩
 case round=>
  obtain ⟨k,hk,rfl,hall,rfl⟩:=hrel
  by_cases hlt:k<ss.length
  ·as_aux_lemma=>
   have hx:ss[k]?=some (ss[k]'hlt):=zA8 _;obtain ⟨b,o,rfl,hb,s0⟩:=(H2.out.below (w':=w.alloc (.cells #[.int .i64 z,.slice (some ⟨bk,off,none⟩) l.length c,.slice A2 ss.length c2] 68)) zR).Int_at hx;generalize ss[k]'hlt=s at *
   by_cases g1:s<1
   ·have hbad:gt=false:=HF1.out k hlt (by
     cases k with
     | zero=>rw [okS_0 hx,zA7 qH1]; rfl
     | succ j=>rw [JnY hx (zA8 qH1),zA7 qH1]; rfl)
    have hd:decide (s<1)=true:=zB0 g1;subst hbad;clear hx g1;go_wp2_with fail;go_ret;exact ⟨rfl,zR⟩
   ·have hd1:decide (s<1)=false:=zA7 g1
    by_cases g2:2147483647<s
    ·have hbad:gt=false:=HF1.out k hlt (by
      cases k with
      | zero=>rw [okS_0 hx,zB0 qH1,zA7 qH1]; rfl
      | succ j=>rw [JnY hx (zA8 qH1),zB0 qH1,zA7 qH1]; rfl)
     have hd:decide (2147483647<s)=true:=zB0 g2;subst hbad;clear hx g1 g2;go_wp2_with fail;go_ret;exact ⟨rfl,zR⟩
    ·have hd2:decide (2147483647<s)=false:=zA7 g2
     cases k with
     | zero=>
      have hok:=okS_0 hx;rw [zB0 qH1,zB0 qH1] at hok;have HOK:=zA0 hok;simp only [zH9] at s0;clear hx g1 g2 hok;go_wp2_with fail;go_roundw
      case rel=>exact ⟨1,by omega,by go_num,zA0 (fun i hi=>(by omega:i=0)▸HOK.out),by first | rfl | trivial⟩
      case measure=>simp [intOf]; omega
     | succ j=>
      have hy:ss[j]?=some (ss[j]'qH1):=zA8 _;obtain ⟨b',o',hA',_,s1⟩:=(H2.out.below (w':=w.alloc (.cells #[.int .i64 z,.slice (some ⟨bk,off,none⟩) l.length c,.slice (some ⟨b,o,none⟩) ss.length c2] 68)) zR).Int_at hy;cases hA';generalize ss[j]'qH1=y at *;have hok:=JnY hx hy;rw [zB0 (show 1<=s by omega),zB0 (show s<=2147483647 by omega)] at hok
      have hwj:IntKind.i64.wrap ((j:Int)+1 - 1)=(j:Int):=qHE;have hjc:j<c2:=qCE;have hj0:decide (0<(j:Int)+1)=true:=zB0 qH1
      by_cases g3:s<=y
      ·have hbad:gt=false:=HF1.out (j+1) hlt (by rw [hok,zA7 qH1]; rfl)
       have hd:decide (s<=y)=true:=zB0 g3;subst hbad;clear hx hy hok g1 g2 g3;go_wp2_with fail;go_ret;exact ⟨rfl,zR⟩
      ·have hd:decide (s<=y)=false:=zA7 g3
       rw [zB0 (show y<s by omega)] at hok
       have HOK:=zA0 hok;clear hx hy hok g1 g2 g3;go_wp2_with fail;go_roundw
       case rel=>exact ⟨j+1+1,by omega,by go_num,zA0 (fun i hi=>by
        rcases zD1 i (j+1) with h | h
        ·exact hall.out i h
        ·obtain rfl:i=j+1:=by omega
         rw [HOK.out]; rfl),by first | rfl | trivial⟩
       case measure=>simp [intOf]; omega
  ·have hkl:k=ss.length:=by omega
   subst hkl;clear hk hlt;have hmm:=@run_makeMap Tryz.prog;go_upto_region 10 with fail
   refine Jax (fun W1 hW1=>?_)
   have hb1:Below w.heap.size w W1:=qNE;have kb0:W1.cell? ⟨w.heap.size,0,none⟩=some (.int .i64 z):=qmE;have kb1:W1.cell? ⟨w.heap.size,1,none⟩=some (.slice (some ⟨bk,off,none⟩) l.length c):=qmE;have kb2:W1.cell? ⟨w.heap.size,2,none⟩=some (.slice A2 ss.length c2):=qmE;have hsz1:W1.heap.size=w.heap.size+1+1:=by rw [hW1.out]; simp
   have HC1:Hid (Cnt W1 (w.heap.size+1) 0 (fun q=>(((l.take 0).countP (kidB q):Nat):Int))):=zA0 (by rw [hW1.out]; have hq:=Cnt.made (w.alloc (.cells #[.int .i64 z,.slice (some ⟨bk,off,none⟩) l.length c,.slice A2 ss.length c2] 68)); simpa using hq)
   clear hW1 hmm HF1;go_wp2_with fail;go_loopw [82] (fun i wr=>∃ k:Nat,k<=l.length/\i=.int .i64 k/\Hid (∀ i,i<k->okN ⟨z,l,ss⟩ i=true)/\Hid (Cnt wr (w.heap.size+1) k (fun q=>(((l.take k).countP (kidB q):Nat):Int)))/\Below (w.heap.size+1) W1 wr) (fun i _=>l.length - (intOf i).toNat)
   case atStart=>exact ⟨0,zB9 _,rfl,zA0 (fun i hi=>absurd hi (Nat.not_lt_zero _)),HC1,zB6 _ _⟩
   case round=>
    obtain ⟨k,hk,rfl,halln,hcn,hbx⟩:=hrel;have hbwr:Below w.heap.size w wr:=hb1.trans (hbx.mono qH1);have kk0:=(hbx.cell (p:=⟨w.heap.size,0,none⟩) (zN2 _)).trans kb0;have kk1:=(hbx.cell (p:=⟨w.heap.size,1,none⟩) (zN2 _)).trans kb1;have kk2:=(hbx.cell (p:=⟨w.heap.size,2,none⟩) (zN2 _)).trans kb2;have hmb:=Cnt.lt hcn.out
    by_cases hlt:k<l.length
    ·have hx:l[k]?=some (l[k]'hlt):=zA8 _
     obtain ⟨bk',off',hA,_,c0,c1,c2',c3,c4,c5,c6,c7,c8⟩:=(H.out.below hbwr).Node_at hx;cases hA;have hmem:=zD3 hx;have HPG:=zA0 (fun (W:World)=>JcG (l[k]'hlt).path W (hz _ hmem))
     have HSP:=zA0 (fun (W:World)=>Jdz (l[k]'hlt).path W (hz _ hmem))
     have HOP:=zA0 (fun (W:World) (h:Sl cInt 1 W (.slice A2 ss.length c2) ss)=>JiO z (.slice A2 ss.length c2) (some ⟨bk,off,none⟩) l.length c ss (l[k]'hlt).owner W h hn)
     have HFD:=zA0 (fun (W:World) (h:Sl Jab 9 W (.slice (some ⟨bk,off,none⟩) l.length c) l)=>JfX z (.slice (some ⟨bk,off,none⟩) l.length c) A2 ss.length c2 l (Jac (l[k]'hlt).path).1 W h qH1)
     have hokk:=JnZ (z:=z) (ss:=ss) hx;have hcs:=JkU hx;have hpsz:=hz _ hmem;generalize l[k]'hlt=x at *;obtain ⟨xp,xd,xz,xm,xq,xv,xc,xo,xk⟩:=x;simp only at *;rw [size_q,statB_q,ownB_q] at hokk;have HCS:=zA0 hcs;have HX:=zA0 hx;clear hx hmem hcs;go_upto_region 14 with fail
     obtain ⟨okb,hokb⟩:∃ b,b=(Jaw xp && (!decide ((256:Int)<(xd.size:Int)) && (Jmp l k ⟨xp,xd,xz,xm,xq,xv,xc,xo,xk⟩ && !(decide (xv<0) || (decide (2147483647<xv) || (decide (xc<0) || (decide (2147483647<xc) || (decide (xz<0) || (decide (xm<xz) || (decide (xq<xz) || (decide (z<xm) || decide (z<xq)))))))))))):=⟨_,rfl⟩
     have HOKK:=zA0 (show okN ⟨z,l,ss⟩ k=(okb && (((xo == 0) || (isI ss xo && (xk == 0))) && (decide ((Jac xp).2.2≠0) || hasN l (Jac xp).1))) by rw [hokk,hokb]; simp only [Bool.and_assoc]; rfl)
     have HCQ:=zA0 (fun q=>show (l.take (k+1)).countP (kidB q)=(l.take k).countP (kidB q)+(if (decide ((Jac xp).2.2=0) && decide ((Jac xp).1=q))=true then 1 else 0) from HCS.out q)
     have hsd:=Jmd xp;obtain ⟨nb,hnb⟩:∃ b,b=!okb:=⟨_,rfl⟩;clear hokk HCS;go_cut [167] from 83 to 204 (fun s167 wx=>s167=.bool nb/\∃ ext d,wx=grow ((wr.alloc (.cells #[.string xp,.string xd,.int .i64 xz,.int .i64 xm,.int .i64 xq,.int .i64 xv,.int .i64 xc,.int .i64 xo,.int .i64 xk] 75)).alloc (.cells #[.int .i64 xz,.int .i64 xm,.int .i64 xq,.int .i64 xv,.int .i64 xc,.int .i64 xo,.int .i64 xk] 32)) ext d)
     case first=>
      clear HOKK HCQ hsd HSP HOP HFD HF2 HF3 HF4 halln hcn HC1;obtain ⟨gd,hgd⟩:∃ b,decide ((256:Int)<(xd.size:Int))=b:=⟨_,rfl⟩;obtain ⟨q0,hq0⟩:∃ b,decide (xv<0)=b:=⟨_,rfl⟩;obtain ⟨q1,hq1⟩:∃ b,decide (2147483647<xv)=b:=⟨_,rfl⟩;obtain ⟨q2,hq2⟩:∃ b,decide (xc<0)=b:=⟨_,rfl⟩;obtain ⟨q3,hq3⟩:∃ b,decide (2147483647<xc)=b:=⟨_,rfl⟩;obtain ⟨q4,hq4⟩:∃ b,decide (xz<0)=b:=⟨_,rfl⟩;obtain ⟨q5,hq5⟩:∃ b,decide (xm<xz)=b:=⟨_,rfl⟩;obtain ⟨q6,hq6⟩:∃ b,decide (xq<xz)=b:=⟨_,rfl⟩;obtain ⟨q7,hq7⟩:∃ b,decide (z<xm)=b:=⟨_,rfl⟩;obtain ⟨q8,hq8⟩:∃ b,decide (z<xq)=b:=⟨_,rfl⟩;rw [hgd,hq0,hq1,hq2,hq3,hq4,hq5,hq6,hq7,hq8] at hokb;obtain ⟨ng,hng⟩:∃ b,(!Jaw xp)=b:=⟨_,rfl⟩;rw [show Jaw xp=!ng by rw [<-hng,Bool.not_not]] at hokb
      have HOB:=zA0 hokb;have HNB:=zA0 hnb;clear hokb hnb
      -- REGION 14
      refine JbF (by as_aux_lemma=>kernel_rfl) (by as_aux_lemma=>kernel_rfl) ?_
      simp only [List.append];refine JaU 10 89 9 (ng || gd) ?hs0 ?hr0
      case hs0=>
       as_aux_lemma=>
       simp only [List.take]
       repeat' (first | go_big_quiet_skip | (go_big_quiet_want; go_big_quiet_op; first | go_big_quiet_on | (apply Exists.intro; refine ⟨fun _=>?hqg1,?hqg2⟩; (case hqg1=>(go_at_call 31; refine Calls.grow_of (HPG.out _))); go_big_quiet_on)) | cases ng)
       all_goals exact wpQuiet_nil ⟨rfl,by kernel_rfl,by kernel_rfl,by kernel_rfl⟩
      intro m1 b1 hb1;simp only [List.take,List.drop,junk,zF9,zE0,Nat.reduceAdd];refine JaU 16 89 25 (b1 || !Jmp l k ⟨xp,xd,xz,xm,xq,xv,xc,xo,xk⟩) ?hs1 ?hr1
      case hs1=>
       as_aux_lemma=>
       simp only [List.take];cases k with
       | zero=>
        simp only [Nat.zero_mul,zH9] at c0 c1 c2' c3 c4 c5 c6 c7 c8
        repeat' (first | go_big_quiet_skip | (go_big_quiet_want; go_big_quiet_op; first | go_big_quiet_on | (apply Exists.intro; refine ⟨fun _=>?hqg1,?hqg2⟩; (case hqg1=>(go_at_call 31; refine Calls.grow_of (HPG.out _))); go_big_quiet_on)) | cases b1)
        all_goals exact wpQuiet_nil ⟨rfl,by kernel_rfl,by kernel_rfl,by kernel_rfl⟩
       | succ j=>
        have hy:l[j]?=some (l[j]'qH1):=zA8 _;obtain ⟨bk2,off2,hA2,_,y0,_⟩:=(H.out.below hbwr).Node_at hy;cases hA2;have hlb0:=JkA hy ⟨xp,xd,xz,xm,xq,xv,xc,xo,xk⟩;generalize l[j]'qH1=y at *;simp only at hlb0;rw [<-less_is] at hlb0;rw [hlb0];have hwj:IntKind.i64.wrap ((j:Int)+1 - 1)=(j:Int):=qHE;have hj0:decide (0<(j:Int)+1)=true:=zB0 qH1;have hjc:j<l.length:=qCE;obtain ⟨ls,hls⟩:∃ b,(!Op.bytesLess y.path.toList xp.toList)=b:=⟨_,rfl⟩;rw [hls];clear hlb0 hy HX
        repeat' (first | go_big_quiet_skip | (go_big_quiet_want; go_big_quiet_op; first | go_big_quiet_on | (apply Exists.intro; refine ⟨fun _=>?hqg1,?hqg2⟩; (case hqg1=>(go_at_call 31; refine Calls.grow_of (HPG.out _))); go_big_quiet_on)) | cases b1)
        all_goals exact wpQuiet_nil ⟨rfl,by kernel_rfl,by kernel_rfl,by kernel_rfl⟩
      intro m2 b2 hb2;simp only [List.take,List.drop,junk,zF9,zE0,Nat.reduceAdd];refine JaU 5 89 30 (b2 || q0) ?hs2 ?hr2
      case hs2=>
       as_aux_lemma=>
       simp only [List.take]
       repeat' (first | go_big_quiet_skip | (go_big_quiet_want; go_big_quiet_op; first | go_big_quiet_on | (apply Exists.intro; refine ⟨fun _=>?hqg1,?hqg2⟩; (case hqg1=>(go_at_call 31; refine Calls.grow_of (HPG.out _))); go_big_quiet_on)) | cases b2)
       all_goals exact wpQuiet_nil ⟨rfl,by kernel_rfl,by kernel_rfl,by kernel_rfl⟩
      intro m3 b3 hb3;simp only [List.take,List.drop,junk,zF9,zE0,Nat.reduceAdd];refine JaU 5 89 35 (b3 || q1) ?hs3 ?hr3
      case hs3=>
       as_aux_lemma=>
       simp only [List.take]
       repeat' (first | go_big_quiet_skip | (go_big_quiet_want; go_big_quiet_op; first | go_big_quiet_on | (apply Exists.intro; refine ⟨fun _=>?hqg1,?hqg2⟩; (case hqg1=>(go_at_call 31; refine Calls.grow_of (HPG.out _))); go_big_quiet_on)) | cases b3)
       all_goals exact wpQuiet_nil ⟨rfl,by kernel_rfl,by kernel_rfl,by kernel_rfl⟩
      intro m4 b4 hb4;simp only [List.take,List.drop,junk,zF9,zE0,Nat.reduceAdd];refine JaU 5 89 40 (b4 || q2) ?hs4 ?hr4
      case hs4=>
       as_aux_lemma=>
       simp only [List.take]
       repeat' (first | go_big_quiet_skip | (go_big_quiet_want; go_big_quiet_op; first | go_big_quiet_on | (apply Exists.intro; refine ⟨fun _=>?hqg1,?hqg2⟩; (case hqg1=>(go_at_call 31; refine Calls.grow_of (HPG.out _))); go_big_quiet_on)) | cases b4)
       all_goals exact wpQuiet_nil ⟨rfl,by kernel_rfl,by kernel_rfl,by kernel_rfl⟩
      intro m5 b5 hb5;simp only [List.take,List.drop,junk,zF9,zE0,Nat.reduceAdd];refine JaU 5 89 45 (b5 || q3) ?hs5 ?hr5
      case hs5=>
       as_aux_lemma=>
       simp only [List.take]
       repeat' (first | go_big_quiet_skip | (go_big_quiet_want; go_big_quiet_op; first | go_big_quiet_on | (apply Exists.intro; refine ⟨fun _=>?hqg1,?hqg2⟩; (case hqg1=>(go_at_call 31; refine Calls.grow_of (HPG.out _))); go_big_quiet_on)) | cases b5)
       all_goals exact wpQuiet_nil ⟨rfl,by kernel_rfl,by kernel_rfl,by kernel_rfl⟩
      intro m6 b6 hb6;simp only [List.take,List.drop,junk,zF9,zE0,Nat.reduceAdd];refine JaU 5 89 50 (b6 || q4) ?hs6 ?hr6
      case hs6=>
       as_aux_lemma=>
       simp only [List.take]
       repeat' (first | go_big_quiet_skip | (go_big_quiet_want; go_big_quiet_op; first | go_big_quiet_on | (apply Exists.intro; refine ⟨fun _=>?hqg1,?hqg2⟩; (case hqg1=>(go_at_call 31; refine Calls.grow_of (HPG.out _))); go_big_quiet_on)) | cases b6)
       all_goals exact wpQuiet_nil ⟨rfl,by kernel_rfl,by kernel_rfl,by kernel_rfl⟩
      intro m7 b7 hb7;simp only [List.take,List.drop,junk,zF9,zE0,Nat.reduceAdd];refine JaU 7 89 57 (b7 || q5) ?hs7 ?hr7
      case hs7=>
       as_aux_lemma=>
       simp only [List.take]
       repeat' (first | go_big_quiet_skip | (go_big_quiet_want; go_big_quiet_op; first | go_big_quiet_on | (apply Exists.intro; refine ⟨fun _=>?hqg1,?hqg2⟩; (case hqg1=>(go_at_call 31; refine Calls.grow_of (HPG.out _))); go_big_quiet_on)) | cases b7)
       all_goals exact wpQuiet_nil ⟨rfl,by kernel_rfl,by kernel_rfl,by kernel_rfl⟩
      intro m8 b8 hb8;simp only [List.take,List.drop,junk,zF9,zE0,Nat.reduceAdd];refine JaU 7 89 64 (b8 || q6) ?hs8 ?hr8
      case hs8=>
       as_aux_lemma=>
       simp only [List.take]
       repeat' (first | go_big_quiet_skip | (go_big_quiet_want; go_big_quiet_op; first | go_big_quiet_on | (apply Exists.intro; refine ⟨fun _=>?hqg1,?hqg2⟩; (case hqg1=>(go_at_call 31; refine Calls.grow_of (HPG.out _))); go_big_quiet_on)) | cases b8)
       all_goals exact wpQuiet_nil ⟨rfl,by kernel_rfl,by kernel_rfl,by kernel_rfl⟩
      intro m9 b9 hb9;simp only [List.take,List.drop,junk,zF9,zE0,Nat.reduceAdd];refine JaU 7 89 71 (b9 || q7) ?hs9 ?hr9
      case hs9=>
       as_aux_lemma=>
       simp only [List.take]
       repeat' (first | go_big_quiet_skip | (go_big_quiet_want; go_big_quiet_op; first | go_big_quiet_on | (apply Exists.intro; refine ⟨fun _=>?hqg1,?hqg2⟩; (case hqg1=>(go_at_call 31; refine Calls.grow_of (HPG.out _))); go_big_quiet_on)) | cases b9)
       all_goals exact wpQuiet_nil ⟨rfl,by kernel_rfl,by kernel_rfl,by kernel_rfl⟩
      intro m10 b10 hb10;simp only [List.take,List.drop,junk,zF9,zE0,Nat.reduceAdd];refine JaU 7 89 78 (b10 || q8) ?hs10 ?hr10
      case hs10=>
       as_aux_lemma=>
       simp only [List.take]
       repeat' (first | go_big_quiet_skip | (go_big_quiet_want; go_big_quiet_op; first | go_big_quiet_on | (apply Exists.intro; refine ⟨fun _=>?hqg1,?hqg2⟩; (case hqg1=>(go_at_call 31; refine Calls.grow_of (HPG.out _))); go_big_quiet_on)) | cases b10)
       all_goals exact wpQuiet_nil ⟨rfl,by kernel_rfl,by kernel_rfl,by kernel_rfl⟩
      intro m11 b11 hb11;simp only [List.take,List.drop,junk,zF9,zE0,Nat.reduceAdd];refine wpQuiet_nil ?_;rintro _ ⟨⟨extq,dq⟩,rfl⟩;dsimp only;go_wp2_with fail;go_meet;refine ⟨congrArg Value.bool ?_,_,_,rfl⟩;rw [HNB.out,HOB.out,<-hb11.out,<-hb10.out,<-hb9.out,<-hb8.out,<-hb7.out,<-hb6.out,<-hb5.out,<-hb4.out,<-hb3.out,<-hb2.out,<-hb1.out];simp only [Bool.not_and,Bool.not_not,Bool.or_assoc]
      -- END 14
     case rest=>
      obtain ⟨rfl,ext0,d0,rfl⟩:=hcut;refine gen_k (fun W2 hW2=>?_)
      have hb2:Below wr.heap.size wr W2:=by rw [hW2.out]; exact zR
      have hs2:wr.heap.size+1+1<=W2.heap.size:=by rw [hW2.out]; simp
      have e0:W2.cell? ⟨wr.heap.size,0,none⟩=some (.string xp):=by rw [hW2.out]; go_simp
      have e5:W2.cell? ⟨wr.heap.size+1,5,none⟩=some (.int .i64 xo):=by rw [hW2.out]; go_simp
      have e6:W2.cell? ⟨wr.heap.size+1,6,none⟩=some (.int .i64 xk):=by rw [hW2.out]; go_simp
      have t0:=(hb2.cell (p:=⟨w.heap.size,0,none⟩) (zM1 hmb)).trans kk0;have t1:=(hb2.cell (p:=⟨w.heap.size,1,none⟩) (zM1 hmb)).trans kk1;have t2:=(hb2.cell (p:=⟨w.heap.size,2,none⟩) (zM1 hmb)).trans kk2;have HC2:=zA0 (hcn.out.below hb2);have hbw2:Below w.heap.size w W2:=Below.tr hbwr qH1 hb2;have hbx2:Below (w.heap.size+1) W1 W2:=hbx.trans (hb2.mono qH1);have hs3:w.heap.size+1<W2.heap.size:=qCE;clear hW2 c0 c1 c2' c3 c4 c5 c6 c7 c8 HPG kk0 kk1 kk2 hcn hokb hbwr hbx HC1;cases nb with
      | true=>
       as_aux_lemma=>
       have hbad:gt=false:=HF2.out k hlt (by rw [HOKK.out,show okb=false by simpa using hnb.symm]; rfl)
       subst hbad;clear hnb;go_wp2_with fail;go_ret;exact ⟨rfl,zR⟩
      | false=>
       obtain rfl:okb=true:=by simpa using hnb.symm
       clear hnb;obtain ⟨p0,hp0⟩:∃ b,(xo == 0)=b:=⟨_,rfl⟩;obtain ⟨p1,hp1⟩:∃ b,isI ss xo=b:=⟨_,rfl⟩;obtain ⟨p2,hp2⟩:∃ b,(xk == 0)=b:=⟨_,rfl⟩;obtain ⟨nw,hnw⟩:∃ b,b=(!p0 && (!p1 || !p2)):=⟨_,rfl⟩;rw [hp1] at HOP;have HOK3:=zA0 (show okN ⟨z,l,ss⟩ k=(!nw && (decide ((Jac xp).2.2≠0) || hasN l (Jac xp).1)) by
        rw [HOKK.out,hnw,hp0,hp1,hp2];cases p0 <;> cases p1 <;> cases p2 <;> rfl)
       have HNW:=zA0 hnw;clear hnw HOKK;go_upto_region 16 with fail
       go_cut [182] from 83 to 204 (fun s182 wx=>s182=.bool nw/\∃ ext d,wx=grow W2 ext d)
       case first=>
        as_aux_lemma=>
        clear HOK3 HCQ hsd HSP HFD HF2 HF3 HF4 halln HC2
        by_cases hx0:xo=0
        ·subst hx0
         obtain rfl:p0=true:=by rw [<-hp0]; rfl
         go_wp2_with ((go_at_call 29; refine zc (HOP.out _ (H2.out.below zR)) (fun ext1 d1=>?_)))
         go_meet;exact ⟨congrArg Value.bool (by rw [HNW.out]; rfl),_,_,Jav zR⟩
        ·obtain rfl:p0=false:=by rw [<-hp0]; exact zB7.2 hx0
         cases p1 with
         | false=>
          go_wp2_with ((go_at_call 29; refine zc (HOP.out _ (H2.out.below zR)) (fun ext1 d1=>?_)))
          go_meet;exact ⟨congrArg Value.bool (by rw [HNW.out]; simp [hx0]),_,_,Jav zR⟩
         | true=>
          by_cases hx1:xk=0
          ·subst hx1
           obtain rfl:p2=true:=by rw [<-hp2]; rfl
           go_wp2_with ((go_at_call 29; refine zc (HOP.out _ (H2.out.below zR)) (fun ext1 d1=>?_)))
           go_meet;exact ⟨congrArg Value.bool (by rw [HNW.out]; simp),_,_,Jav zR⟩
          ·obtain rfl:p2=false:=by rw [<-hp2]; exact zB7.2 hx1
           go_wp2_with ((go_at_call 29; refine zc (HOP.out _ (H2.out.below zR)) (fun ext1 d1=>?_)))
           go_meet;exact ⟨congrArg Value.bool (by rw [HNW.out]; simp [hx0,hx1]),_,_,Jav zR⟩
       case rest=>
        obtain ⟨rfl,ext3,d3,rfl⟩:=hcut;clear e5 e6 hp0 hp1 hp2 HOP HNW;cases nw with
        | true=>
         as_aux_lemma=>
         have hbad:gt=false:=HF2.out k hlt (by rw [HOK3.out]; rfl)
         subst hbad;go_wp2_with fail;go_ret;exact ⟨rfl,zR⟩
        | false=>
         generalize Jac xp=sp at *;obtain ⟨sd,st,se⟩:=sp;simp only at *
         by_cases hse:se=0
         ·as_aux_lemma=>
          subst hse;have HCQ2:=zA0 (fun q=>show (l.take (k+1)).countP (kidB q)=(l.take k).countP (kidB q)+(if sd=q then 1 else 0) by rw [HCQ.out q]; simp)
          have HOK4:=zA0 (show okN ⟨z,l,ss⟩ k=hasN l sd by rw [HOK3.out]; rfl)
          have hcl:(l.take k).countP (kidB sd)<=k:=zB5 zL9 (by rw [zC2]; omega)
          clear HOK3 HCQ;cases hhn:hasN l sd with
          | false=>
           rw [hhn] at HFD HOK4;have hbad:gt=false:=HF2.out k hlt HOK4.out;subst hbad;clear hhn;go_wp2_with (first | (go_at_call 129; refine zc (HSP.out _) (fun ext4 d4=>?_)) | (go_at_call 108; refine zc (HFD.out _ (H.out.below zR)) (fun ext5 d5=>?_)))
           go_ret;exact ⟨rfl,zR⟩
          | true=>
           rw [hhn] at HFD HOK4;clear hhn;have HFN:Hid (∀ i,i<k+1->okN ⟨z,l,ss⟩ i=true):=zA0 (fun i hi=>by
            rcases zD1 i k with h | h
            ·exact halln.out i h
            ·obtain rfl:i=k:=by omega
             exact HOK4.out)
           have HGC:∀ W,Below W2.heap.size W2 W->Hid (Cnt W (w.heap.size+1) k (fun q=>(((l.take k).countP (kidB q):Nat):Int))):=fun W hW=>zA0 (HC2.out.below hW)
           have HPC:Hid (∀ q,(((l.take (k+1)).countP (kidB q):Nat):Int)=(if q=sd then (((l.take k).countP (kidB sd):Nat):Int)+1 else (((l.take k).countP (kidB q):Nat):Int))):=zA0 (fun q=>by
            rw [HCQ2.out q]
            by_cases hq:q=sd
            ·subst hq; simp
            ·rw [if_neg hq,if_neg (fun e=>hq e.symm)]; rfl)
           clear HOK4 halln HC2 HCQ2;go_wp2_with (first | (go_at_call 129; refine zc (HSP.out _) (fun ext4 d4=>?_)) | (go_at_call 108; refine zc (HFD.out _ (H.out.below zR)) (fun ext5 d5=>?_)) | (at_lookup; refine Jdc rfl (.tmp 200) (.tmp 201) rfl rfl (HGC _ zR).out sd rfl qs0 ?_; (try dsimp only)) | (at_mapUpdate; refine JhQ rfl (.tmp 200) (.tmp 201) (.tmp 203) rfl rfl (HGC _ zR).out qs0 sd rfl qs0 _ rfl (by simp [Lit.wf,IntKind.min,IntKind.max,IntKind.signed,IntKind.bits]; omega) ?_; intro w2 hC hg; have HCC:=zA0 hC; have HGG:=zA0 hg; clear hC hg))
           have hbw':=Jpm (B:=w.heap.size+1) (show Below (w.heap.size+1) W1 _ from hbx2.trans (Below.mono (show Below W2.heap.size W2 _ from zR) qH1)) qB1 (zA3 _) HGG.out
           go_roundw
           case rel=>exact ⟨k+1,by omega,by go_num,HFN,zA0 (HCC.out.same (fun q=>HPC.out q)),hbw'⟩
           case measure=>simp [intOf]; omega
         ·as_aux_lemma=>
          have hne:(se == 0)=false:=zB7.2 hse;have HFN:Hid (∀ i,i<k+1->okN ⟨z,l,ss⟩ i=true):=zA0 (fun i hi=>by
           rcases zD1 i k with h | h
           ·exact halln.out i h
           ·obtain rfl:i=k:=by omega
            rw [HOK3.out,zB0 hse]; rfl)
          have HC3:∀ W,Below W2.heap.size W2 W->Hid (Cnt W (w.heap.size+1) (k+1) (fun q=>(((l.take (k+1)).countP (kidB q):Nat):Int))):=fun W hW=>zA0 ((((HC2.out.below hW).mono (zC6 k))).same (fun q=>by rw [HCQ.out q,zA7 hse]; simp))
          clear HOK3 halln HCQ HC2 hse;go_wp2_with ((go_at_call 129; refine zc (HSP.out _) (fun ext4 d4=>?_)))
          go_roundw
          case rel=>exact ⟨k+1,by omega,by go_num,HFN,HC3 _ zR,hbx2.trans (Below.mono (show Below W2.heap.size W2 _ from zR) qH1)⟩
          case measure=>simp [intOf]; omega
    ·as_aux_lemma=>
     have hkl:k=l.length:=qCE;subst hkl;rw [zG1] at hcn;clear hk hlt HC1;obtain ⟨wk,hwk⟩:∃ x:World,x=wr:=⟨wr,rfl⟩;subst hwk;go_wp2_with fail;go_loopw [208] (fun i wr=>∃ j:Nat,j<=l.length/\i=.int .i64 j/\Hid (∀ i x,i<j->l[i]?=some x->x.kids=((l.countP (kidB x.path):Nat):Int))/\Below wk.heap.size wk wr) (fun i _=>l.length - (intOf i).toNat)
     case atStart=>exact ⟨0,zB9 _,rfl,zA0 (fun i x hi=>absurd hi (Nat.not_lt_zero _)),zB6 _ _⟩
     case round=>
      obtain ⟨j,hj,rfl,hall3,hbs⟩:=hrel;have hbws:Below w.heap.size w wr:=Below.tr hbwr qH1 hbs;have s0:=(hbs.cell (p:=⟨w.heap.size,0,none⟩) (zM1 hmb)).trans kk0;have s1:=(hbs.cell (p:=⟨w.heap.size,1,none⟩) (zM1 hmb)).trans kk1;have s2:=(hbs.cell (p:=⟨w.heap.size,2,none⟩) (zM1 hmb)).trans kk2;have HCW:=zA0 (hcn.out.below hbs);clear kk0 kk1 kk2
      by_cases hlt3:j<l.length
      ·have hx:l[j]?=some (l[j]'hlt3):=zA8 _
       obtain ⟨bk',off',hA,_,c0,c1,c2',c3,c4,c5,c6,c7,c8⟩:=(H.out.below hbws).Node_at hx;cases hA;have hpsz:=hz _ (zD3 hx);have hcl:l.countP (kidB (l[j]'hlt3).path)<=l.length:=zL9;have HGC:∀ W,Below wr.heap.size wr W->Hid (Cnt W (w.heap.size+1) l.length (fun q=>((l.countP (kidB q):Nat):Int))):=fun W hW=>zA0 (HCW.out.below hW)
       have HX:=zA0 hx;generalize l[j]'hlt3=x at *;obtain ⟨xp,xd,xz,xm,xq,xv,xc,xo,xk⟩:=x;simp only at *
       by_cases hkk:xk=((l.countP (kidB xp):Nat):Int)
       ·have hke:(xk == ((l.countP (kidB xp):Nat):Int))=true:=by rw [hkk]; simp
        have HA3:Hid (∀ i x,i<j+1->l[i]?=some x->x.kids=((l.countP (kidB x.path):Nat):Int)):=zA0 (fun i u hi hu=>by
         rcases zD1 i j with h | h
         ·exact hall3.out i u h hu
         ·obtain rfl:i=j:=by omega
          rw [Option.some.inj (hu.symm.trans HX.out)];exact hkk)
        clear hx hall3;go_wp2_with (at_lookup; refine Jdc rfl (.tmp 215) (.tmp 217) rfl rfl (HGC _ zR).out xp rfl qs0 ?_; (try dsimp only));go_roundw
        case rel=>exact ⟨j+1,by omega,by go_num,HA3,zR⟩
        case measure=>simp [intOf]; omega
       ·have hke:(xk == ((l.countP (kidB xp):Nat):Int))=false:=zB7.2 hkk
        have hbad:gt=false:=HF3.out (by
         unfold Jmq;rw [zM2];exact ⟨_,zD3 HX.out,by simpa using hkk⟩)
        subst hbad;clear hx hall3;go_wp2_with (at_lookup; refine Jdc rfl (.tmp 215) (.tmp 217) rfl rfl (HGC _ zR).out xp rfl qs0 ?_; (try dsimp only));go_ret;exact ⟨rfl,zR⟩
      ·have hjl:j=l.length:=by omega
       subst hjl;obtain rfl:gt=true:=HF4.out hall.out halln.out (by
        unfold Jmq;rw [List.all_eq_true];intro x hx;obtain ⟨i,hi⟩:=zF0.1 hx;exact zB0 (hall3.out i x (zB3.1 hi).1 hi))
       go_wp2_with fail;go_ret;exact ⟨rfl,zR⟩
theorem JkH {t:Tr} (h:JfG t=false):Jan t=false:=by unfold Jan; rw [h]; rfl
theorem head_no {z:Int} {n:Node} {r:List Node} {ss:List Int} (h:JfG ⟨z,n :: r,ss⟩=false) (h4:(n :: r).length<=400) (hp:n.path=slash) (ho:n.owner=0):¬ Zx z:=by
 intro hz;unfold JfG at h;simp only at h;rw [zB0 h4,zB0 (show 0<=z/\z<4611686018427387904 from hz),zB0 hp,zB0 ho] at h
 cases h
theorem JhU (z:Int) (v v2:Value) (l:List Node) (ss:List Int) (w:World) (h:Sl Jab 9 w v l) (h2:Sl cInt 1 w v2 ss) (hh:JfG ⟨z,l,ss⟩=false) :
  Calls Tryz.prog 101 #[.agg #[.int .i64 z,v,v2]] w fun e w'=>e=.returned (.bool (Jan ⟨z,l,ss⟩))/\Below w.heap.size w w':=by
 rw [JkH hh];obtain ⟨A,c,rfl,h1,h1b⟩:=h.form;obtain ⟨A2,c2,rfl,h3,h3b⟩:=h2.form;cases l with
 | nil=>
  simp only [zG6];clear h h2 hh;go_enter Tryz.func101,Tryz.ntmps101
  go_wp2_with fail;go_ret;exact ⟨rfl,zR⟩
 | cons n r=>
  obtain ⟨bk,off,rfl,hbw,n0,n1,n2,n3,n4,n5,n6,n7,n8⟩:=h.Node_at (i:=0) (x:=n) rfl;simp only [Nat.zero_mul,zH9] at n0 n1 n2 n3 n4 n5 n6 n7 n8;have HNO:=zA0 (fun h4 hp ho=>head_no hh h4 hp ho)
  have HG:=zA0 (fun (W:World) (hz:¬ Zx z)=>JeA z W hz)
  have hm1:0<(n :: r).length:=Nat.succ_pos _;generalize (n :: r).length=m at *;have hm0:((m:Int) == 0)=false:=zB7.2 qH1;clear h h2 hh
  by_cases g1:400<m
  ·have hm4:decide ((400:Int)<(m:Int))=true:=zB0 qH1
   clear HNO HG;go_enter Tryz.func101,Tryz.ntmps101
   go_wp2_with fail;go_ret;exact ⟨rfl,zR⟩
  ·have hm4:decide ((400:Int)<(m:Int))=false:=zA7 qH1
   by_cases g2:n.path=slash
   ·have hpp:(slash.toList == [47])=true:=by unfold slash; rw [zE4]; rfl
    rw [g2] at n0
    by_cases g3:n.owner=0
    ·have hz:=HNO.out qH1 g2 g3
     rw [g3] at n7;clear HNO g2 g3;go_enter Tryz.func101,Tryz.ntmps101
     go_wp2_with ((go_at_call 95; refine (HG.out _ hz).mono ?_; rintro e w1 ⟨rfl,rfl⟩; skip));go_ret;exact ⟨rfl,zR⟩
    ·have hno:(n.owner == 0)=false:=zB7.2 g3
     generalize n.owner=no at *;clear HNO HG g2;go_enter Tryz.func101,Tryz.ntmps101
     go_wp2_with fail;go_ret;exact ⟨rfl,zR⟩
   ·have hpp:=Jh8 g2
    clear HNO HG g2;go_enter Tryz.func101,Tryz.ntmps101
    go_wp2_with fail;go_ret;exact ⟨rfl,zR⟩
end
end Go.Proofs.YtjnooagaghdkdaaGreatDoor
