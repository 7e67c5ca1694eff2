/-L-/
import Derived.Deep.DeepCutAuto
import Derived.Test.YtjnooagaghdkdaaGreatDoorCards
import Derived.Test.YtjnooagaghdkdaaGreatDoorTie
import Derived.Lay
import Derived.LaidMore
import Derived.SevenTiedAt
import Derived.Test.YtjnooagaghdkdaaGreatDoorZ22
set_option maxHeartbeats 10000000
set_option maxRecDepth 100000
set_option linter.all false
namespace Go.Proofs.YtjnooagaghdkdaaGreatDoor
open Go.RowKit Go.ChangeShapes Go.WideShapes Go.ChangeAt
end Go.Proofs.YtjnooagaghdkdaaGreatDoor
namespace Go.Proofs.YtjnooagaghdkdaaGreatDoor
open Go.RowKit Go.ChangeShapes Go.WideShapes Go.ChangeAt
end Go.Proofs.YtjnooagaghdkdaaGreatDoor
namespace Go.Proofs.YtjnooagaghdkdaaGreatDoor
section
open Go.RowKit Go.ChangeShapes Go.WideShapes Go.ChangeAt
theorem JgE {t:Txn} (h:Jat t=0):t.path.size<=9223372036854775807:=by
 have h2:=Jd8 t h;rw [JcP] at h2;simp only [zC1] at h2;omega
end
end Go.Proofs.YtjnooagaghdkdaaGreatDoor
namespace Go.Proofs.YtjnooagaghdkdaaGreatDoor
open Go.RowKit Go.ChangeShapes Go.WideShapes Go.ChangeAt
end Go.Proofs.YtjnooagaghdkdaaGreatDoor
namespace Go.Proofs.YtjnooagaghdkdaaGreatDoor
section
open Go.RowKit Go.ChangeShapes Go.WideShapes Go.ChangeAt
def upZ (z:Int) (l:List Txn):List Txn:=l.takeWhile (fun t=>decide (t.zxid<=z))
theorem Jne {z:Int} {l:List Txn} {k:Nat} (hk:k<=l.length) (h:∀ t∈l.take k,t.zxid<=z) (he:k=l.length\/∃ t,l[k]?=some t/\¬ t.zxid<=z):upZ z l=l.take k:=by
 unfold upZ;have e:l=l.take k ++ l.drop k:=(zD7 k l).symm
 conv=>lhs; rw [e]
 rw [List.takeWhile_append_of_pos (by intro t ht; exact zB0 (h t ht))]
 rcases he with rfl | ⟨t,ht,hn⟩
 ·simp
 ·have hd:l.drop k=t :: l.drop (k+1):=by
   obtain ⟨h1,h2⟩:=zB3.1 ht;rw [<-h2];exact zR4 h1
  rw [hd,List.takeWhile_cons_of_neg qz0,zE9]
def Jjo (z:Int) (l:List Txn):Nat:=(recs (upZ z l)).length
def KeepIs (f:List File) (z:Int) (f':List File) (e:Int):Prop:=
 ∃ L d c,JdQ f L d c/\((c≠0/\f'=[]/\e=c)\/(c=0/\f'=cutL d logN (Jjo z L)/\e=cutE d logN (Jjo z L)))
def KeepRes (f:List File) (z:Int) (w:World) (e:Ending) (w':World):Prop:=∃ B k f' code,e=.returned (.tuple #[.agg #[.slice B (List.length (α:=File) f') k],.int .i64 code])/\KeepIs f z f' code/\Ow Jaa 3 128 w' w.heap.size (.slice B f'.length k) f'/\Below w.heap.size w w'
theorem Jns {l:List Txn} {k:Nat} {t:Txn} (h:l[k]?=some t):(recs (l.take (k+1))).length=(recs (l.take k)).length+(recT t).length:=by
 rw [zF7,h];simp only [zP9];rw [JaR,Jdf,zA9]
theorem JcC (l:List Txn) (k:Nat):(recs (l.take k)).length<=(recs l).length:=by
 have e:recs l=recs (l.take k) ++ recs (l.drop k):=by rw [<-JaR,zD7]
 rw [e,zA9];omega
theorem JnN {f:List File} {a:List Txn} {b:List File} (h:JdQ f a b 0):(∀ x∈b,x.sized)/\(recs a).length<=1048576:=by
 obtain ⟨_,h2,h3,h4,_⟩:=Jja h;refine ⟨fun x hx=>(Jdl h2 x hx).1,?_⟩
 have:=Jfn h3;rw [h4,JaN] at this;exact this
theorem keep_any (v:Value) (f:List File) (z:Int) (w:World) (h:Sl Jaa 3 w v f) (hz:∀ x∈f,x.sized) :
  Calls Tryz.prog 111 #[.agg #[v],.int .i64 z] w (KeepRes f z w):=by
 obtain ⟨A,c,rfl,hc1,hc2⟩:=h.form;have H:=zA0 h;have HR:=zA0 (fun (W:World) (v:Value) (h:Sl Jaa 3 W v f)=>Jgi v f W h hz)
 clear h hz;go_enter Tryz.func111,Tryz.ntmps111
 go_upto_region 2 with ((go_at_call 48; refine (HR.out _ _ (H.out.below zL)).mono ?_; rintro e w1 ⟨A2,c2,L,B,k,d,code,rfl,hr,ho2,ho3,hb1⟩; obtain ⟨ext1,d1,rfl⟩:=zA2 _ hb1; have HO2:=zA0 ho2; have HO3:=zA0 ho3; have HI:=zA0 hr; clear ho2 ho3 hb1 hr HR))
 by_cases h0:code=0
 ·subst h0
  have hl:=Jja HI.out;have hs:=JnN HI.out;have HG:=zA0 hl.1.1;have hsz:=hs.2;have HC:=zA0 (fun (n:Int) (W:World) (v:Value) (h:Sl Jaa 3 W v d)=>dkCut v d logN n W h hs.1)
  have hL:L.length<=140737488355328:=by have:=(JdW hl.1.1).2; omega
  have HE:=zA0 (fun (t:Txn) (ht:t∈L) (W:World)=>by
   have h1:=JhE t W (JgE (hl.1.1 t ht));rw [show encR t=bS (recT t) from if_pos (hl.1.1 t ht),hl.1.1 t ht] at h1
   exact h1)
  clear hl hs;go_wp2_with fail;go_loopw [8,25] (fun n i wr=>∃ (k0:Nat) (ext:Array Obj) (d':Nat),k0<=L.length/\Hid (∀ t∈L.take k0,t.zxid<=z)/\n=.int .i64 ((recs (L.take k0)).length:Nat)/\i=.int .i64 k0/\wr=grow ((w.alloc (.cells #[.slice B d.length k] 65)).alloc (.cells #[.slice none 0 0] 65)) ext d'/\Hid (Sl cTxn 7 wr (.slice A2 L.length c2) L)/\Hid (Sl Jaa 3 wr (.slice B d.length k) d)) (fun _ i _=>L.length - (intOf i).toNat)
  case atStart=>exact ⟨0,_,_,zB9 _,zA0 qI1,rfl,rfl,rfl,zA0 ((HO2.out.regrow (zA3 _) qI1).sl),zA0 ((HO3.out.regrow (zA3 _) qI1).sl)⟩
  case round=>
   obtain ⟨k0,ext,d',hk,hup,rfl,rfl,rfl,S2,S3⟩:=hrel;clear HO2 HO3;have hrk:=JcC L k0
   by_cases hlt:k0<L.length
   ·have hx:L[k0]?=some (L[k0]'hlt):=zA8 _
    obtain ⟨bk,off,rfl,hbw,x0,x1,x2,x3,x4,x5,x6⟩:=S2.out.Txn_at hx;have HEX:=zA0 (HE.out _ (zI1 hlt));have htk:=Jns hx;have hrk1:=JcC L (k0+1)
    by_cases hle:(L[k0]'hlt).zxid<=z
    ·have HUP:Hid (∀ t∈L.take (k0+1),t.zxid<=z):=zA0 (fun t ht=>by
      rw [zF7,hx] at ht;rcases zE7.1 ht with ht | ht
      ·exact hup.out t ht
      ·simp at ht; rw [ht]; exact hle)
     generalize L[k0]'hlt=x at *;have hgt:decide (z<x.zxid)=false:=zA7 qH1;have hbs:=JaN (recT x);generalize hr:bS (recT x)=r at *;have HTK:Hid ((recs (L.take (k0+1))).length=(recs (L.take k0)).length+r.size):=zA0 qH1;have hrr:(recs (L.take k0)).length+r.size<=1048576:=qCE;generalize (recs (L.take k0)).length=m0 at *;clear hx htk hrk1 hbs hr hle hrk;go_wp2_with ((go_at_call 140; refine zc (HEX.out _) (fun ext2 d2=>?_)))
     go_roundw
     case rel=>exact ⟨k0+1,_,_,by omega,HUP,by rw [HTK.out]; simp,by go_num,Jav zL,zA0 (S2.out.below zL),zA0 (S3.out.below zL)⟩
     case measure=>simp [intOf]; omega
    ·have hu:=Jne hk hup.out (.inr ⟨_,hx,hle⟩)
     have HK:Hid (Jjo z L=(recs (L.take k0)).length):=zA0 (by unfold Jjo; rw [hu])
     generalize L[k0]'hlt=x at *;have hgt:decide (z<x.zxid)=true:=zB0 qH1;generalize (recs (L.take k0)).length=m0 at *;clear hx htk hrk1 hle hu HEX;go_wp2_with ((go_at_call 69; refine (HC.out _ _ _ (S3.out.below zL)).mono ?_; rintro e w1 ⟨A3,k3,rfl,ho3,hb3⟩; obtain ⟨ext3,d3,rfl⟩:=zA2 _ hb3; have HO3:=zA0 ho3; clear ho3 hb3));refine zA1 (v:=.tuple #[.agg #[.slice A3 (cutL d logN (m0:Int)).length k3],.int .i64 (cutE d logN (m0:Int))]) (by simp [results,Tryz.results111,go_sem]) rfl ⟨A3,k3,_,_,rfl,⟨L,d,0,HI.out,.inr ⟨rfl,by rw [HK.out],by rw [HK.out]⟩⟩,?_,zL⟩
     first | exact (HO3.out.regrow (zA3 _) qI1).mono qB1 | exact (HO3.out.below zL).mono qB1
   ·have hkl:k0=L.length:=by omega
    have hu:=Jne hk hup.out (.inl hkl);have HK:Hid (Jjo z L=(recs (L.take k0)).length):=zA0 (by unfold Jjo; rw [hu])
    generalize (recs (L.take k0)).length=m0 at *;clear hu;subst hkl;go_wp2_with ((go_at_call 69; refine (HC.out _ _ _ (S3.out.below zL)).mono ?_; rintro e w1 ⟨A3,k3,rfl,ho3,hb3⟩; obtain ⟨ext3,d3,rfl⟩:=zA2 _ hb3; have HO3:=zA0 ho3; clear ho3 hb3));refine zA1 (v:=.tuple #[.agg #[.slice A3 (cutL d logN (m0:Int)).length k3],.int .i64 (cutE d logN (m0:Int))]) (by simp [results,Tryz.results111,go_sem]) rfl ⟨A3,k3,_,_,rfl,⟨L,d,0,HI.out,.inr ⟨rfl,by rw [HK.out],by rw [HK.out]⟩⟩,?_,zL⟩
    first | exact (HO3.out.regrow (zA3 _) qI1).mono qB1 | exact (HO3.out.below zL).mono qB1
 ·have hne:(code != 0)=true:=zC9.2 h0
  have HN:=zA0 h0;clear h0;go_wp2_with fail;refine zA1 (v:=.tuple #[.agg #[.slice none ([]:List File).length 0],.int .i64 code]) (by simp [results,Tryz.results111,go_sem]) rfl ⟨none,0,[],code,rfl,⟨L,d,code,HI.out,.inl ⟨HN.out,rfl,rfl⟩⟩,Ow.nil _ _ _ _ _,zL⟩
namespace walKeeps
theorem own:ownKnob Tryz.prog.godebug=none:=by kernel_rfl
end walKeeps
theorem Sl.pre2 {α:Type} {f:α->List Value} {s:Nat} {w:World} {A:Option Addr} {n c:Nat} {l m:List α} (h:Sl f s w (.slice A n c) m) (hp:l <+: m):Sl f s w (.slice A l.length c) l:=by
 obtain ⟨t,rfl⟩:=hp;obtain ⟨A',c',he,h1,h2,h3,h4⟩:=h;injection he with e1 e2 e3
 subst e1; subst e3;refine ⟨A,c,by simp,by simp at h1 ⊢; omega,h2,fun x hx=>h3 x (by rw [zK1]; exact zI7 _ hx),fun hpos=>?_⟩
 obtain ⟨b,off,r1,r2,r3⟩:=h4 (by simp at hpos ⊢; omega)
 refine ⟨b,off,r1,r2,fun i x hx j u hu=>r3 i x ?_ j u hu⟩
 rw [zK1,zF1 (zB3.1 hx).1,hx]
theorem Jh4 (s:ByteArray):noB ++ s=s:=by
 apply Jbs;rw [Jas];rfl
abbrev epN:ByteArray:=⟨#[101,112,111,99,104]⟩
def Jce (f:List File):Int:=if JaW f epN=0 then (if (Jfo (JbC f epN)).2=0 then Jbp (Jfo (JbC f epN)).1 else 0) else 0
theorem Jmb (v:Value) (f:List File) (w:World) (h:Sl Jaa 3 w v f) (hz:∀ x∈f,x.sized) :
  Calls Tryz.prog 47 #[.agg #[v]] w fun e w'=>e=.returned (.int .i64 (Jce f))/\Below w.heap.size w w':=by
 obtain ⟨A,c,rfl,hc1,hc2⟩:=h.form;have H:=zA0 h;have HR:=zA0 (fun (W:World) (v:Value) (h:Sl Jaa 3 W v f)=>dkRead v f epN W h hz)
 unfold Jce
 by_cases h0:JaW f epN=0
 ·have hs:=Jfn h0
  rw [if_pos h0];rw [h0] at HR;generalize JbC f epN=s at *;have HZ:=zA0 (fun (W:World)=>read_any s W qH1)
  have HEP:=zA0 (fun (W:World)=>JdR (Jfo s).1 W)
  clear h hz h0
  by_cases h1:(Jfo s).2=0
  ·rw [if_pos h1]
   rw [h1] at HZ;generalize (Jfo s).1=z at *;generalize Jbp z=ep at *;clear h1;go_enter Tryz.func47,Tryz.ntmps47
   go_wp2_with (first | (go_at_call 64; refine zc (HR.out _ _ (H.out.below zL)) (fun ext1 d1=>?_)) | (go_at_call 65; refine zc (HZ.out _) (fun ext2 d2=>?_)) | (go_at_call 66; refine (HEP.out _).mono ?_; rintro e w3 ⟨rfl,rfl⟩; skip))
   go_ret;exact ⟨rfl,zL⟩
  ·have hne:((Jfo s).2 != 0)=true:=zC9.2 h1
   rw [if_neg h1];generalize (Jfo s).1=z at *;generalize (Jfo s).2=q at *;clear h1;go_enter Tryz.func47,Tryz.ntmps47
   go_wp2_with (first | (go_at_call 64; refine zc (HR.out _ _ (H.out.below zL)) (fun ext1 d1=>?_)) | (go_at_call 65; refine zc (HZ.out _) (fun ext2 d2=>?_)))
   go_ret;exact ⟨rfl,zL⟩
 ·have hne:(JaW f epN != 0)=true:=zC9.2 h0
  rw [if_neg h0];generalize JaW f epN=q at *;generalize JbC f epN=s at *;clear h hz h0;go_enter Tryz.func47,Tryz.ntmps47
  go_wp2_with ((go_at_call 64; refine zc (HR.out _ _ (H.out.below zL)) (fun ext1 d1=>?_)))
  go_ret;exact ⟨rfl,zL⟩
def dskB (q:Option (ByteArray × ByteArray)) (a b:ByteArray):List File:=(match q with | none=>[] | some (s,t)=>[⟨epN,s,t⟩]) ++ [⟨logN,a,b⟩]
def Jdv (q:Option (ByteArray × ByteArray)):Nat:=match q with | none=>0 | some (s,t)=>s.size+t.size
theorem Jlm:JaK (bs epN)=true:=by kernel_rfl
theorem JoB:cmpB epN logN<0:=by decide +kernel
theorem Jev (q:Option (ByteArray × ByteArray)) (a b:ByteArray):(dskB q a b).Pairwise ltF:=by
 cases q with
 | none=>exact zO3 _ _
 | some q=>
  obtain ⟨s,t⟩:=q;refine zG7.2 ⟨fun y hy=>?_,zO3 _ _⟩
  rw [zE3.1 hy];exact JoB
theorem Jcy {q:Option (ByteArray × ByteArray)} {a b:ByteArray} (hq:Jdv q<=1048576) (h:a.size+b.size<=1048576):JaL (dskB q a b)=true:=by
 refine (JbH _).2 ⟨by unfold dskB; cases q <;> simp,fun x hx=>?_,Jev q a b⟩
 unfold okF;rw [zE1,decide_eq_true_iff];cases q with
 | none=>rw [zE3.1 hx]; exact ⟨Jgs,h⟩
 | some q=>
  obtain ⟨s,t⟩:=q;rcases zE2.1 hx with rfl | hx
  ·exact ⟨Jlm,hq⟩
  ·rw [zE3.1 hx]; exact ⟨Jgs,h⟩
theorem log_in (q:Option (ByteArray × ByteArray)) (a b:ByteArray):(⟨logN,a,b⟩:File)∈dskB q a b:=by unfold dskB; simp
theorem Jir (q:Option (ByteArray × ByteArray)) (a b:ByteArray):isK ((dskB q a b).map File.name) logN=true/\Jaq (dskB q a b) logN=⟨logN,a,b⟩:=Jid (Jev q a b) (y:=⟨logN,a,b⟩) (log_in q a b)
theorem Jiq (q:Option (ByteArray × ByteArray)) (a b a' b':ByteArray):putL (dskB q a b) ⟨logN,a',b'⟩=dskB q a' b':=by
 unfold putL;rw [if_pos (Jir q a b).1];cases q with
 | none=>
  have:=(JhO (Jev none a b) (k:=0) (x:=⟨logN,a,b⟩) rfl).1;rw [this];rfl
 | some q=>
  obtain ⟨s,t⟩:=q;have:=(JhO (Jev (some (s,t)) a b) (k:=1) (x:=⟨logN,a,b⟩) rfl).1;rw [this];rfl
theorem Jcf {q:Option (ByteArray × ByteArray)} {a b:ByteArray} (hq:Jdv q<=1048576) (h:a.size+b.size<=1048576):JaW (dskB q a b) logN=0/\JbC (dskB q a b) logN=a ++ b:=Jh1 (Jcy hq h) (x:=⟨logN,a,b⟩) (log_in q a b)
theorem JhG {q:Option (ByteArray × ByteArray)} {a b s:ByteArray} (hq:Jdv q<=1048576) (h:a.size+b.size+s.size<=1048576):JbB (dskB q a b) logN s=0/\JbP (dskB q a b) logN s=dskB q a (b ++ s):=by
 have hg:=Jcy (a:=a) (b:=b) hq qH1;have hl:=Jir q a b;have e:JbB (dskB q a b) logN s=0:=by
  unfold JbB;rw [hg,Jgs,if_pos rfl,if_pos rfl,hl.1,if_pos rfl,hl.2,if_pos];exact h
 obtain ⟨_,h2,_⟩:=JfJ e;refine ⟨e,?_⟩;have ho:Jcc (dskB q a b) logN=⟨logN,a,b⟩:=by unfold Jcc; rw [hl.1,if_pos rfl,hl.2]
 rw [h2,ho,Jiq]
theorem JjM {q:Option (ByteArray × ByteArray)} {a b:ByteArray} (hq:Jdv q<=1048576) (h:a.size+b.size<=1048576):JfD (dskB q a b) logN=dskB q (a ++ b) noB:=by
 rw [(Jnu (Jcf hq h).1).1,(Jir q a b).2,Jiq]
theorem Je8 {q:Option (ByteArray × ByteArray)} {a b:ByteArray} (hq:Jdv q<=1048576) (h:a.size+b.size<=1048576) {n:Nat} (hn:n<=(a ++ b).size):cutE (dskB q a b) logN n=0/\cutL (dskB q a b) logN n=dskB q ((a ++ b).extract 0 n) noB:=by
 have hr:=Jcf (a:=a) (b:=b) hq h;have e:=JoQ hr.1 (n:=n) (by rw [hr.2]; exact hn)
 obtain ⟨_,_,_,c4,_⟩:=cut_ok e;refine ⟨e,?_⟩;rw [c4,hr.2,Jiq,zG9]
theorem ext_none (n:Nat):noB.extract 0 n=noB:=ByteArray.ext qI1
theorem Jcj (s:ByteArray):s ++ noB=s:=by
 apply Jbs;rw [Jas];exact zE9 _
def qsafe (q:Option (ByteArray × ByteArray)):Prop:=match q with | none=>True | some (_,t)=>t=noB
theorem Jd1 {q:Option (ByteArray × ByteArray)} {a b:ByteArray} (hq:Jdv q<=1048576) (hs:qsafe q) (h:a.size+b.size<=1048576) (n:Nat):Jbh (dskB q a b) n=0/\JdG (dskB q a b) n=dskB q (a ++ b.extract 0 (min n b.size)) noB:=by
 have:=crash_is (Jcy (a:=a) (b:=b) hq h) n;refine ⟨this.1,this.2.trans ?_⟩;cases q with
 | none=>rfl
 | some q=>
  obtain ⟨s,t⟩:=q;have ht:t=noB:=hs;subst ht;show [JdH n ⟨epN,s,noB⟩,JdH n ⟨logN,a,b⟩]=_;unfold JdH;simp only [ext_none,Jcj];rfl
/-! the file of the epoch -/
theorem Jis {s t a b:ByteArray}:isK ((dskB (some (s,t)) a b).map File.name) epN=true/\Jaq (dskB (some (s,t)) a b) epN=⟨epN,s,t⟩/\posK ((dskB (some (s,t)) a b).map File.name) epN=0:=by
 have h:=Jid (Jev (some (s,t)) a b) (y:=⟨epN,s,t⟩) (by unfold dskB; simp)
 exact ⟨h.1,h.2,(JhO (Jev (some (s,t)) a b) (k:=0) (x:=⟨epN,s,t⟩) rfl).1⟩
theorem Je7 {a b:ByteArray}:isK ((dskB none a b).map File.name) epN=false/\posK ((dskB none a b).map File.name) epN=0:=by
 have h1:isK ((dskB none a b).map File.name) epN=false:=Jlj (l:=dskB none a b) epN (fun x hx=>by rw [zE3.1 hx]; show logN≠epN; decide)
 refine ⟨h1,?_⟩;rcases zK3 (posK ((dskB none a b).map File.name) epN) with h0 | h0
 ·exact h0
 ·have:=(Jgn (Jev none a b) epN 0 ⟨logN,a,b⟩ rfl).1 h0
  exact absurd this (by show ¬ cmpB logN epN<0; decide +kernel)
theorem Jip {s t a b:ByteArray} (hq:s.size+t.size<=1048576) (h:a.size+b.size<=1048576):JaW (dskB (some (s,t)) a b) epN=0/\JbC (dskB (some (s,t)) a b) epN=s ++ t:=Jh1 (Jcy (q:=some (s,t)) hq h) (x:=⟨epN,s,t⟩) (by unfold dskB; simp)
theorem JoA {a b:ByteArray} (h:a.size+b.size<=1048576):JaW (dskB none a b) epN=7:=(JnP (Jcy (q:=none) qG1 h) (fun x hx=>by rw [zE3.1 hx]; show logN≠epN; decide)).1
theorem Joz {s t a b:ByteArray} (hq:s.size+t.size<=1048576) (h:a.size+b.size<=1048576):Jde (dskB (some (s,t)) a b) epN=dskB none a b:=by
 rw [(JnL (Jip hq h).1).1];unfold offL;rw [Jis.2.2];rfl
theorem ep_write {a b s:ByteArray} (h:a.size+b.size<=1048576) (hs:s.size<=1048576):JbB (dskB none a b) epN s=0/\JbP (dskB none a b) epN s=dskB (some (noB,s)) a b:=by
 have hg:=Jcy (q:=none) (a:=a) (b:=b) qG1 h;have e:JbB (dskB none a b) epN s=0:=by
  unfold JbB;rw [hg,Jlm,if_pos rfl,if_pos rfl,Je7.1,if_neg qG1,if_neg (by unfold dskB; simp),if_pos hs]
 obtain ⟨_,h2,_⟩:=JfJ e;refine ⟨e,?_⟩;have ho:Jcc (dskB none a b) epN=JeU epN:=by unfold Jcc; rw [Je7.1]; rfl
 rw [h2,ho];unfold putL;rw [if_neg (by rw [show (⟨epN,(JeU epN).safe,(JeU epN).tail ++ s⟩:File).name=epN from rfl,Je7.1]; decide)]
 rw [show (⟨epN,(JeU epN).safe,(JeU epN).tail ++ s⟩:File).name=epN from rfl,Je7.2]
 rw [show (JeU epN).tail ++ s=s from Jh4 s]
 rfl
theorem ep_sync {s t a b:ByteArray} (hq:s.size+t.size<=1048576) (h:a.size+b.size<=1048576):JaW (dskB (some (s,t)) a b) epN=0/\JfD (dskB (some (s,t)) a b) epN=dskB (some (s ++ t,noB)) a b:=by
 have hr:=(Jip (s:=s) (t:=t) hq h).1;refine ⟨hr,?_⟩;rw [(Jnu hr).1,Jis.2.1];unfold putL;rw [show (⟨epN,s ++ t,⟨#[]⟩⟩:File).name=epN from rfl,if_pos Jis.1,Jis.2.2]
 rfl
end
end Go.Proofs.YtjnooagaghdkdaaGreatDoor
