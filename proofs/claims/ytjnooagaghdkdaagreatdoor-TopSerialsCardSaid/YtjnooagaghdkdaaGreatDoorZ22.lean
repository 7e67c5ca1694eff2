/-L-/
import Derived.Test.YtjnooagaghdkdaaGreatDoorZ21
set_option maxHeartbeats 10000000
set_option maxRecDepth 100000
set_option linter.all false
namespace Go.Proofs.YtjnooagaghdkdaaGreatDoor
section
open Go.RowKit Go.ChangeShapes Go.WideShapes Go.ChangeAt
theorem rec_len (t:Txn) (h:Jat t=0):31<=(recT t).length/\(recT t).length<=1031:=by
 have h1:=Jd8 t h;rw [Jdg];rw [JcP] at *;omega
theorem Jnb (v:Value) (l:List File) (t:Txn) (safe:Bool) (w:World) (h:Sl Jaa 3 w v l) (hz:∀ x∈l,x.sized) (hp:t.path.size<=9223372036854775807) :
  Calls Tryz.prog 105 #[.agg #[v],vTxn t,.bool safe] w (Jg6 (appL l t safe) (appE l t safe) w):=by
 obtain ⟨A,c,rfl,hc1,hc2⟩:=h.form;have H:=zA0 h;have HE:=zA0 (fun w=>JhE t w hp)
 unfold appL appE
 by_cases hg:Jat t=0
 ·have hrec:encR t=bS (recT t):=if_pos hg
  have hlen:=rec_len t hg;have hes:(encR t).size<=140737488355328:=by rw [hrec,JaN]; omega
  rw [if_pos hg,if_pos hg];rw [hg] at HE;have HW:=zA0 (fun (W:World) (v:Value) (h:Sl Jaa 3 W v l)=>JkM v l logN (encR t) W h hz qG1 hes)
  have HS:=zA0 (fun (W:World) (v:Value) (hw:JbB l logN (encR t)=0) (h:Sl Jaa 3 W v (JbP l logN (encR t)))=>dkSync v (JbP l logN (encR t)) logN W h (fun x hx=>(Jdl (JfJ hw).2.2 x hx).1))
  generalize JbP l logN (encR t)=a at *;generalize JbB l logN (encR t)=ae at *;generalize JfD a logN=b at *;generalize JaW a logN=be at *;generalize encR t=r at *;clear hrec hlen hes h hz hp hg;obtain ⟨z,o,s,p,d,v,ow⟩:=t
  by_cases hae:ae=0
  ·subst hae
   cases safe with
   | true=>
    rw [if_pos ⟨rfl,rfl⟩,if_pos ⟨rfl,rfl⟩];go_enter Tryz.func105,Tryz.ntmps105
    go_wp2_with (first | (go_at_call 140; refine (HE.out _).mono ?_; rintro e w1 ⟨rfl,hb1⟩; obtain ⟨ext1,d1,rfl⟩:=zA2 _ hb1; clear hb1 HE) | (go_at_call 67; refine (HW.out _ _ (H.out.below zL)).mono ?_; rintro e w1 ⟨A1,k1,rfl,ho1,hb2⟩; obtain ⟨ext2,d2,rfl⟩:=zA2 _ hb2; have HO1:=zA0 ho1; clear ho1 hb2 HW) | (go_at_call 141; refine (HS.out _ _ (by first | trivial | rfl) (HO1.out.regrow (zA3 _) qI1).sl).mono ?_; rintro e w1 ⟨A2,k2,rfl,ho2,hb3⟩; obtain ⟨ext3,d3,rfl⟩:=zA2 _ hb3; have HO2:=zA0 ho2; clear ho2 hb3 HS))
    refine zA1 (v:=.tuple #[.agg #[.slice A2 b.length k2],.int .i64 be]) (by simp [results,Tryz.results105,go_sem]) rfl ⟨A2,k2,rfl,(HO2.out.regrow (zA3 _) qI1).mono qB1,zL⟩
   | false=>
    rw [if_neg qI1,if_neg qI1];go_enter Tryz.func105,Tryz.ntmps105
    go_wp2_with (first | (go_at_call 140; refine (HE.out _).mono ?_; rintro e w1 ⟨rfl,hb1⟩; obtain ⟨ext1,d1,rfl⟩:=zA2 _ hb1; clear hb1 HE) | (go_at_call 67; refine (HW.out _ _ (H.out.below zL)).mono ?_; rintro e w1 ⟨A1,k1,rfl,ho1,hb2⟩; obtain ⟨ext2,d2,rfl⟩:=zA2 _ hb2; have HO1:=zA0 ho1; clear ho1 hb2 HW));refine zA1 (v:=.tuple #[.agg #[.slice A1 a.length k1],.int .i64 0]) (by simp [results,Tryz.results105,go_sem]) rfl ⟨A1,k1,rfl,(HO1.out.regrow (zA3 _) qI1).mono qB1,zL⟩
  ·have hne:(ae != 0)=true:=zC9.2 hae
   rw [if_neg (fun h=>hae h.1),if_neg (fun h=>hae h.1)]
   clear hae;go_enter Tryz.func105,Tryz.ntmps105
   go_wp2_with (first | (go_at_call 140; refine (HE.out _).mono ?_; rintro e w1 ⟨rfl,hb1⟩; obtain ⟨ext1,d1,rfl⟩:=zA2 _ hb1; clear hb1 HE) | (go_at_call 67; refine (HW.out _ _ (H.out.below zL)).mono ?_; rintro e w1 ⟨A1,k1,rfl,ho1,hb2⟩; obtain ⟨ext2,d2,rfl⟩:=zA2 _ hb2; have HO1:=zA0 ho1; clear ho1 hb2 HW));refine zA1 (v:=.tuple #[.agg #[.slice A1 a.length k1],.int .i64 ae]) (by simp [results,Tryz.results105,go_sem]) rfl ⟨A1,k1,rfl,(HO1.out.regrow (zA3 _) qI1).mono qB1,zL⟩
 ·have hne:(Jat t != 0)=true:=zC9.2 hg
  have hrec:encR t=⟨#[]⟩:=if_neg hg;rw [hrec] at HE;rw [if_neg hg,if_neg hg];clear hrec hg h hz;generalize Jat t=g at *;obtain ⟨z,o,s,p,d,v,ow⟩:=t;go_enter Tryz.func105,Tryz.ntmps105
  go_wp2_with (first | (go_at_call 140; refine (HE.out _).mono ?_; rintro e w1 ⟨rfl,hb1⟩; obtain ⟨ext1,d1,rfl⟩:=zA2 _ hb1; clear hb1 HE));refine zA1 (v:=.tuple #[.agg #[.slice none 0 0],.int .i64 g]) (by simp [results,Tryz.results105,go_sem]) rfl ⟨none,0,rfl,Ow.nil _ _ _ _ _,zL⟩
def ScanRes (s:List UInt8) (w:World) (e:Ending) (w':World):Prop:=∃ A c l n,e=.returned (.tuple #[.slice A l.length c,.int .i64 (n:Nat)])/\Jfg s l n/\Ow cTxn 7 39 w' w.heap.size (.slice A l.length c) l/\Below w.heap.size w w'
theorem Jmn {s:ByteArray} {e:Int} (he:e≠0) (hd:decR s=(txn0,0,e)) (l:List Txn):JcA l (bs s):=by
 intro t rest ht h;exfalso;have h1:=Jiu t ht rest;rw [<-h,bS_bs,hd] at h1;injection h1 with _ h2
 injection h2 with _ h3
 exact he h3
theorem Jky {t:Txn} (ht:Jat t=0) {l:List Txn} (h1:l≠[]) (h2:t.zxid<=Jao l) (rest:List UInt8):JcA l (recT t ++ rest):=by
 intro x r hx h;obtain ⟨rfl,_⟩:=Jeq ht hx h;exact ⟨h1,h2⟩
def ScanAt (s:List UInt8) (l:List Txn) (n:Nat):Prop:=Jez l/\n=(recs l).length/\s=recs l ++ s.drop n
theorem ScanAt.le {s:List UInt8} {l:List Txn} {n:Nat} (h:ScanAt s l n):n<=s.length/\l.length*31<=n:=by
 have h1:=congrArg List.length h.2.2;rw [zA9] at h1;have h2:=(JdW h.1.1).2;have:=h.2.1;omega
theorem ScanAt.next {s:List UInt8} {l:List Txn} {n:Nat} {t:Txn} {rest:List UInt8} (h:ScanAt s l n) (ht:Jat t=0) (hr:s.drop n=recT t ++ rest) (hz:l=[]\/Jao l<t.zxid):ScanAt s (l ++ [t]) (n+(recT t).length):=by
 refine ⟨Jhn h.1 ht hz,?_,?_⟩
 ·rw [JaR,Jdf,zA9,<-h.2.1]
 ·rw [JaR,Jdf,<-zJ2,hr,zN0,zC0,<-hr]
  exact h.2.2
theorem ScanAt.done {s:List UInt8} {l:List Txn} {n:Nat} (h:ScanAt s l n) (hr:JcA l (s.drop n)):Jfg s l n:=⟨h.1,h.2.1,s.drop n,h.2.2,hr⟩
theorem JjK (s:ByteArray) (n:Nat):bs (s.extract n s.size)=(bs s).drop n:=by
 rw [JaC,zG4 qW0]
theorem scan_any (s:ByteArray) (w:World) (hs:s.size<=1048576) :
  Calls Tryz.prog 68 #[.string s] w (ScanRes (bs s) w):=by
 go_enter Tryz.func68,Tryz.ntmps68
 go_wp2_with fail;go_loopw [4,5] (fun o i wr=>∃ (L:List Txn) (n:Nat) (A':Option Addr) (c':Nat) (ext:Array Obj) (d:Nat),i=.int .i64 n/\o=.slice A' L.length c'/\wr=grow w ext d/\Hid (ScanAt (bs s) L n)/\Hid (Ow cTxn 7 39 wr w.heap.size (.slice A' L.length c') L)) (fun _ i _=>s.size - (intOf i).toNat)
 case atStart=>exact ⟨[],0,none,0,_,_,rfl,rfl,Jav zL,zA0 ⟨⟨by simp,List.Pairwise.nil⟩,rfl,by simp [recs]⟩,zA0 (Ow.nil _ _ _ _ _)⟩
 case round=>
  obtain ⟨L,n,A',c',ext,d,rfl,rfl,rfl,hat,ho⟩:=hrel;have hle:=hat.out.le;have hlen:=zC1 s
  by_cases hlt:n<s.size
  ·have hsz:(s.extract n s.size).size<=281474976710656:=by rw [zH5]; omega
   have hex:=JjK s n;rcases dec_inv (s.extract n s.size) with ⟨t,rest,hg,hr,hd⟩ | ⟨e,he,hd⟩
   ·have HD:=zA0 (fun W=>by
     have h:=JhI (s.extract n s.size) W hsz;rw [hd] at h;exact h)
    rw [hex] at hr;have hn2:=congrArg List.length hr;rw [zE5,zA9] at hn2;have hp7:=Jh0 t;have HL:=zA0 (fun (W:World) (h:Sl cTxn 7 W (.slice A' L.length c') L)=>Jel _ _ W h)
    rcases Classical.em (L=[]) with h0 | h0
    ·have HX:=zA0 (hat.out.next hg hr (.inl h0))
     have hl0:decide (0<L.length)=false:=by rw [h0]; rfl
     have h0':=zA0 h0;clear h0 hd hr hex hsz hg HL;generalize (recT t).length=m at *;go_wp2_with (first | (go_at_call 97; refine (HD.out _).mono ?_; rintro e w1 ⟨rfl,hb1⟩; obtain ⟨ext1,d1,rfl⟩:=zA2 _ hb1; clear hb1 HD));go_quiet (fail);go_wp2_with (at_builtin; refine Jaf _ rfl (.tmp 35) (.tmp 37) _ rfl Jfr (B:=w.heap.size) (l:=L) (m:=[t]) rfl rfl (ho.out.below zL) (Sl.one_at cTxn 7 _ _ _ rfl _ rfl qH1 qI1) JbY qs0 qB1 qy0 ?_; intro v2 w2 hown2 hg2 hat2; obtain ⟨A2,c2,rfl,_⟩:=hown2.form; have HO2:=zA0 hown2; have HG2:Hid (World.grownBy _ w2 (Value.slice A' L.length c').ownBlock):=zA0 hg2; clear hown2 hg2 hat2);have hwb:Below w.heap.size w w2:=Below.grown zL HG2.out qB1 (fun g hg=>(Ow.own_in ho.out hg).1)
     go_wp2_with fail;go_roundw
     case rel=>exact ⟨L ++ [t],n+m,A2,c2,_,_,by go_num,by simp,Jav hwb,HX,HO2⟩
     case measure=>simp [intOf]; omega
    ·have hl0:decide (0<L.length)=true:=zB0 (List.length_pos_iff.2 h0)
     by_cases hz:t.zxid<=Jao L
     ·have HN:=zA0 (hat.out.done (by rw [hr]; exact Jky hg h0 hz rest))
      have hzd:decide (t.zxid<=Jao L)=true:=zB0 hz;generalize Jao L=z at *;clear h0 hd hr hex hsz hg hz;generalize (recT t).length=m at *;go_wp2_with (first | (go_at_call 97; refine (HD.out _).mono ?_; rintro e w1 ⟨rfl,hb1⟩; obtain ⟨ext1,d1,rfl⟩:=zA2 _ hb1; clear hb1 HD));go_quiet (first | (go_at_call 84; with_reducible refine Calls.quiet_of_same ((HL.out _ (ho.out.sl.below zL)).mono fun e w' h=>⟨h.1,h.2.symm⟩)))
      go_wp2_with fail;refine zA1 (v:=.tuple #[.slice A' L.length c',.int .i64 n]) (by simp [results,Tryz.results68,go_sem]) rfl ⟨A',c',L,n,rfl,HN.out,ho.out.below zL,zL⟩
     ·have HX:=zA0 (hat.out.next hg hr (.inr qH1))
      have hzd:decide (t.zxid<=Jao L)=false:=zA7 hz;generalize Jao L=z at *;clear h0 hd hr hex hsz hg hz;generalize (recT t).length=m at *;go_wp2_with (first | (go_at_call 97; refine (HD.out _).mono ?_; rintro e w1 ⟨rfl,hb1⟩; obtain ⟨ext1,d1,rfl⟩:=zA2 _ hb1; clear hb1 HD));go_quiet (first | (go_at_call 84; with_reducible refine Calls.quiet_of_same ((HL.out _ (ho.out.sl.below zL)).mono fun e w' h=>⟨h.1,h.2.symm⟩)))
      go_wp2_with (at_builtin; refine Jaf _ rfl (.tmp 35) (.tmp 37) _ rfl Jfr (B:=w.heap.size) (l:=L) (m:=[t]) rfl rfl (ho.out.below zL) (Sl.one_at cTxn 7 _ _ _ rfl _ rfl qH1 qI1) JbY qs0 qB1 qy0 ?_; intro v2 w2 hown2 hg2 hat2; obtain ⟨A2,c2,rfl,_⟩:=hown2.form; have HO2:=zA0 hown2; have HG2:Hid (World.grownBy _ w2 (Value.slice A' L.length c').ownBlock):=zA0 hg2; clear hown2 hg2 hat2);have hwb:Below w.heap.size w w2:=Below.grown zL HG2.out qB1 (fun g hg=>(Ow.own_in ho.out hg).1)
      go_wp2_with fail;go_roundw
      case rel=>exact ⟨L ++ [t],n+m,A2,c2,_,_,by go_num,by simp,Jav hwb,HX,HO2⟩
      case measure=>simp [intOf]; omega
   ·have HN:=zA0 (hat.out.done (by rw [<-hex]; exact Jmn he hd L))
    have HD:=zA0 (fun W=>by
     have h:=JhI (s.extract n s.size) W hsz;rw [hd] at h;exact h)
    have hne:(e != 0)=true:=zC9.2 he;clear he hd hex hsz;go_wp2_with (first | (go_at_call 97; refine (HD.out _).mono ?_; rintro e w1 ⟨rfl,hb1⟩; obtain ⟨ext1,d1,rfl⟩:=zA2 _ hb1; clear hb1 HD));go_quiet (fail);go_wp2_with fail;refine zA1 (v:=.tuple #[.slice A' L.length c',.int .i64 n]) (by simp [results,Tryz.results68,go_sem]) rfl ⟨A',c',L,n,rfl,HN.out,ho.out.below zL,zL⟩
  ·have HN:=zA0 (hat.out.done (by rw [zQ2 qH1]; exact JcZ L))
   go_wp2_with fail;refine zA1 (v:=.tuple #[.slice A' L.length c',.int .i64 n]) (by simp [results,Tryz.results68,go_sem]) rfl ⟨A',c',L,n,rfl,HN.out,ho.out.below zL,zL⟩
def RecRes (f:List File) (w:World) (e:Ending) (w':World):Prop:=∃ A c L B k f' code,e=.returned (.tuple #[.slice A (List.length (α:=Txn) L) c,.agg #[.slice B (List.length (α:=File) f') k],.int .i64 code])/\JdQ f L f' code/\Ow cTxn 7 39 w' w.heap.size (.slice A L.length c) L/\Ow Jaa 3 128 w' w.heap.size (.slice B f'.length k) f'/\Below w.heap.size w w'
theorem Jfn {f:List File} {p:ByteArray} (h:JaW f p=0):(JbC f p).size<=1048576:=by
 obtain ⟨h1,h2⟩:=Jgj h;unfold JbC;rw [h1,h2];have:=(Jdl h1 _ (Jcd h2).2).2;simp only [Bool.and_true,if_true,zI3];omega
theorem Jgi (v:Value) (f:List File) (w:World) (h:Sl Jaa 3 w v f) (hz:∀ x∈f,x.sized) :
  Calls Tryz.prog 48 #[.agg #[v]] w (RecRes f w):=by
 obtain ⟨A,c,rfl,hc1,hc2⟩:=h.form;have H:=zA0 h;have HR:=zA0 (fun (W:World) (v:Value) (h:Sl Jaa 3 W v f)=>dkRead v f logN W h hz)
 by_cases h7:JaW f logN=7
 ·rw [h7] at HR
  have HW:=zA0 (fun (W:World) (v:Value) (h:Sl Jaa 3 W v f)=>JkM v f logN noB W h hz qG1 qG1)
  have HI:=zA0 (show JdQ f [] (JbP f logN noB) (JbB f logN noB) from .inl ⟨h7,rfl,rfl,rfl⟩)
  have HN:=zA0 (fun h:JbB f logN noB≠0=>Jm6 h)
  generalize JbC f logN=rs at *;generalize JbP f logN noB=a at *;generalize JbB f logN noB=ae at *;clear h hz h7
  by_cases hae:ae=0
  ·subst hae
   clear HN;go_enter Tryz.func48,Tryz.ntmps48
   go_wp2_with (first | (go_at_call 64; refine (HR.out _ _ (H.out.below zL)).mono ?_; rintro e w1 ⟨rfl,hb1⟩; obtain ⟨ext1,d1,rfl⟩:=zA2 _ hb1; clear hb1 HR) | (go_at_call 67; refine (HW.out _ _ (H.out.below zL)).mono ?_; rintro e w1 ⟨A1,k1,rfl,ho1,hb2⟩; obtain ⟨ext2,d2,rfl⟩:=zA2 _ hb2; have HO1:=zA0 ho1; clear ho1 hb2 HW));go_region;go_wp2_with fail;refine zA1 (v:=.tuple #[.slice none ([]:List Txn).length 0,.agg #[.slice A1 a.length k1],.int .i64 0]) (by simp [results,Tryz.results48,go_sem]) rfl ⟨none,0,([]:List Txn),A1,k1,a,0,rfl,HI.out,Ow.nil _ _ _ _ _,(HO1.out.regrow (zA3 _) qI1).mono qB1,zL⟩
  ·have hne:(ae != 0)=true:=zC9.2 hae
   have ha:=HN.out hae;subst ha;clear HN hae;go_enter Tryz.func48,Tryz.ntmps48
   go_wp2_with (first | (go_at_call 64; refine (HR.out _ _ (H.out.below zL)).mono ?_; rintro e w1 ⟨rfl,hb1⟩; obtain ⟨ext1,d1,rfl⟩:=zA2 _ hb1; clear hb1 HR) | (go_at_call 67; refine (HW.out _ _ (H.out.below zL)).mono ?_; rintro e w1 ⟨A1,k1,rfl,ho1,hb2⟩; obtain ⟨ext2,d2,rfl⟩:=zA2 _ hb2; have HO1:=zA0 ho1; clear ho1 hb2 HW));refine zA1 (v:=.tuple #[.slice none ([]:List Txn).length 0,.agg #[.slice none ([]:List File).length 0],.int .i64 ae]) (by simp [results,Tryz.results48,go_sem]) rfl ⟨none,0,([]:List Txn),none,0,([]:List File),ae,rfl,HI.out,Ow.nil _ _ _ _ _,Ow.nil _ _ _ _ _,zL⟩
 ·by_cases h0:JaW f logN=0
  ·have HI:=zA0 (fun (n:Nat) L (hs:Jfg (bs (JbC f logN)) L n)=>show JdQ f L (cutL f logN n) 0 from .inr (.inr ⟨h0,rfl,n,hs,rfl⟩))
   have hsz:=Jfn h0;have HCI:=zA0 (fun (n:Nat) (hn:n<=(bs (JbC f logN)).length)=>JoQ h0 (n:=n) (by rw [zC1] at hn; exact hn))
   rw [h0] at HR;generalize JbC f logN=rs at *;have HSC:=zA0 (fun W=>scan_any rs W hsz)
   clear h h7 h0;go_enter Tryz.func48,Tryz.ntmps48
   go_wp2_with (first | (go_at_call 64; refine (HR.out _ _ (H.out.below zL)).mono ?_; rintro e w1 ⟨rfl,hb1⟩; obtain ⟨ext1,d1,rfl⟩:=zA2 _ hb1; clear hb1 HR) | (go_at_call 68; refine (HSC.out _).mono ?_; rintro e w1 ⟨A2,c2,L,n,rfl,hsc,ho2,hb2⟩; obtain ⟨ext2,d2,rfl⟩:=zA2 _ hb2; have HO2:=zA0 ho2; have HIS:=zA0 hsc; have HC:=zA0 (fun (W:World) (v:Value) (h:Sl Jaa 3 W v f)=>dkCut v f logN (n:Int) W h hz); rw [HCI.out n (JnI hsc).1] at HC; generalize hcl:cutL f logN (n:Int)=b at *; clear ho2 hb2 HSC hsc) | (go_at_call 69; refine (HC.out _ _ (H.out.below zL)).mono ?_; rintro e w1 ⟨A3,k3,rfl,ho3,hb3⟩; obtain ⟨ext3,d3,rfl⟩:=zA2 _ hb3; have HO3:=zA0 ho3; clear ho3 hb3 HC))
   go_region;go_wp2_with fail;refine zA1 (v:=.tuple #[.slice A2 L.length c2,.agg #[.slice A3 b.length k3],.int .i64 0]) (by simp [results,Tryz.results48,go_sem]) rfl ⟨A2,c2,L,A3,k3,b,0,rfl,(by rw [<-hcl]; exact HI.out n L HIS.out),(Ow.below (w:=grow (grow ((w.alloc (.cells #[.slice A3 b.length k3] 65)).alloc (.cells #[.slice A3 b.length k3] 65)) ext1 d1) ext2 d2) (HO2.out.regrow (zA3 _) qI1) zL).mono qB1,(HO3.out.regrow (zA3 _) qI1).mono qB1,zL⟩
  ·have hne:(JaW f logN != 0)=true:=zC9.2 h0
   have hne7:(JaW f logN == 7)=false:=zB7.2 h7;have HI:=zA0 (show JdQ f [] [] (JaW f logN) from .inr (.inl ⟨h7,h0,rfl,rfl,rfl⟩))
   generalize JbC f logN=rs at *;generalize JaW f logN=re at *;clear h hz h7 h0;go_enter Tryz.func48,Tryz.ntmps48
   go_wp2_with (first | (go_at_call 64; refine (HR.out _ _ (H.out.below zL)).mono ?_; rintro e w1 ⟨rfl,hb1⟩; obtain ⟨ext1,d1,rfl⟩:=zA2 _ hb1; clear hb1 HR));refine zA1 (v:=.tuple #[.slice none ([]:List Txn).length 0,.agg #[.slice none ([]:List File).length 0],.int .i64 re]) (by simp [results,Tryz.results48,go_sem]) rfl ⟨none,0,([]:List Txn),none,0,([]:List File),re,rfl,HI.out,Ow.nil _ _ _ _ _,Ow.nil _ _ _ _ _,zL⟩
end
end Go.Proofs.YtjnooagaghdkdaaGreatDoor
