/-L-/
import Derived.Lib.ItoaNum
import Derived.Lib.SmallJoins
import Derived.Lib.LaidTab
import Derived.MakeChecks
import Derived.Test.YtjnooagaghdkdaaGreatDoorZ5
import Derived.Test.YtjnooagaghdkdaaGreatDoorZ7
set_option maxHeartbeats 10000000
set_option maxRecDepth 100000
set_option linter.all false
namespace Go.Proofs.YtjnooagaghdkdaaGreatDoor
section
open Go.RowKit Go.ChangeShapes Go.WideShapes Go.ChangeAt
def Cur (w:World) (g:Nat) (s:ByteArray) (bad:Bool):Prop:=w.cell? ⟨g,0,none⟩=some (.string s)/\w.cell? ⟨g,1,none⟩=some (.bool bad)/\w.frozen? ⟨g,0,none⟩=false/\w.frozen? ⟨g,1,none⟩=false
def badT (s:ByteArray) (bad:Bool) (n:Nat):Bool:=bad || decide (s.size<n)
def Jau (s:ByteArray) (bad:Bool) (n:Nat):ByteArray:=if badT s bad n then ⟨#[]⟩ else s.extract 0 n
def JaF (s:ByteArray) (bad:Bool) (n:Nat):ByteArray:=if badT s bad n then s else s.extract n s.size
theorem cur_set0 {w:World} {g:Nat} {s:ByteArray} {bad:Bool} (h:Cur w g s bad) (t:ByteArray):Cur (w.setCell ⟨g,0,none⟩ (.string t)) g t bad:=by
 obtain ⟨h1,h2,h3,h4⟩:=h;exact ⟨World.cell?_setCell_same' _ _ _ (by rw [h1]; rfl),(World.cell?_setCell_other _ _ _ _ (fun e=>by injection e with _ e; exact absurd e qG1)).trans h2,(World.frozen?_setCell ..).trans h3,(World.frozen?_setCell ..).trans h4⟩
theorem JlO {w:World} {g:Nat} {s:ByteArray} {bad:Bool} (h:Cur w g s bad) (b:Bool):Cur (w.setCell ⟨g,1,none⟩ (.bool b)) g s b:=by
 obtain ⟨h1,h2,h3,h4⟩:=h;exact ⟨(World.cell?_setCell_other _ _ _ _ (fun e=>by injection e with _ e; exact absurd e qG1)).trans h1,World.cell?_setCell_same' _ _ _ (by rw [h2]; rfl),(World.frozen?_setCell ..).trans h3,(World.frozen?_setCell ..).trans h4⟩
theorem JeH (g:Nat) (s:ByteArray) (bad:Bool) (n:Nat) (w:World) (h:Cur w g s bad) (hn:n<4611686018427387904) (_hs:s.size<=4611686018427387904) :
  Calls Tryz.prog 124 #[.pointer (some ⟨g,0,none⟩),.int .i64 n] w fun e w'=>e=.returned (.string (Jau s bad n))/\Cur w' g (JaF s bad n) (badT s bad n)/\w.grownBy w' (some g):=by
 have HC:=zA0 h;obtain ⟨h1,h2,h3,h4⟩:=h;unfold Jau JaF;cases bad with
 | true=>
  have hb:badT s true n=true:=rfl;rw [hb];simp only [if_true];go_enter Tryz.func124,Tryz.ntmps124
  go_wp2_with fail;go_ret;exact ⟨rfl,JlO HC.out true,zD9 _ _ _ _⟩
 | false=>
  by_cases hlt:s.size<n
  ·have hb:badT s false n=true:=by unfold badT; rw [zB0 hlt]; rfl
   rw [hb];simp only [if_true];have hi:(decide ((s.size:Int)<(n:Int)))=true:=zB0 qH1;clear hb;go_enter Tryz.func124,Tryz.ntmps124
   go_wp2_with fail;go_ret;exact ⟨rfl,JlO HC.out true,zD9 _ _ _ _⟩
  ·have hb:badT s false n=false:=by unfold badT; rw [zA7 hlt]; rfl
   rw [hb];simp only [zC7,if_false];have hi:(decide ((s.size:Int)<(n:Int)))=false:=zA7 qH1;clear hb;go_enter Tryz.func124,Tryz.ntmps124
   go_wp2_with fail;go_ret;exact ⟨rfl,cur_set0 HC.out _,zD9 _ _ _ _⟩
def valI (l:List UInt8):Int:=l.foldl (fun v c=>wrap64 (v*256+(c.toNat:Int))) 0
theorem JfW (l:List UInt8) (c:UInt8):valI (l ++ [c])=wrap64 (valI l*256+(c.toNat:Int)):=by unfold valI; rw [zI2]; rfl
theorem JeT (a:Int):(BitVec.ofInt 64 a).toNat=(a % 18446744073709551616).toNat:=by
 simp [BitVec.ofInt,Int.emod_def]
theorem bits_or8 (n:Int) (c:Nat) (hc:c<256):bits .or .i64 (wrap64 (n*256)) (c:Int)=wrap64 (n*256+(c:Int)):=by
 have h1:(BitVec.ofInt 64 (wrap64 (n*256))).toNat=((n % 72057594037927936).toNat)*256:=by
  rw [JeT]; unfold wrap64; omega
 have h2:(BitVec.ofInt 64 (c:Int)).toNat=c:=by rw [JeT]; omega
 show IntKind.i64.wrap ((BitVec.ofInt 64 (wrap64 (n*256)) ||| BitVec.ofInt 64 (c:Int)).toNat:Int)=_;rw [BitVec.toNat_or,h1,h2];have h3:(n % 72057594037927936).toNat*256 ||| c=(n % 72057594037927936).toNat*256+c:=by
  have:=Nat.two_pow_add_eq_or_of_lt (i:=8) (b:=c) qH1 ((n % 72057594037927936).toNat);rw [zL8] at this;exact this.symm
 rw [h3];unfold IntKind.wrap wrap64;simp [IntKind.signed,IntKind.bits];omega
theorem JdU (s:ByteArray) (bad:Bool) (n:Nat):(Jau s bad n).size<=s.size:=by
 unfold Jau;split
 ·exact zB9 _
 ·rw [zH5]; omega
theorem JgT {w w':World} {g:Nat} {s:ByteArray} {bad:Bool} (h:Cur w g s bad) (hb:Below w.heap.size w w'):Cur w' g s bad:=by
 obtain ⟨h1,h2,h3,h4⟩:=h;have hg:g<w.heap.size:=World.block_lt_of_cell? w _ h1;exact ⟨(hb.cell (p:=⟨g,0,none⟩) hg).trans h1,(hb.cell (p:=⟨g,1,none⟩) hg).trans h2,(World.frozen?_of_block (a:=⟨g,0,none⟩) (hb.block g hg)).trans h3,(World.frozen?_of_block (a:=⟨g,1,none⟩) (hb.block g hg)).trans h4⟩
theorem Jfe {w w':World} (hb:Below w.heap.size w w') (g:Nat):w.grownBy w' (some g):=⟨hb.os,hb.tape,hb.output,hb.size,fun k hk _=>hb.block k hk⟩
theorem Jbw (g:Nat) (s:ByteArray) (bad:Bool) (n:Nat) (w:World) (h:Cur w g s bad) (hn:n<4611686018427387904) (hs:s.size<=4611686018427387904) :
  Calls Tryz.prog 125 #[.pointer (some ⟨g,0,none⟩),.int .i64 n] w fun e w'=>e=.returned (.int .i64 (valI (bs (Jau s bad n))))/\Cur w' g (JaF s bad n) (badT s bad n)/\w.grownBy w' (some g):=by
 have hconv:=fun (w:World) (s:ByteArray)=>run_bytes_of_string (P:=Tryz.prog) w 9 193 5 s Tryz.underlying9 Tryz.underlying193 Tryz.underlying5
 have HT:=zA0 (JeH g s bad n w h hn hs);have hz:=JdU s bad n;generalize Jau s bad n=t at *;generalize JaF s bad n=r at *;generalize badT s bad n=b' at *;clear h;go_enter Tryz.func125,Tryz.ntmps125
 go_wp2_with (go_at_call 124; refine (HT.out).mono ?_; rintro e w1 ⟨rfl,hc1,hg1⟩; have HC1:=zA0 hc1; have HG1:=zA0 hg1; clear hc1 hg1 HT);have HC2:=zA0 (fun (j:Nat) (c:UInt8) (h:(bs t)[j]?=some c)=>show ((w1.alloc (.cells (bytesRow t (grownCap w1 t.size 0 5)) 5 ((bytesRow t (grownCap w1 t.size 0 5)).size,(bytesRow t (grownCap w1 t.size 0 5)).size+1))).drew).cell? ⟨w1.heap.size,j,none⟩=some (.int .u8 (c.toNat:Int)) from Jlc w1 t _ _ _ j c h)
 have hB1:Below w1.heap.size w1 ((w1.alloc (.cells (bytesRow t (grownCap w1 t.size 0 5)) 5 ((bytesRow t (grownCap w1 t.size 0 5)).size,(bytesRow t (grownCap w1 t.size 0 5)).size+1))).drew):=zL;have HCU:=zA0 (JgT HC1.out hB1);have HGR:=zA0 (HG1.out.trans (Jfe hB1 g));clear HC1 HG1 hB1;generalize ((w1.alloc (.cells (bytesRow t (grownCap w1 t.size 0 5)) 5 ((bytesRow t (grownCap w1 t.size 0 5)).size,(bytesRow t (grownCap w1 t.size 0 5)).size+1))).drew)=W1 at *;generalize grownCap w1 t.size 0 5=cap at *;go_loopw [5,13] (fun v i wr=>∃ k:Nat,k<=t.size/\v=.int .i64 (valI ((bs t).take k))/\i=.int .i64 k/\wr=W1) (fun _ i _=>t.size - (intOf i).toNat)
 case atStart=>exact ⟨0,zB9 _,rfl,rfl,rfl⟩
 case round=>
  obtain ⟨k,hk,rfl,rfl,rfl⟩:=hrel;have hlen:=zC1 t
  by_cases hlt:k<t.size
  ·have hx:(bs t)[k]?=some ((bs t)[k]'qH1):=zA8 _
   have hc:=HC2.out k _ hx;have htk:(bs t).take (k+1)=(bs t).take k ++ [(bs t)[k]'qH1]:=qdE;generalize (bs t)[k]'qH1=c at *;have hc255:c.toNat<256:=c.toNat_lt;have HV:=zA0 (show valI ((bs t).take (k+1))=wrap64 (valI ((bs t).take k)*256+(c.toNat:Int)) by rw [htk,JfW])
   generalize valI ((bs t).take k)=n0 at *;clear htk hx;go_wp2_with fail;exact ⟨⟨k+1,by omega,by rw [HV.out,bits_or8 n0 c.toNat hc255],by go_num,trivial⟩,by simp [intOf]; omega⟩
  ·have hk':k=t.size:=by omega
   subst hk';rw [zG4 qH1];go_wp2_with fail;go_ret;exact ⟨rfl,HCU.out,HGR.out⟩
abbrev zH6:=@Jfe
end
section
open Go.RowKit
theorem JhJ (u:Nat):(Lib.decDigits u).all Jc6=true/\valD (Lib.decDigits u)=u:=by
 induction u using Nat.strongRecOn with
 | ind u ih=>
  have one:∀ d,d<10->Jc6 (UInt8.ofNat (48+d))=true/\(UInt8.ofNat (48+d)).toNat=48+d:=by
   intro d hd;have:(UInt8.ofNat (48+d)).toNat=48+d:=qXE;refine ⟨?_,this⟩;unfold Jc6;rw [this];exact zB0 qH1
  by_cases h:u<10
  ·rw [Lib.decDigits,dif_pos h]
   obtain ⟨h1,h2⟩:=one u h;refine ⟨by rw [List.all_cons,h1]; rfl,?_⟩
   show 0*10+((UInt8.ofNat (48+u)).toNat - 48)=u;rw [h2]; omega
  ·rw [Lib.decDigits,dif_neg h]
   obtain ⟨h1,h2⟩:=one (u % 10) qH1;obtain ⟨i1,i2⟩:=ih (u / 10) qH1;refine ⟨by rw [zN4,i1,List.all_cons,h1]; rfl,?_⟩
   rw [JeD,i2,h2];omega
theorem JkP:∀ (k u:Nat),u<10 ^ (k+1)->(Lib.decDigits u).length<=k+1
 | 0,u,h=>by rw [Lib.decDigits,dif_pos qA1]; simp
 | k+1,u,h=>by
  by_cases h10:u<10
  ·rw [Lib.decDigits,dif_pos h10]; simp
  ·rw [Lib.decDigits,dif_neg h10,zA9]
   have:=JkP k (u / 10) (by rw [zI4] at h; omega)
   simp;omega
theorem dec_ne (u:Nat):0<(Lib.decDigits u).length:=by
 rw [Lib.decDigits];split <;> simp
theorem dec_head (u:Nat) (h:1<=u):(Lib.decDigits u)[0]?≠some 48:=by
 induction u using Nat.strongRecOn with
 | ind u ih=>
  by_cases h10:u<10
  ·rw [Lib.decDigits,dif_pos h10]
   intro e;have e2:UInt8.ofNat (48+u)=48:=by simpa using e
   have:=congrArg UInt8.toNat e2;simp at this;omega
  ·rw [Lib.decDigits,dif_neg h10,zF1 (dec_ne _)]
   exact ih (u / 10) qH1 qH1
theorem JjU {u:Nat} (h:u<10000000000):Ja5 (Lib.decDigits u)=true/\JbG (Lib.decDigits u)=u:=by
 obtain ⟨h1,h2⟩:=JhJ u;have hl:=JkP 9 u h;have hn:=dec_ne u;have hok:Ja5 (Lib.decDigits u)=true:=by
  unfold Ja5;have hne:Lib.decDigits u≠[]:=by intro e; rw [e] at hn; simp at hn
  rw [zB0 hne,zB0 hl,h1];have:(decide (1<(Lib.decDigits u).length) && decide ((Lib.decDigits u)[0]?=some 48))=false:=by
   by_cases hu:1<=u
   ·rw [zA7 (dec_head u hu)]; simp
   ·have:u=0:=by omega
    subst this;rw [Lib.decDigits,dif_pos qG1];rfl
  rw [this];rfl
 exact ⟨hok,by unfold JbG; rw [hok,h2]; rfl⟩
def cutR (s:ByteArray):ByteArray × ByteArray × Bool:=if Lib.indexByte s.data.toList 46<0 then (s,⟨#[]⟩,false) else (s.extract 0 (Lib.indexByte s.data.toList 46).toNat,s.extract ((Lib.indexByte s.data.toList 46).toNat+1) s.size,true)
theorem scut_any (s:ByteArray) (w:World) (hs:s.size<=4611686018427387904) :
  Calls Tryz.prog 121 #[.string s,.string ⟨#[46]⟩] w fun e w'=>e=.returned (.tuple #[.string (cutR s).1,.string (cutR s).2.1,.bool (cutR s).2.2])/\Below w.heap.size w w':=by
 have HI:=zA0 (fun (W:World)=>Tryz.stringslite_Index_one s 46 W)
 have hge:=Lib.indexByte_ge s.data.toList 46;unfold cutR;rcases zK8 (Lib.indexByte s.data.toList 46) 0 with hi | hi
 ·simp only [if_pos hi]
  have hi1:Lib.indexByte s.data.toList 46 = -1:=qCE;rw [hi1] at HI;clear hi hge hi1;go_enter Tryz.func121,Tryz.ntmps121
  go_wp2_with (go_at_call 117; refine (HI.out _).mono ?_; rintro e w1 ⟨rfl,rfl⟩; skip);refine zA1 (v:=.tuple #[.string s,.string ⟨#[]⟩,.bool false]) (by simp [results,Tryz.results121,go_sem]) rfl ⟨rfl,zL⟩
 ·simp only [if_neg (Int.not_lt.2 hi)]
  obtain ⟨o,ho⟩:=zG8 hi;have hlt:o<s.size:=by
   have:=(Lib.indexByte_some ho).1;have h2:=(zB3.1 this).1;simpa using h2
  rw [ho] at HI ⊢;have hgi:(decide ((o:Int) ≥ 0))=true:=zB0 qH1;clear hi hge ho;rw [zG9];go_enter Tryz.func121,Tryz.ntmps121
  go_wp2_with (go_at_call 117; refine (HI.out _).mono ?_; rintro e w1 ⟨rfl,rfl⟩; skip);go_region;go_wp2_with fail;refine zA1 (v:=.tuple #[.string (s.extract 0 o),.string (s.extract (o+1) s.size),.bool true]) (by simp [results,Tryz.results121,go_sem]) rfl ⟨rfl,zL⟩
theorem JoR (s:ByteArray):(cutR s).1.size<=s.size/\(cutR s).2.1.size<=s.size:=by
 unfold cutR;split
 ·exact ⟨zA3 _,zB9 _⟩
 ·simp only [zH5]
  omega
theorem cut_any (s:ByteArray) (w:World) (hs:s.size<=4611686018427387904) :
  Calls Tryz.prog 92 #[.string s,.string ⟨#[46]⟩] w fun e w'=>e=.returned (.tuple #[.string (cutR s).1,.string (cutR s).2.1,.bool (cutR s).2.2])/\Below w.heap.size w w':=by
 have HC:=zA0 (fun (W:World)=>scut_any s W hs)
 generalize cutR s=r at *;go_enter Tryz.func92,Tryz.ntmps92
 go_wp2_with (go_at_call 121; refine zc (HC.out _) (fun ext1 d1=>?_))
 refine zA1 (v:=.tuple #[.string r.1,.string r.2.1,.bool r.2.2]) (by simp [results,Tryz.results92,go_sem]) rfl ⟨rfl,zL⟩
instance (a:Int):Decidable (Half a):=by unfold Half; exact inferInstance
def Jmo (a b:Int):Int × Int:=if Half a/\Half b then (a*2147483648+b,0) else (0,3)
theorem Jm3 (a b:Int) (w:World) :
  Calls Tryz.prog 94 #[.int .i64 a,.int .i64 b] w fun e w'=>e=.returned (.tuple #[.int .i64 (Jmo a b).1,.int .i64 (Jmo a b).2])/\w=w':=by
 unfold Jmo
 by_cases h:Half a/\Half b
 ·rw [if_pos h]; exact JhP a b w h.1 h.2
 ·rw [if_neg h]; exact Jk1 a b w h
def Jfo (s:ByteArray):Int × Int:=if (cutR s).2.2 && (Ja5 (bs (cutR s).1) && Ja5 (bs (cutR s).2.1)) then Jmo (JbG (bs (cutR s).1)) (JbG (bs (cutR s).2.1)) else (0,2)
theorem read_any (s:ByteArray) (w:World) (hs:s.size<=4611686018427387904) :
  Calls Tryz.prog 65 #[.string s] w fun e w'=>e=.returned (.tuple #[.int .i64 (Jfo s).1,.int .i64 (Jfo s).2])/\Below w.heap.size w w':=by
 have hz:=JoR s;have HC:=zA0 (fun (W:World)=>cut_any s W hs)
 have HA:=zA0 (fun (W:World)=>Ji0 (cutR s).1 W qH1)
 have HB:=zA0 (fun (W:World)=>Ji0 (cutR s).2.1 W qH1)
 have HM:=zA0 (fun (W:World)=>Jm3 (JbG (bs (cutR s).1)) (JbG (bs (cutR s).2.1)) W)
 unfold Jfo;generalize Jmo (JbG (bs (cutR s).1)) (JbG (bs (cutR s).2.1))=mk at *;generalize JbG (bs (cutR s).1)=va at *;generalize JbG (bs (cutR s).2.1)=vb at *;generalize Ja5 (bs (cutR s).1)=oa at *;generalize Ja5 (bs (cutR s).2.1)=ob at *;generalize cutR s=r at *;obtain ⟨ra,rb,rok⟩:=r;simp only at *;clear hz;cases rok with
 | false=>
  simp only [zJ5,zC7,if_false];go_enter Tryz.func65,Tryz.ntmps65
  go_wp2_with
   (first | (go_at_call 92; refine (HC.out _).mono ?_; rintro e w1 ⟨rfl,hb⟩; obtain ⟨ext1,d1,rfl⟩:=zA2 w (zB8 zL hb); clear hb HC) | (go_at_call 93; refine (HA.out _).mono ?_; rintro e w1 ⟨rfl,hb⟩; obtain ⟨ext1,d1,rfl⟩:=zA2 w (zB8 zL hb); clear hb HA) | (go_at_call 93; refine (HB.out _).mono ?_; rintro e w1 ⟨rfl,hb⟩; obtain ⟨ext1,d1,rfl⟩:=zA2 w (zB8 zL hb); clear hb HB) | (go_at_call 94; refine (HM.out _).mono ?_; rintro e w1 ⟨rfl,rfl⟩; skip))
  go_ret2;exact ⟨rfl,zL⟩
 | true=>
  cases oa with
  | false=>
   simp only [zJ5,zJ6,zC7,if_false];go_enter Tryz.func65,Tryz.ntmps65
   go_wp2_with
    (first | (go_at_call 92; refine (HC.out _).mono ?_; rintro e w1 ⟨rfl,hb⟩; obtain ⟨ext1,d1,rfl⟩:=zA2 w (zB8 zL hb); clear hb HC) | (go_at_call 93; refine (HA.out _).mono ?_; rintro e w1 ⟨rfl,hb⟩; obtain ⟨ext1,d1,rfl⟩:=zA2 w (zB8 zL hb); clear hb HA) | (go_at_call 93; refine (HB.out _).mono ?_; rintro e w1 ⟨rfl,hb⟩; obtain ⟨ext1,d1,rfl⟩:=zA2 w (zB8 zL hb); clear hb HB) | (go_at_call 94; refine (HM.out _).mono ?_; rintro e w1 ⟨rfl,rfl⟩; skip))
   go_ret2;exact ⟨rfl,zL⟩
  | true=>
   cases ob with
   | false=>
    simp only [zJ6,zC7,if_false];go_enter Tryz.func65,Tryz.ntmps65
    go_wp2_with
     (first | (go_at_call 92; refine (HC.out _).mono ?_; rintro e w1 ⟨rfl,hb⟩; obtain ⟨ext1,d1,rfl⟩:=zA2 w (zB8 zL hb); clear hb HC) | (go_at_call 93; refine (HA.out _).mono ?_; rintro e w1 ⟨rfl,hb⟩; obtain ⟨ext1,d1,rfl⟩:=zA2 w (zB8 zL hb); clear hb HA) | (go_at_call 93; refine (HB.out _).mono ?_; rintro e w1 ⟨rfl,hb⟩; obtain ⟨ext1,d1,rfl⟩:=zA2 w (zB8 zL hb); clear hb HB) | (go_at_call 94; refine (HM.out _).mono ?_; rintro e w1 ⟨rfl,rfl⟩; skip))
    go_ret2;exact ⟨rfl,zL⟩
   | true=>
    simp only [zJ9,if_true];go_enter Tryz.func65,Tryz.ntmps65
    go_wp2_with
     (first | (go_at_call 92; refine (HC.out _).mono ?_; rintro e w1 ⟨rfl,hb⟩; obtain ⟨ext1,d1,rfl⟩:=zA2 w (zB8 zL hb); clear hb HC) | (go_at_call 93; refine (HA.out _).mono ?_; rintro e w1 ⟨rfl,hb⟩; obtain ⟨ext1,d1,rfl⟩:=zA2 w (zB8 zL hb); clear hb HA) | (go_at_call 93; refine (HB.out _).mono ?_; rintro e w1 ⟨rfl,hb⟩; obtain ⟨ext1,d1,rfl⟩:=zA2 w (zB8 zL hb); clear hb HB) | (go_at_call 94; refine (HM.out _).mono ?_; rintro e w1 ⟨rfl,rfl⟩; skip))
    go_ret2;exact ⟨rfl,zL⟩
def Jck (z:Int):ByteArray:=⟨(Lib.itoa (z / 2147483648)).toArray⟩ ++ ⟨#[46]⟩ ++ ⟨(Lib.itoa (z % 2147483648)).toArray⟩
theorem Je0 {u:Int} (h0:0<=u) (h:u<10000000000):(⟨(Lib.itoa u).toArray⟩:ByteArray).size<=10:=by
 show (Lib.itoa u).toArray.size<=10;unfold Lib.itoa;rw [if_neg qH1];have:=JkP 9 u.toNat qH1;simpa using this
theorem Jlz (n : Int) (h0 : 0 ≤ n) (h1 : n ≤ 9223372036854775807) (w : World) (htab : Lib.TabIs Tryz.prog w "internal/strconv.uint64pow10" .u64 Lib.pow10Tab) :
  Calls Tryz.prog 174 #[.int .i64 n] w fun e w'=>e=.returned (.string ⟨(Lib.itoa n).toArray⟩)/\Below w.heap.size w w':=by
 refine (Tryz.strconv_Itoa n qH1 h1 w htab).mono ?_;rintro e w' ⟨rfl,k,os,rfl⟩;exact ⟨rfl,Ja8 (W:=w) os (w.drewN k).drawn (zB6 _ _)⟩
theorem text_yes (z : Int) (w : World) (h : Zx z) (htab : Lib.TabIs Tryz.prog w "internal/strconv.uint64pow10" .u64 Lib.pow10Tab) (g : Nat) (hg : Tryz.prog.globalNamed "internal/strconv.uint64pow10" = some g) :
  Calls Tryz.prog 148 #[.int .i64 z] w fun e w'=>e=.returned (.tuple #[.string (Jck z),.int .i64 0])/\Below w.heap.size w w':=by
 have HG:=zA0 (fun (W:World)=>Ja4 z W h)
 have HE:=zA0 (fun (W:World)=>JiG z W h)
 have HN:=zA0 (fun (W:World)=>JfT z W h)
 have h2:=h;unfold Zx at h2;have HI1:=zA0 (fun (W:World) (hb:Below w.heap.size w W)=>Jlz (z / 2147483648) qH1 qH1 W (Joins.tab_stays hg htab hb (zA3 _)))
 have HI2:=zA0 (fun (W:World) (hb:Below w.heap.size w W)=>Jlz (z % 2147483648) qH1 qH1 W (Joins.tab_stays hg htab hb (zA3 _)))
 have s1:=Je0 (u:=z / 2147483648) qH1 qH1;have s2:=Je0 (u:=z % 2147483648) qH1 qH1;unfold Jck;generalize (⟨(Lib.itoa (z / 2147483648)).toArray⟩:ByteArray)=a at *;generalize (⟨(Lib.itoa (z % 2147483648)).toArray⟩:ByteArray)=b at *;generalize z / 2147483648=ze at *;generalize z % 2147483648=zc at *;clear h htab;go_enter Tryz.func148,Tryz.ntmps148
 go_wp2_with (first | (go_at_call 95; refine (HG.out _).mono ?_; rintro e w1 ⟨rfl,rfl⟩; skip) | (go_at_call 66; refine (HE.out _).mono ?_; rintro e w1 ⟨rfl,rfl⟩; skip) | (go_at_call 128; refine (HN.out _).mono ?_; rintro e w1 ⟨rfl,rfl⟩; skip) | (go_at_call 174; refine (HI1.out _ zL).mono ?_; rintro e w1 ⟨rfl,hb⟩; obtain ⟨ext1,d1,rfl⟩:=zA2 w (zB8 zL hb); clear hb HI1) | (go_at_call 174; refine (HI2.out _ zL).mono ?_; rintro e w1 ⟨rfl,hb⟩; obtain ⟨ext2,d2,rfl⟩:=zA2 w (zB8 zL hb); clear hb HI2));go_ret2;exact ⟨rfl,zL⟩
theorem Jly {u:Int} (h:0<=u):Lib.itoa u=Lib.decDigits u.toNat:=by unfold Lib.itoa; rw [if_neg qH1]
theorem text_bs {z:Int} (h:Zx z):bs (Jck z)=Lib.decDigits (z / 2147483648).toNat ++ 46 :: Lib.decDigits (z % 2147483648).toNat:=by
 have h2:=h;unfold Zx at h2;unfold Jck;rw [Jas,Jas,Jly qH1,Jly qH1];show Lib.decDigits _ ++ [46] ++ Lib.decDigits _=_;simp
theorem JoJ {l:List UInt8} (h:l.all Jc6=true):(46:UInt8)∉l:=by
 intro hm;have:=List.all_eq_true.1 h _ hm
 revert this
 decide
theorem Joi {x y:List UInt8} (h:(46:UInt8)∉x):Lib.indexByte (x ++ 46 :: y) 46=x.length:=by
 have hge:=Lib.indexByte_ge (x ++ 46 :: y) 46;rcases zK8 (Lib.indexByte (x ++ 46 :: y) 46) 0 with hi | hi
 ·exfalso
  have:=Lib.indexByte_none (show Lib.indexByte (x ++ 46 :: y) 46 = -1 by omega) x.length
  exact this (by rw [zI5 (zA3 _),zI6]; rfl)
 ·obtain ⟨o,ho⟩:=zG8 hi
  obtain ⟨h1,h2⟩:=Lib.indexByte_some ho;rw [ho];congr 1;rcases zO4 o x.length with hlt | heq | hgt
  ·exfalso
   rw [zF1 hlt] at h1;exact h (zF0.2 ⟨o,h1⟩)
  ·exact heq
  ·exact absurd (by rw [zI5 (zA3 _),zI6]; rfl) (h2 x.length hgt)
theorem cut_mid {s:ByteArray} {x y:List UInt8} (hb:bs s=x ++ 46 :: y) (h:(46:UInt8)∉x):bs (cutR s).1=x/\bs (cutR s).2.1=y/\(cutR s).2.2=true:=by
 have hi:Lib.indexByte s.data.toList 46=(x.length:Int):=by
  have:s.data.toList=x ++ 46 :: y:=hb;rw [this];exact Joi h
 unfold cutR;rw [hi,if_neg qH1,zG9];refine ⟨?_,?_,rfl⟩
 ·rw [Jbe,hb]
  simp
 ·rw [Jbe,zG4 qW0,hb,zO1,zQ2 qH1,show x.length+1 - x.length=1 from by omega]
  rfl
theorem JnO {z:Int} (h:Zx z):Jfo (Jck z)=(z,0):=by
 have h2:=h;unfold Zx at h2;have d1:=JhJ (z / 2147483648).toNat;obtain ⟨c1,c2,c3⟩:=cut_mid (text_bs h) (JoJ d1.1);have e1:=JjU (u:=(z / 2147483648).toNat) qH1;have e2:=JjU (u:=(z % 2147483648).toNat) qH1;unfold Jfo;rw [c1,c2,c3,e1.1,e1.2,e2.1,e2.2];simp only [zJ9,if_true];unfold Jmo;rw [if_pos ⟨⟨by omega,by omega⟩,⟨by omega,by omega⟩⟩]
 congr 1;omega
theorem JjS (g n c k j m q:Nat) (cur news:List Value) (w:World) (hb:Bk w g cur 75) (hnews:news.length=m*9) (hsrc:∀ (i:Nat) (v:Value),news[i]?=some v->cur[j*9+i]?=some v)
  (hone:∀ v∈news,v.oneCell'=true) (hlen:cur.length=c*9) (hj:j=k+1) (hm:k+m=q) (hn:n=q+1) (hnc:n<=c) (hc:c<=9223372036854775807) :
  Calls Tryz.prog 167 #[.slice (some ⟨g,0,none⟩) n c,.int .i64 k,.int .i64 j] w fun e w'=>e=.returned (.slice (some ⟨g,0,none⟩) q c)/\
   Hid (∃ cur',Bk w' g cur' 75/\cur'.length=cur.length/\cur'.take (q*9)=(splice cur (k*9) news).take (q*9)/\w.grownBy w' (some g)):=by
 have HB:=zA0 hb;have HO:=zA0 hone;have HN:=zA0 hnews;have HS:=zA0 hsrc;have HL:=zA0 hlen;have hkc:(k:Int)<=(c:Int):=qCE;have hjn:(j:Int)<=(n:Int):=qCE;have hnci:(n:Int)<=(c:Int):=qCE;have hqn:(q:Int)<=(n:Int):=qCE;have hqc:(q:Int)<=(c:Int):=qCE;have hkj:(k:Int)<=(j:Int):=qCE;have hkk:((k:Int) == (j:Int))=false:=zB7.2 qH1;have hnq:n - q=1:=qCE;have HQ:=zA0 hn;have HJ:=zA0 hj;have HBD:Hid (Bk w.drew g cur 75):=HB;clear hb hone hnews hsrc hlen
 by_cases hcj:c=j
 ·have hm0:m=0:=by omega
  subst hm0;rw [zH9] at hm;subst hm;have hn0:news=[]:=zK2 (by simpa using HN.out)
  have HN0:=zA0 hn0;have hnj:n=j:=qCE;subst hnj;subst hcj;clear hn hj hn0;go_enter Tryz.func167,Tryz.ntmps167
  go_wp2_with fail;go_region_law (first | (refine JcB rfl (.tmp 22) (.tmp 25) _ rfl Jc4 (g:=g) (k:=k) (c:=c) (off:=0) (m:=0) (cc:=0) (news:=news) qi0 qi0 HBD.out (by rw [HN0.out]; rfl) (by rw [HN0.out]; simp) qH1 qZ0 HO.out ?_; intro w2 hb2 hg2 hz2; have HB2:=zA0 hb2; have HG2:=zA0 hg2; have HZ2:=zA0 hz2; clear hb2 hg2 hz2))
  have hsl:(splice cur (k*9) news).length=c*9:=qLE;have HSL:=zA0 hsl;clear hsl;go_wp2_with (first | (with_reducible refine JaZ ?_); (refine Jbu rfl (.tmp 31) _ rfl Jc4 (off:=k*9) (n:=1) rfl HB2.out qG1 (by rw [HSL.out]; omega) ?_; intro w3 cur3 hb3 hl3 ht3 hg3 _; have HB3:=zA0 hb3; have HL3:=zA0 hl3; have HT3:=zA0 ht3; have HG3:=zA0 hg3; clear hb3 hl3 ht3 hg3))
  refine zA1 (v:=.slice (some ⟨g,0,none⟩) k c) (by simp [results,Tryz.results167,go_sem]) rfl ⟨rfl,zA0 ⟨cur3,HB3.out,by rw [HL3.out,HSL.out,HL.out],HT3.out,?_⟩⟩
  exact (show w.grownBy w2 (some g) from ⟨HG2.out.os,HG2.out.tape,HG2.out.output,HG2.out.size,HG2.out.block⟩).trans HG3.out
 ·clear hn hj
  go_enter Tryz.func167,Tryz.ntmps167
  go_wp2_with fail;go_region_law (first | (refine JcB rfl (.tmp 22) (.tmp 25) _ rfl Jc4 (g:=g) (k:=k) (c:=c) (off:=j*9) (m:=m) (cc:=c - j) (news:=news) qi0 qH0 HBD.out HN.out HS.out (by have:=HQ.out; omega) qO0 HO.out ?_; intro w2 hb2 hg2 hz2; have HB2:=zA0 hb2; have HG2:=zA0 hg2; have HZ2:=zA0 hz2; clear hb2 hg2 hz2))
  have hsl:(splice cur (k*9) news).length=c*9:=qJE;have HSL:=zA0 hsl;clear hsl;go_wp2_with (first | (with_reducible refine JaZ ?_); (refine Jbu rfl (.tmp 31) _ rfl Jc4 (off:=q*9) (n:=1) rfl HB2.out qG1 qV0 ?_; intro w3 cur3 hb3 hl3 ht3 hg3 _; have HB3:=zA0 hb3; have HL3:=zA0 hl3; have HT3:=zA0 ht3; have HG3:=zA0 hg3; clear hb3 hl3 ht3 hg3));refine zA1 (v:=.slice (some ⟨g,0,none⟩) q c) (by simp [results,Tryz.results167,go_sem]) rfl ⟨rfl,zA0 ⟨cur3,HB3.out,by rw [HL3.out,HSL.out,HL.out],HT3.out,?_⟩⟩
  exact (show w.grownBy w2 (some g) from ⟨HG2.out.os,HG2.out.tape,HG2.out.output,HG2.out.size,HG2.out.block⟩).trans HG3.out
theorem delNode (A:Option Addr) (n c k:Nat) (l:List Node) (w:World) (B:Nat) (hown:Ow Jab 9 75 w B (.slice A n c) l) (hk:k<l.length) (hc:c<=9223372036854775807) :
  Calls Tryz.prog 167 #[.slice A n c,.int .i64 k,.int .i64 (k+1)] w fun e w'=>e=.returned (.slice A (n - 1) c)/\Hid (Ow Jab 9 75 w' B (.slice A (n - 1) c) (l.take k ++ l.drop (k+1))/\w.grownBy w' (Value.slice A n c).ownBlock):=by
 have hnl:n=l.length:=qZE;obtain ⟨g,J,rfl,hBg,hbk,hbl,hnc,hcm,_⟩:=hown.blk qH1;have hf:∀ x∈l,(Jab x).length=9:=fun _ _=>rfl
 have hsp:=Je9 hf (k+1);have hnews:((l.drop (k+1)).flatMap Jab).length=(n - (k+1))*9:=by rw [zC5 (f:=Jab) (s:=9) (fun _ _=>rfl),zE5,hnl]
 have hsrc:∀ (i:Nat) (v:Value),((l.drop (k+1)).flatMap Jab)[i]?=some v->(l.flatMap Jab ++ J)[(k+1)*9+i]?=some v:=by
  intro i v hj;rw [<-hsp,zF3] at hj;rw [zF1 (zB3.1 hj).1];exact hj
 have hone:∀ v∈(l.drop (k+1)).flatMap Jab,v.oneCell'=true:=qUE;have htake:=JdT hf (zG5 hk) J;have hlen:(l.take k ++ l.drop (k+1)).length=n - 1:=qME;rw [show (k:Int)+1=((k+1:Nat):Int) from by omega]
 refine (JjS g n c k (k+1) (n - (k+1)) (n - 1) _ _ w hbk hnews hsrc hone hbl rfl qH1 qH1 hnc hc).mono ?_;rintro e w' ⟨rfl,h⟩;obtain ⟨cur',hb',hl',ht',hg'⟩:=h.out;refine ⟨rfl,zA0 ⟨?_,hg'⟩⟩;have hlt:((l.take k).flatMap Jab).length=k*9:=by rw [zC5 (f:=Jab) (s:=9) (fun _ _=>rfl),zC2,zF8 qH1]
 have hpre:cur'.take ((n - 1)*9)=(l.take k ++ l.drop (k+1)).flatMap Jab:=by
  rw [ht'];unfold splice;rw [htake,zF6];have e:(n - 1)*9=((l.take k).flatMap Jab ++ (l.drop (k+1)).flatMap Jab).length:=qcE;rw [e,<-zC0,zH2]
 have hcur:cur'=(l.take k ++ l.drop (k+1)).flatMap Jab ++ cur'.drop ((n - 1)*9):=by rw [<-hpre,zD7]
 have:=Ow.of_blk (f:=Jab) (s:=9) (B:=B) (fun _ _=>rfl) hBg hb' hcur (by rw [hl']; exact hbl) qw0 hcm
 rw [hlen] at this;exact this
theorem JkO (g n c k j m q:Nat) (cur news:List Value) (w:World) (hb:Bk w g cur 3) (hnews:news.length=m*1) (hsrc:∀ (i:Nat) (v:Value),news[i]?=some v->cur[j*1+i]?=some v)
  (hone:∀ v∈news,v.oneCell'=true) (hlen:cur.length=c*1) (hj:j=k+1) (hm:k+m=q) (hn:n=q+1) (hnc:n<=c) (hc:c<=9223372036854775807) :
  Calls Tryz.prog 135 #[.slice (some ⟨g,0,none⟩) n c,.int .i64 k,.int .i64 j] w fun e w'=>e=.returned (.slice (some ⟨g,0,none⟩) q c)/\
   Hid (∃ cur',Bk w' g cur' 3/\cur'.length=cur.length/\cur'.take (q*1)=(splice cur (k*1) news).take (q*1)/\w.grownBy w' (some g)):=by
 have HB:=zA0 hb;have HO:=zA0 hone;have HN:=zA0 hnews;have HS:=zA0 hsrc;have HL:=zA0 hlen;have hkc:(k:Int)<=(c:Int):=qCE;have hjn:(j:Int)<=(n:Int):=qCE;have hnci:(n:Int)<=(c:Int):=qCE;have hqn:(q:Int)<=(n:Int):=qCE;have hqc:(q:Int)<=(c:Int):=qCE;have hkj:(k:Int)<=(j:Int):=qCE;have hkk:((k:Int) == (j:Int))=false:=zB7.2 qH1;have hnq:n - q=1:=qCE;have HQ:=zA0 hn;have HJ:=zA0 hj;have HBD:Hid (Bk w.drew g cur 3):=HB;clear hb hone hnews hsrc hlen
 by_cases hcj:c=j
 ·have hm0:m=0:=by omega
  subst hm0;rw [zH9] at hm;subst hm;have hn0:news=[]:=zK2 (by simpa using HN.out)
  have HN0:=zA0 hn0;have hnj:n=j:=qCE;subst hnj;subst hcj;clear hn hj hn0;go_enter Tryz.func135,Tryz.ntmps135
  go_wp2_with fail;go_region_law (first | (refine JcB rfl (.tmp 22) (.tmp 25) _ rfl Je6 (g:=g) (k:=k) (c:=c) (off:=0) (m:=0) (cc:=0) (news:=news) qi0 qi0 HBD.out (by rw [HN0.out]; rfl) (by rw [HN0.out]; simp) qH1 qZ0 HO.out ?_; intro w2 hb2 hg2 hz2; have HB2:=zA0 hb2; have HG2:=zA0 hg2; have HZ2:=zA0 hz2; clear hb2 hg2 hz2))
  have hsl:(splice cur (k*1) news).length=c*1:=qLE;have HSL:=zA0 hsl;clear hsl;go_wp2_with (first | (with_reducible refine JaZ ?_); (refine Jbu rfl (.tmp 31) _ rfl Je6 (off:=k*1) (n:=1) (by rw [zK7]; rfl) HB2.out qG1 (by rw [HSL.out]; omega) ?_; intro w3 cur3 hb3 hl3 ht3 hg3 _; have HB3:=zA0 hb3; have HL3:=zA0 hl3; have HT3:=zA0 ht3; have HG3:=zA0 hg3; clear hb3 hl3 ht3 hg3))
  refine zA1 (v:=.slice (some ⟨g,0,none⟩) k c) (by simp [results,Tryz.results135,go_sem]) rfl ⟨rfl,zA0 ⟨cur3,HB3.out,by rw [HL3.out,HSL.out,HL.out],HT3.out,?_⟩⟩
  exact (show w.grownBy w2 (some g) from ⟨HG2.out.os,HG2.out.tape,HG2.out.output,HG2.out.size,HG2.out.block⟩).trans HG3.out
 ·clear hn hj
  go_enter Tryz.func135,Tryz.ntmps135
  go_wp2_with fail;go_region_law (first | (refine JcB rfl (.tmp 22) (.tmp 25) _ rfl Je6 (g:=g) (k:=k) (c:=c) (off:=j*1) (m:=m) (cc:=c - j) (news:=news) qi0 qH0 HBD.out HN.out HS.out (by have:=HQ.out; omega) qO0 HO.out ?_; intro w2 hb2 hg2 hz2; have HB2:=zA0 hb2; have HG2:=zA0 hg2; have HZ2:=zA0 hz2; clear hb2 hg2 hz2))
  have hsl:(splice cur (k*1) news).length=c*1:=qJE;have HSL:=zA0 hsl;clear hsl;go_wp2_with (first | (with_reducible refine JaZ ?_); (refine Jbu rfl (.tmp 31) _ rfl Je6 (off:=q*1) (n:=1) (by rw [zK7]; rfl) HB2.out qG1 qV0 ?_; intro w3 cur3 hb3 hl3 ht3 hg3 _; have HB3:=zA0 hb3; have HL3:=zA0 hl3; have HT3:=zA0 ht3; have HG3:=zA0 hg3; clear hb3 hl3 ht3 hg3))
  refine zA1 (v:=.slice (some ⟨g,0,none⟩) q c) (by simp [results,Tryz.results135,go_sem]) rfl ⟨rfl,zA0 ⟨cur3,HB3.out,by rw [HL3.out,HSL.out,HL.out],HT3.out,?_⟩⟩
  exact (show w.grownBy w2 (some g) from ⟨HG2.out.os,HG2.out.tape,HG2.out.output,HG2.out.size,HG2.out.block⟩).trans HG3.out
theorem delInt (A:Option Addr) (n c k:Nat) (l:List Int) (w:World) (B:Nat) (hown:Ow cInt 1 3 w B (.slice A n c) l) (hk:k<l.length) (hc:c<=9223372036854775807) :
  Calls Tryz.prog 135 #[.slice A n c,.int .i64 k,.int .i64 (k+1)] w fun e w'=>e=.returned (.slice A (n - 1) c)/\Hid (Ow cInt 1 3 w' B (.slice A (n - 1) c) (l.take k ++ l.drop (k+1))/\w.grownBy w' (Value.slice A n c).ownBlock):=by
 have hnl:n=l.length:=qZE;obtain ⟨g,J,rfl,hBg,hbk,hbl,hnc,hcm,_⟩:=hown.blk qH1;have hf:∀ x∈l,(cInt x).length=1:=fun _ _=>rfl
 have hsp:=Je9 hf (k+1);have hnews:((l.drop (k+1)).flatMap cInt).length=(n - (k+1))*1:=by rw [zC5 (f:=cInt) (s:=1) (fun _ _=>rfl),zE5,hnl]
 have hsrc:∀ (i:Nat) (v:Value),((l.drop (k+1)).flatMap cInt)[i]?=some v->(l.flatMap cInt ++ J)[(k+1)*1+i]?=some v:=by
  intro i v hj;rw [<-hsp,zF3] at hj;rw [zF1 (zB3.1 hj).1];exact hj
 have hone:∀ v∈(l.drop (k+1)).flatMap cInt,v.oneCell'=true:=qVE;have htake:=JdT hf (zG5 hk) J;have hlen:(l.take k ++ l.drop (k+1)).length=n - 1:=qME;rw [show (k:Int)+1=((k+1:Nat):Int) from by omega]
 refine (JkO g n c k (k+1) (n - (k+1)) (n - 1) _ _ w hbk hnews hsrc hone hbl rfl qH1 qH1 hnc hc).mono ?_;rintro e w' ⟨rfl,h⟩;obtain ⟨cur',hb',hl',ht',hg'⟩:=h.out;refine ⟨rfl,zA0 ⟨?_,hg'⟩⟩;have hlt:((l.take k).flatMap cInt).length=k*1:=by rw [zC5 (f:=cInt) (s:=1) (fun _ _=>rfl),zC2,zF8 qH1]
 have hpre:cur'.take ((n - 1)*1)=(l.take k ++ l.drop (k+1)).flatMap cInt:=by
  rw [ht'];unfold splice;rw [htake,zF6];have e:(n - 1)*1=((l.take k).flatMap cInt ++ (l.drop (k+1)).flatMap cInt).length:=qcE;rw [e,<-zC0,zH2]
 have hcur:cur'=(l.take k ++ l.drop (k+1)).flatMap cInt ++ cur'.drop ((n - 1)*1):=by rw [<-hpre,zD7]
 have:=Ow.of_blk (f:=cInt) (s:=1) (B:=B) (fun _ _=>rfl) hBg hb' hcur (by rw [hl']; exact hbl) qw0 hcm
 rw [hlen] at this;exact this
end
section
open Go.RowKit Go.ChangeShapes Go.WideShapes Go.ChangeAt
def Peer.v (p:Peer):Value:=.slice p.la p.log.length p.lc
def Jh6 (z:Int):Int × Int:=if 0<=z/\z<4611686018427387904 then (if z % 2147483648<2147483647 then (z+1,0) else (0,6)) else (0,3)
theorem JiE (a:Int) (w:World) :
  Calls Tryz.prog 100 #[.int .i64 a] w fun e w'=>e=.returned (.tuple #[.int .i64 (Jh6 a).1,.int .i64 (Jh6 a).2])/\w=w':=by
 unfold Jh6
 by_cases h:0<=a/\a<4611686018427387904
 ·rw [if_pos h]
  by_cases hc:a % 2147483648<2147483647
  ·rw [if_pos hc]; exact znext_ok a w h hc
  ·rw [if_neg hc]; exact Jl0 a w h hc
 ·rw [if_neg h]; exact znext_no a w h
def Jbj (p:Peer):Int × Int:=if Jbp (Jao p.log)<p.epoch then (if 0<=p.epoch/\p.epoch<=2147483647 then Jh6 (p.epoch*2147483648) else (0,3)) else Jh6 (Jao p.log)
theorem zabNext (p:Peer) (w:World) (h:p.In w) :
  Calls Tryz.prog 70 #[.agg #[.int .i64 p.id,.int .i64 p.epoch,.slice p.la p.log.length p.lc,.int .i64 p.done_]] w
   fun e w'=>e=.returned (.tuple #[.int .i64 (Jbj p).1,.int .i64 (Jbj p).2])/\Below w.heap.size w w':=by
 have H:=zA0 h;clear h;have HN:=zA0 (fun (w':World)=>JiE (Jao p.log) w')
 have HM:=zA0 (fun (w':World)=>JiE (p.epoch*2147483648) w')
 have HE:=zA0 (fun (w':World)=>JdR (Jao p.log) w')
 unfold Jbj;generalize hz:Jao p.log=z at *;have HZ:=zA0 hz;have HL:=zA0 (fun (W':World) (hb:Below w.heap.size w W')=>show Calls Tryz.prog 84 #[.slice p.la p.log.length p.lc] W' fun e w'=>e=.returned (.int .i64 z)/\W'=w' from by
  have h:=Jel _ _ _ (H.out.below hb).1;rw [hz] at h;exact h)
 clear hz;generalize hn1:Jh6 z=n1 at *;generalize hn2:Jh6 (p.epoch*2147483648)=n2 at *;generalize hez:Jbp z=ez at *;clear hn1 hn2 hez
 by_cases hlt:ez<p.epoch
 ·simp only [if_pos hlt]
  by_cases hh:0<=p.epoch/\p.epoch<=2147483647
  ·simp only [if_pos hh]
   have HMK:=zA0 (fun (w':World)=>JhP p.epoch 0 w' hh ⟨by omega,by omega⟩)
   go_enter Tryz.func70,Tryz.ntmps70
   go_wp2_with (first | (go_at_call 84; refine (HL.out _ zL).mono ?_; rintro e w1 ⟨rfl,rfl⟩; skip) | (go_at_call 94; refine (HMK.out _).mono ?_; rintro e w1 ⟨rfl,rfl⟩; skip) | (go_at_call 100; refine (HM.out _).mono ?_; rintro e w1 ⟨rfl,rfl⟩; skip));go_quiet (first | (go_at_call 66; with_reducible refine Calls.quiet_of_same ((HE.out _).mono fun e w' h=>⟨h.1,h.2.symm⟩)))
   go_wp2_with (first | (go_at_call 84; refine (HL.out _ zL).mono ?_; rintro e w1 ⟨rfl,rfl⟩; skip) | (go_at_call 94; refine (HMK.out _).mono ?_; rintro e w1 ⟨rfl,rfl⟩; skip) | (go_at_call 100; refine (HM.out _).mono ?_; rintro e w1 ⟨rfl,rfl⟩; skip));go_ret2;exact ⟨rfl,zL⟩
  ·simp only [if_neg hh]
   have HMK:=zA0 (fun (w':World)=>Jk1 p.epoch 0 w' (fun h=>hh h.1))
   go_enter Tryz.func70,Tryz.ntmps70
   go_wp2_with (first | (go_at_call 84; refine (HL.out _ zL).mono ?_; rintro e w1 ⟨rfl,rfl⟩; skip) | (go_at_call 94; refine (HMK.out _).mono ?_; rintro e w1 ⟨rfl,rfl⟩; skip) | (go_at_call 100; refine (HM.out _).mono ?_; rintro e w1 ⟨rfl,rfl⟩; skip));go_quiet (first | (go_at_call 66; with_reducible refine Calls.quiet_of_same ((HE.out _).mono fun e w' h=>⟨h.1,h.2.symm⟩)))
   go_wp2_with (first | (go_at_call 84; refine (HL.out _ zL).mono ?_; rintro e w1 ⟨rfl,rfl⟩; skip) | (go_at_call 94; refine (HMK.out _).mono ?_; rintro e w1 ⟨rfl,rfl⟩; skip) | (go_at_call 100; refine (HM.out _).mono ?_; rintro e w1 ⟨rfl,rfl⟩; skip));go_ret2;exact ⟨rfl,zL⟩
 ·simp only [if_neg hlt]
  go_enter Tryz.func70,Tryz.ntmps70
  go_wp2_with (first | (go_at_call 84; refine (HL.out _ zL).mono ?_; rintro e w1 ⟨rfl,rfl⟩; skip) | (go_at_call 100; refine (HN.out _).mono ?_; rintro e w1 ⟨rfl,rfl⟩; skip));go_quiet (first | (go_at_call 66; with_reducible refine Calls.quiet_of_same ((HE.out _).mono fun e w' h=>⟨h.1,h.2.symm⟩)))
  go_wp2_with (first | (go_at_call 84; refine (HL.out _ zL).mono ?_; rintro e w1 ⟨rfl,rfl⟩; skip) | (go_at_call 100; refine (HN.out _).mono ?_; rintro e w1 ⟨rfl,rfl⟩; skip));go_ret2;exact ⟨rfl,zL⟩
namespace zabSteps
theorem own:ownKnob Tryz.prog.godebug=none:=by kernel_rfl
end zabSteps
end
section
open Go.RowKit
theorem pow_global : Tryz.prog.globalNamed "internal/strconv.uint64pow10" = some 3 := by kernel_rfl
theorem pow_data:(Rows.laid_internal_strconv_uint64pow10:DataW Unit)=Lib.tabData .u64 Lib.pow10Tab:=by kernel_rfl
end
end Go.Proofs.YtjnooagaghdkdaaGreatDoor
