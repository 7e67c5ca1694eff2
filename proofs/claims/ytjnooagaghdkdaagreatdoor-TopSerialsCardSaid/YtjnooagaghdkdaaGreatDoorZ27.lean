/-L-/
import Derived.Test.YtjnooagaghdkdaaGreatDoorZ16
import Derived.Test.YtjnooagaghdkdaaGreatDoorZ18
set_option maxHeartbeats 10000000
set_option maxRecDepth 100000
set_option linter.all false
namespace Go.Proofs.YtjnooagaghdkdaaGreatDoor
section
open Go.RowKit Go.ChangeShapes Go.WideShapes Go.ChangeAt
theorem Jnk (z:Int) (v v2:Value) (l:List Node) (ss:List Int) (w:World) (h:Sl Jab 9 w v l) (h2:Sl cInt 1 w v2 ss) (hn:ss.length<=140737488355328) (hz:∀ n∈l,n.path.size<=9223372036854775807) :
  Calls Tryz.prog 101 #[.agg #[.int .i64 z,v,v2]] w fun e w'=>e=.returned (.bool (Jan ⟨z,l,ss⟩))/\Below w.heap.size w w':=by
 cases hh:JfG ⟨z,l,ss⟩ with
 | true=>exact Jkd z v v2 l ss w h h2 hn hh hz
 | false=>exact JhU z v v2 l ss w h h2 hh
theorem Jfh (z:Int) (v v2:Value) (l:List Node) (ss:List Int) (x:Txn) (w:World) (h:Sl Jab 9 w v l) (h2:Sl cInt 1 w v2 ss) (hn:l.length<=140737488355328) (hn2:ss.length<=140737488355328) (hz:∀ n∈l,n.path.size<=9223372036854775807) (hp:x.path.size<=9223372036854775807) :
  Calls Tryz.prog 132 #[.agg #[.int .i64 z,v,v2],txnV x] w fun e w'=>e=.returned (.int .i64 (JbA ⟨z,l,ss⟩ x))/\Below w.heap.size w w':=by
 obtain ⟨A,c,rfl,h1,h1b⟩:=h.form;obtain ⟨A2,c2,rfl,h3,h3b⟩:=h2.form;have HV:=zA0 h;have HS:=zA0 h2;have HGD:=zA0 (fun (W:World) (h:Sl Jab 9 W (.slice A l.length c) l) (h2:Sl cInt 1 W (.slice A2 ss.length c2) ss)=>Jnk z (.slice A l.length c) (.slice A2 ss.length c2) l ss W h h2 hn2 hz)
 have HWG:=zA0 (fun (W:World)=>JeG x W hp)
 have HOP:=zA0 (fun (W:World) (h:Sl cInt 1 W (.slice A2 ss.length c2) ss)=>JiO z (.slice A2 ss.length c2) A l.length c ss x.session W h hn2)
 have HGT:=zA0 (fun (W:World) (h:Sl Jab 9 W (.slice A l.length c) l)=>Jl4 z (.slice A l.length c) A2 ss.length c2 l x.path W h hn)
 have HLK:=zA0 (fun (W:World) (h:Sl Jab 9 W (.slice A l.length c) l) (h2:Sl cInt 1 W (.slice A2 ss.length c2) ss)=>trLacks z (.slice A l.length c) (.slice A2 ss.length c2) l ss x (getE l x.path) W h h2 hn hp)
 have hle:=lacks_is ⟨z,l,ss⟩ x;simp only at hle;unfold JbA;rw [<-hle];have hver:Jan ⟨z,l,ss⟩=true->hasN l x.path=true->0<=(getN l x.path).version/\(getN l x.path).version<=2147483647:=fun hg hk=>by
  have:=(JaP hg).1.stat _ (JgJ hk).1;omega
 clear h h2 hz hle;generalize Jjm l x (getE l x.path)=lk at *;generalize Jat x=tg at *;unfold getE at HGT HLK;obtain ⟨xz,xo,xs,xp,xd,xv,xw⟩:=x;simp only at *;generalize Jan ⟨z,l,ss⟩=gt at *;generalize getN l xp=g at *;generalize isI ss xs=op at *;obtain ⟨gp,gd,g1,g2,g3,g4,g5,go,gk⟩:=g;simp only at hver HGT;cases gt with
 | false=>
  rw [if_pos rfl];clear hver;go_enter Tryz.func132,Tryz.ntmps132
  go_wp2_with (first | (go_at_call 101; refine zc (HGD.out _ (HV.out.below zR) (HS.out.below zR)) (fun ext1 d1=>?_)) | (go_at_call 127; refine zc (HWG.out _) (fun ext2 d2=>?_)) | (go_at_call 29; refine zc (HOP.out _ (HS.out.below zR)) (fun ext3 d3=>?_)) | (go_at_call 78; refine zc (HGT.out _ (HV.out.below zR)) (fun ext4 d4=>?_)) | (go_at_call 162; refine zc (HLK.out _ (HV.out.below zR) (HS.out.below zR)) (fun ext5 d5=>?_)))
  go_ret;exact ⟨rfl,zR⟩
 | true=>
  rw [if_neg qI1]
  by_cases a1:tg=0
  case neg=>
   rw [if_pos a1];have q1:(tg == 0)=false:=zB7.2 a1;clear hver;go_enter Tryz.func132,Tryz.ntmps132
   go_wp2_with (first | (go_at_call 101; refine zc (HGD.out _ (HV.out.below zR) (HS.out.below zR)) (fun ext1 d1=>?_)) | (go_at_call 127; refine zc (HWG.out _) (fun ext2 d2=>?_)) | (go_at_call 29; refine zc (HOP.out _ (HS.out.below zR)) (fun ext3 d3=>?_)) | (go_at_call 78; refine zc (HGT.out _ (HV.out.below zR)) (fun ext4 d4=>?_)) | (go_at_call 162; refine zc (HLK.out _ (HV.out.below zR) (HS.out.below zR)) (fun ext5 d5=>?_)))
   go_ret;exact ⟨rfl,zR⟩
  subst a1;rw [if_neg qI1]
  by_cases a2:xz<=z
  ·rw [if_pos a2]
   have q2:decide (xz<=z)=true:=zB0 a2;clear hver;go_enter Tryz.func132,Tryz.ntmps132
   go_wp2_with (first | (go_at_call 101; refine zc (HGD.out _ (HV.out.below zR) (HS.out.below zR)) (fun ext1 d1=>?_)) | (go_at_call 127; refine zc (HWG.out _) (fun ext2 d2=>?_)) | (go_at_call 29; refine zc (HOP.out _ (HS.out.below zR)) (fun ext3 d3=>?_)) | (go_at_call 78; refine zc (HGT.out _ (HV.out.below zR)) (fun ext4 d4=>?_)) | (go_at_call 162; refine zc (HLK.out _ (HV.out.below zR) (HS.out.below zR)) (fun ext5 d5=>?_)))
   go_ret;exact ⟨rfl,zR⟩
  ·rw [if_neg a2]
   have q2:decide (xz<=z)=false:=zA7 a2
   by_cases a3:xo=1
   ·subst a3
    rw [if_pos rfl];clear hver;cases op with
    | true=>
     rw [if_pos rfl];go_enter Tryz.func132,Tryz.ntmps132
     go_wp2_with (first | (go_at_call 101; refine zc (HGD.out _ (HV.out.below zR) (HS.out.below zR)) (fun ext1 d1=>?_)) | (go_at_call 127; refine zc (HWG.out _) (fun ext2 d2=>?_)) | (go_at_call 29; refine zc (HOP.out _ (HS.out.below zR)) (fun ext3 d3=>?_)) | (go_at_call 78; refine zc (HGT.out _ (HV.out.below zR)) (fun ext4 d4=>?_)) | (go_at_call 162; refine zc (HLK.out _ (HV.out.below zR) (HS.out.below zR)) (fun ext5 d5=>?_)))
     go_ret;exact ⟨rfl,zR⟩
    | false=>
     rw [if_neg qI1];go_enter Tryz.func132,Tryz.ntmps132
     go_wp2_with (first | (go_at_call 101; refine zc (HGD.out _ (HV.out.below zR) (HS.out.below zR)) (fun ext1 d1=>?_)) | (go_at_call 127; refine zc (HWG.out _) (fun ext2 d2=>?_)) | (go_at_call 29; refine zc (HOP.out _ (HS.out.below zR)) (fun ext3 d3=>?_)) | (go_at_call 78; refine zc (HGT.out _ (HV.out.below zR)) (fun ext4 d4=>?_)) | (go_at_call 162; refine zc (HLK.out _ (HV.out.below zR) (HS.out.below zR)) (fun ext5 d5=>?_)))
     go_ret;exact ⟨rfl,zR⟩
   ·rw [if_neg a3]
    have q3:(xo == 1)=false:=zB7.2 a3;cases op with
    | false=>
     rw [if_pos rfl];clear hver;go_enter Tryz.func132,Tryz.ntmps132
     go_wp2_with (first | (go_at_call 101; refine zc (HGD.out _ (HV.out.below zR) (HS.out.below zR)) (fun ext1 d1=>?_)) | (go_at_call 127; refine zc (HWG.out _) (fun ext2 d2=>?_)) | (go_at_call 29; refine zc (HOP.out _ (HS.out.below zR)) (fun ext3 d3=>?_)) | (go_at_call 78; refine zc (HGT.out _ (HV.out.below zR)) (fun ext4 d4=>?_)) | (go_at_call 162; refine zc (HLK.out _ (HV.out.below zR) (HS.out.below zR)) (fun ext5 d5=>?_)))
     go_ret;exact ⟨rfl,zR⟩
    | true=>
     rw [if_neg qI1]
     by_cases a4:xo=3
     ·subst a4
      rw [if_pos rfl];clear hver;cases hk:hasN l xp
      all_goals rw [hk] at HGT HLK
      all_goals simp only [if_true,zC7,if_false] at HGT HLK
      all_goals clear hk
      case false=>
       go_enter Tryz.func132,Tryz.ntmps132
       go_wp2_with (first | (go_at_call 101; refine zc (HGD.out _ (HV.out.below zR) (HS.out.below zR)) (fun ext1 d1=>?_)) | (go_at_call 127; refine zc (HWG.out _) (fun ext2 d2=>?_)) | (go_at_call 29; refine zc (HOP.out _ (HS.out.below zR)) (fun ext3 d3=>?_)) | (go_at_call 78; refine zc (HGT.out _ (HV.out.below zR)) (fun ext4 d4=>?_)) | (go_at_call 162; refine zc (HLK.out _ (HV.out.below zR) (HS.out.below zR)) (fun ext5 d5=>?_)))
       go_ret;exact ⟨rfl,zR⟩
      case true=>
       go_enter Tryz.func132,Tryz.ntmps132
       go_wp2_with (first | (go_at_call 101; refine zc (HGD.out _ (HV.out.below zR) (HS.out.below zR)) (fun ext1 d1=>?_)) | (go_at_call 127; refine zc (HWG.out _) (fun ext2 d2=>?_)) | (go_at_call 29; refine zc (HOP.out _ (HS.out.below zR)) (fun ext3 d3=>?_)) | (go_at_call 78; refine zc (HGT.out _ (HV.out.below zR)) (fun ext4 d4=>?_)) | (go_at_call 162; refine zc (HLK.out _ (HV.out.below zR) (HS.out.below zR)) (fun ext5 d5=>?_)))
       go_ret;exact ⟨rfl,zR⟩
     ·rw [if_neg a4]
      have q4:(xo == 3)=false:=zB7.2 a4;clear HLK
      by_cases a5:xo=4
      ·subst a5
       rw [if_pos rfl];clear hver;cases hk:hasN l xp with
       | false=>
        rw [hk] at HGT;simp only [zC7,if_false] at HGT ⊢;clear hk;go_enter Tryz.func132,Tryz.ntmps132
        go_wp2_with (first | (go_at_call 101; refine zc (HGD.out _ (HV.out.below zR) (HS.out.below zR)) (fun ext1 d1=>?_)) | (go_at_call 127; refine zc (HWG.out _) (fun ext2 d2=>?_)) | (go_at_call 29; refine zc (HOP.out _ (HS.out.below zR)) (fun ext3 d3=>?_)) | (go_at_call 78; refine zc (HGT.out _ (HV.out.below zR)) (fun ext4 d4=>?_)) | (go_at_call 162; refine zc (HLK.out _ (HV.out.below zR) (HS.out.below zR)) (fun ext5 d5=>?_)))
        go_ret;exact ⟨rfl,zR⟩
       | true=>
        rw [hk] at HGT;simp only [if_true] at HGT ⊢;clear hk
        by_cases a6:0<gk
        ·rw [if_pos a6]
         have q6:decide (0<gk)=true:=zB0 a6;go_enter Tryz.func132,Tryz.ntmps132
         go_wp2_with (first | (go_at_call 101; refine zc (HGD.out _ (HV.out.below zR) (HS.out.below zR)) (fun ext1 d1=>?_)) | (go_at_call 127; refine zc (HWG.out _) (fun ext2 d2=>?_)) | (go_at_call 29; refine zc (HOP.out _ (HS.out.below zR)) (fun ext3 d3=>?_)) | (go_at_call 78; refine zc (HGT.out _ (HV.out.below zR)) (fun ext4 d4=>?_)) | (go_at_call 162; refine zc (HLK.out _ (HV.out.below zR) (HS.out.below zR)) (fun ext5 d5=>?_)))
         go_ret;exact ⟨rfl,zR⟩
        ·rw [if_neg a6]
         have q6:decide (0<gk)=false:=zA7 a6;go_enter Tryz.func132,Tryz.ntmps132
         go_wp2_with (first | (go_at_call 101; refine zc (HGD.out _ (HV.out.below zR) (HS.out.below zR)) (fun ext1 d1=>?_)) | (go_at_call 127; refine zc (HWG.out _) (fun ext2 d2=>?_)) | (go_at_call 29; refine zc (HOP.out _ (HS.out.below zR)) (fun ext3 d3=>?_)) | (go_at_call 78; refine zc (HGT.out _ (HV.out.below zR)) (fun ext4 d4=>?_)) | (go_at_call 162; refine zc (HLK.out _ (HV.out.below zR) (HS.out.below zR)) (fun ext5 d5=>?_)))
         go_ret;exact ⟨rfl,zR⟩
      ·rw [if_neg a5]
       have q5:(xo == 4)=false:=zB7.2 a5
       by_cases a7:xo=5
       ·subst a7
        rw [if_pos rfl];cases hk:hasN l xp with
        | false=>
         rw [hk] at HGT;simp only [zC7,if_false] at HGT ⊢;clear hk hver;go_enter Tryz.func132,Tryz.ntmps132
         go_wp2_with (first | (go_at_call 101; refine zc (HGD.out _ (HV.out.below zR) (HS.out.below zR)) (fun ext1 d1=>?_)) | (go_at_call 127; refine zc (HWG.out _) (fun ext2 d2=>?_)) | (go_at_call 29; refine zc (HOP.out _ (HS.out.below zR)) (fun ext3 d3=>?_)) | (go_at_call 78; refine zc (HGT.out _ (HV.out.below zR)) (fun ext4 d4=>?_)) | (go_at_call 162; refine zc (HLK.out _ (HV.out.below zR) (HS.out.below zR)) (fun ext5 d5=>?_)))
         go_ret;exact ⟨rfl,zR⟩
        | true=>
         obtain ⟨v1,v2⟩:=hver rfl hk;rw [hk] at HGT;simp only [if_true] at HGT ⊢;clear hk hver;have hw:IntKind.i64.wrap (g4+1)=g4+1:=qHE
         by_cases a8:xv=g4+1
         ·subst a8
          rw [if_neg qI1];go_enter Tryz.func132,Tryz.ntmps132
          go_wp2_with (first | (go_at_call 101; refine zc (HGD.out _ (HV.out.below zR) (HS.out.below zR)) (fun ext1 d1=>?_)) | (go_at_call 127; refine zc (HWG.out _) (fun ext2 d2=>?_)) | (go_at_call 29; refine zc (HOP.out _ (HS.out.below zR)) (fun ext3 d3=>?_)) | (go_at_call 78; refine zc (HGT.out _ (HV.out.below zR)) (fun ext4 d4=>?_)) | (go_at_call 162; refine zc (HLK.out _ (HV.out.below zR) (HS.out.below zR)) (fun ext5 d5=>?_)))
          go_ret;exact ⟨rfl,zR⟩
         ·rw [if_pos a8]
          have q8:(xv == g4+1)=false:=zB7.2 a8;have q8b:(xv != g4+1)=true:=zC9.2 a8;go_enter Tryz.func132,Tryz.ntmps132
          go_wp2_with (first | (go_at_call 101; refine zc (HGD.out _ (HV.out.below zR) (HS.out.below zR)) (fun ext1 d1=>?_)) | (go_at_call 127; refine zc (HWG.out _) (fun ext2 d2=>?_)) | (go_at_call 29; refine zc (HOP.out _ (HS.out.below zR)) (fun ext3 d3=>?_)) | (go_at_call 78; refine zc (HGT.out _ (HV.out.below zR)) (fun ext4 d4=>?_)) | (go_at_call 162; refine zc (HLK.out _ (HV.out.below zR) (HS.out.below zR)) (fun ext5 d5=>?_)))
          go_ret;exact ⟨rfl,zR⟩
       ·rw [if_neg a7]
        have q7:(xo == 5)=false:=zB7.2 a7;clear hver;cases hk:hasN l xp
        all_goals rw [hk] at HGT
        all_goals simp only [if_true,zC7,if_false] at HGT
        all_goals clear hk
        case false=>
         go_enter Tryz.func132,Tryz.ntmps132
         go_wp2_with (first | (go_at_call 101; refine zc (HGD.out _ (HV.out.below zR) (HS.out.below zR)) (fun ext1 d1=>?_)) | (go_at_call 127; refine zc (HWG.out _) (fun ext2 d2=>?_)) | (go_at_call 29; refine zc (HOP.out _ (HS.out.below zR)) (fun ext3 d3=>?_)) | (go_at_call 78; refine zc (HGT.out _ (HV.out.below zR)) (fun ext4 d4=>?_)) | (go_at_call 162; refine zc (HLK.out _ (HV.out.below zR) (HS.out.below zR)) (fun ext5 d5=>?_)))
         go_ret;exact ⟨rfl,zR⟩
        case true=>
         go_enter Tryz.func132,Tryz.ntmps132
         go_wp2_with (first | (go_at_call 101; refine zc (HGD.out _ (HV.out.below zR) (HS.out.below zR)) (fun ext1 d1=>?_)) | (go_at_call 127; refine zc (HWG.out _) (fun ext2 d2=>?_)) | (go_at_call 29; refine zc (HOP.out _ (HS.out.below zR)) (fun ext3 d3=>?_)) | (go_at_call 78; refine zc (HGT.out _ (HV.out.below zR)) (fun ext4 d4=>?_)) | (go_at_call 162; refine zc (HLK.out _ (HV.out.below zR) (HS.out.below zR)) (fun ext5 d5=>?_)))
         go_ret;exact ⟨rfl,zR⟩
end
end Go.Proofs.YtjnooagaghdkdaaGreatDoor
