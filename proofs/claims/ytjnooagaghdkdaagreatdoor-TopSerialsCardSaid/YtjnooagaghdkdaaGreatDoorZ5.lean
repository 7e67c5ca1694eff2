/-L-/
import Derived.Lib.LastIndexByte
import Derived.Lib.AppendStr
import Derived.Test.YtjnooagaghdkdaaGreatDoorZ2
set_option maxHeartbeats 10000000
set_option maxRecDepth 100000
set_option linter.all false
namespace Go.Proofs.YtjnooagaghdkdaaGreatDoor
section
open Go.RowKit Go.Shelf
attribute [local go_sem] Oper.semAt_some
def Jaw (s:ByteArray):Bool:=decide (s=⟨#[47]⟩) || (decide (s.size<=200) && Lib.hasPrefix s.data.toList [47] && (Jba (s.extract 1 s.size)).all fun x=>JaK (bs x))
theorem Jkl (s sep:ByteArray) (w:World) :
  Calls Tryz.prog 42 #[.string s,.string sep] w fun e w'=>e=.returned (.func (.func 86) #[] #[.pointer (some ⟨w.heap.size+1,0,none⟩),.pointer (some ⟨w.heap.size,0,none⟩),.pointer (some ⟨w.heap.size+2,0,none⟩)])/\
   w'=((w.alloc (.cells #[.string s] 9)).alloc (.cells #[.string sep] 9)).alloc (.cells #[.int .i64 0] 3):=by
 go_enter Tryz.func42,Tryz.ntmps42
 go_wp2;go_ret;exact ⟨rfl,rfl⟩
theorem Jki (s:ByteArray):∀ x∈Jba s,x.size<=s.size:=by
 generalize hn:s.size=n
 induction n using Nat.strongRecOn generalizing s with
 | ind n ih=>
  intro x hx;rcases zK8 (Lib.indexByte s.data.toList 47) 0 with hi | hi
  ·rw [Jf5 hi] at hx
   simp at hx;subst hx;omega
  ·obtain ⟨o,ho⟩:=zG8 hi
   have hlt:=JfL ho;rw [Jfk ho] at hx;rcases zE2.1 hx with rfl | h
   ·rw [zH5]; omega
   ·have hsz:(s.extract (o+1) s.size).size=s.size - (o+1):=by rw [zH5]; omega
    have:=ih (s.size - (o+1)) qH1 _ hsz x h;omega
theorem Jmy (s:ByteArray) (w:World) (hs:s.size<=200) (hne:(s.toList == [47])=false) (hp:Lib.hasPrefix s.data.toList [47]=true) :
  Calls Tryz.prog 31 #[.string s] w fun e w'=>e=.returned (.bool ((Jba (s.extract 1 s.size)).all fun x=>JaK (bs x)))/\Below w.heap.size w w':=by
 have h1:1<=s.size:=by
  cases hd:s.data.toList with
  | nil=>rw [hd] at hp; cases hp
  | cons x r=>
   have:s.data.toList.length=s.size:=by simp
   rw [hd] at this;simp at this;omega
 have hgt:(decide ((200:Int)<(s.size:Int)))=false:=zA7 qH1;refine (callsIn_wide (n:=9)).1 ?_;refine callsIn_of_wp_marks Tryz.func31 rfl trivial ?_ rfl
 simp only [Tryz.ntmps31,zM9,zD5,zG6,Nat.reduceAdd,Nat.reduceSub,Array.replicate_succ,Array.replicate_zero,List.push_toArray,List.append_toArray,zE0,zF9]
 gi_wp2_with (first | (refine ⟨trivial,?_⟩; gi_at_call 41; refine (callsIn_wide.2 (Tryz.strings_HasPrefix _ _ _)).mono ?_; rintro e w' ⟨rfl,rfl⟩; rw [hp]) | (refine ⟨trivial,?_⟩; gi_at_call 42; refine (callsIn_wide.2 (Jkl _ _ _)).mono ?_; rintro e w' ⟨rfl,rfl⟩))
 generalize hT:s.extract 1 s.size=t at *;have hts:t.size<=200:=by rw [<-hT,zH5]; omega
 have HTT:=zA0 hT;clear hT hgt hne hp;obtain ⟨W0,hW0⟩:∃ W0,((((w.alloc (.cells #[.bool false] 4)).alloc (.cells #[.string t] 9)).alloc (.cells #[.string ⟨#[47]⟩] 9)).alloc (.cells #[.int .i64 0] 3))=W0:=⟨_,rfl⟩;have hsz:W0.heap.size=w.heap.size+1+1+1+1:=by subst hW0; simp
 have hB0:Below w.heap.size w W0:=by subst hW0; exact zL
 have r0:W0.cell? ⟨w.heap.size,0,none⟩=some (.bool false):=qvE;have f0:W0.frozen? ⟨w.heap.size,0,none⟩=false:=qvE;have s0:W0.cell? ⟨w.heap.size+1,0,none⟩=some (.string t):=qvE;have g0:W0.frozen? ⟨w.heap.size+1,0,none⟩=false:=qvE;have s1:W0.cell? ⟨w.heap.size+1+1,0,none⟩=some (.string ⟨#[47]⟩):=qvE;have s2:W0.cell? ⟨w.heap.size+1+1+1,0,none⟩=some (.int .i64 0):=qvE;rw [hW0];clear hW0;refine JfC (S:=Jba t) (b:=w.heap.size+1) rfl qH1 rfl trivial (enters_of Tryz.func86 qE1 rfl) qH1
  (Jkj 8 qH1 W0 (w.heap.size+1) (w.heap.size+1+1) (w.heap.size+1+2) t s0 g0 s1 s2 qH1 qH1 qH1) (fun _=>rfl)
  (fun pre W=>(W.cell? ⟨w.heap.size,0,none⟩=some (.bool false)/\W.frozen? ⟨w.heap.size,0,none⟩=false/\Hid (∀ x∈pre,JaK (bs x)=true))/\Below w.heap.size w W)
  (fun c pre W=>(W.cell? ⟨w.heap.size,0,none⟩=some (.bool false)/\W.frozen? ⟨w.heap.size,0,none⟩=false/\Hid (c=.ret/\((Jba t).all fun x=>JaK (bs x))=false))/\Below w.heap.size w W)
  (OwnFrom.and (Own.from (fun s A B row hs hg hr=>⟨cell_kept hs.1 hg hr,(frozen_kept hs.1 hg hr).trans hs.2.1,hs.2.2⟩) _) (ownFrom_below (zA3 _) qH1))
  (fun c=>OwnFrom.and (Own.from (fun s A B row hs hg hr=>⟨cell_kept hs.1 hg hr,(frozen_kept hs.1 hg hr).trans hs.2.1,hs.2.2⟩) _) (ownFrom_below (zA3 _) qH1))
  (fun s A v h=>⟨⟨(World.cell?_setCell_other _ _ _ _ (fun h=>by injection h with h; omega)).trans h.1.1,(World.frozen?_setCell ..).trans h.1.2.1,h.1.2.2⟩,h.2.setCell (p:=⟨w.heap.size+1,0,none⟩) (zC6 _) _⟩)
  ⟨⟨r0,f0,zA0 qI1⟩,hB0⟩
  (fun x=>{ tmps:=#[.string s,undef,.pointer (some ⟨w.heap.size,0,none⟩),.string x,.string s,.bool false,.string s,.int .i64 s.size,.bool false,.bool false,.string s,.bool true,.bool false,.bool false,.string s,.string t,.func (.func 86) #[] #[.pointer (some ⟨w.heap.size+1+1,0,none⟩),.pointer (some ⟨w.heap.size+1,0,none⟩),.pointer (some ⟨w.heap.size+1+2,0,none⟩)],.string x,undef,undef,undef],defers:=[] }) ?assign ?body ?done ?stop
 case assign=>
  intro l x W K hK
  gi_wp2
  exact hK
 case body=>
  rintro l pre x W ⟨⟨hc,hf,hall⟩,hB⟩ hpre;have hmem:x∈Jba t:=hpre.subset qI1;have hx:=Jki t x hmem;cases hn:JaK (bs x) with
  | true=>
   have HA:=zA0 (show ∀ y∈pre ++ [x],JaK (bs y)=true from fun y hy=>by
    rcases zE7.1 hy with h | h
    ·exact hall.out y h
    ·simp at h; subst h; exact hn)
   clear hall hmem hpre
   gi_wp2_with (refine ⟨trivial,?_⟩; gi_at_call 43; refine (CallsIn.inRound l (callsIn_wide.2 (Jc0 x _ qH1))).mono ?_; rintro e w' ⟨rfl,rfl⟩; rw [hn])
   exact ⟨KeepsOthers.refl _,zB6 _ _,⟨hc,hf,HA⟩,hB⟩
  | false=>
   have HA:=zA0 (show ((Jba t).all fun x=>JaK (bs x))=false by rw [zM2]; exact ⟨x,hmem,by simp [hn]⟩)
   clear hall hmem hpre
   gi_wp2_with (refine ⟨trivial,?_⟩; gi_at_call 43; refine (CallsIn.inRound l (callsIn_wide.2 (Jc0 x _ qH1))).mono ?_; rintro e w' ⟨rfl,rfl⟩; rw [hn])
   exact ⟨KeepsOthers.setCell _ _ _,⟨World.cell?_setCell_same' _ _ _ (by rw [hc]; rfl),by rw [World.frozen?_setCell]; exact hf,zA0 ⟨rfl,HA.out⟩⟩,hB.setCell (p:=⟨w.heap.size,0,none⟩) (zA3 _) _⟩
 case done=>
  rintro D W hD ⟨⟨hc,hf,hall⟩,hB⟩ hK;have hT:((Jba t).all fun x=>JaK (bs x))=true:=List.all_eq_true.2 hall.out
  have HA:=zA0 hT;clear hall hT
  gi_wp2
  have hK':=(KeepsOthers.setCell W ⟨w.heap.size,0,none⟩ (.bool true)).same D _ hK rfl;refine ⟨by simp,.inl ⟨_,_,rfl,run_takeDeferred hK',?_⟩⟩
  have hc5:=cell_kept (World.cell?_setCell_same' W ⟨w.heap.size,0,none⟩ (.bool true) (by rw [hc]; rfl)) (grownBy_putObj' _ D (.deferred none)) (fun r e=>by cases e; exact ⟨_,hK',rfl⟩)
  refine ⟨.bool true,?_,by rw [HTT.out,HA.out],(hB.setCell (p:=⟨w.heap.size,0,none⟩) (zA3 _) _).trans (belowK_b (w:=w) (zA3 _) _ D _ _ qH1 hK' rfl rfl)⟩
  simp [results,Tryz.f31,go_sem,hc5]
 case stop=>
  rintro D c pre W hD ⟨⟨hc,hf,hbad⟩,hB⟩ hK;obtain ⟨rfl,hb⟩:=hbad.out;have HA:=zA0 hb;clear hbad hb
  gi_wp2
  refine ⟨by simp,.inl ⟨_,_,rfl,run_takeDeferred hK,?_⟩⟩
  have hc5:=cell_kept hc (grownBy_putObj' _ D (.deferred none)) (fun r e=>by cases e; exact ⟨_,hK,rfl⟩)
  refine ⟨.bool false,?_,by rw [HTT.out,HA.out],hB.trans (belowK_b (w:=w) (zA3 _) W D _ _ qH1 hK rfl rfl)⟩
  simp [results,Tryz.f31,go_sem,hc5]
theorem JdN {a b:ByteArray} (e:a.toList=b.toList):a=b:=by
 rw [zE4,zE4] at e;exact ByteArray.ext (zN7.mp e)
theorem JcG (s:ByteArray) (w:World) (hs:s.size<=9223372036854775807) :
  Calls Tryz.prog 31 #[.string s] w fun e w'=>e=.returned (.bool (Jaw s))/\Below w.heap.size w w':=by
 by_cases hr:s=⟨#[47]⟩
 ·subst hr
  have hg:Jaw ⟨#[47]⟩=true:=by unfold Jaw; rw [zB0 rfl]; rfl
  rw [hg];go_enter Tryz.func31,Tryz.ntmps31
  go_wp2;refine zA1 (v:=.bool true) (by simp [results,Tryz.f31,go_sem]) rfl ⟨rfl,zL⟩
 ·have hne:(s.toList == [47])=false:=zB7.2 (fun e=>hr (JdN (by rw [e,zE4])))
  by_cases h200:s.size<=200
  ·cases hp:Lib.hasPrefix s.data.toList [47] with
   | true=>
    have hg:Jaw s=((Jba (s.extract 1 s.size)).all fun x=>JaK (bs x)):=by unfold Jaw; rw [zA7 hr,zB0 h200,hp]; rfl
    rw [hg];exact Jmy s w h200 hne hp
   | false=>
    have hg:Jaw s=false:=by unfold Jaw; rw [zA7 hr,hp]; simp
    have hgt:(decide ((200:Int)<(s.size:Int)))=false:=zA7 qH1;rw [hg];clear hg;go_enter Tryz.func31,Tryz.ntmps31
    go_wp2_with (go_at_call 41; refine (Tryz.strings_HasPrefix _ _ _).mono ?_; rintro e w' ⟨rfl,rfl⟩; rw [hp]);refine zA1 (v:=.bool false) (by simp [results,Tryz.f31,go_sem]) rfl ⟨rfl,zL⟩
  ·have hg:Jaw s=false:=by unfold Jaw; rw [zA7 hr,zA7 h200]; simp
   have hgt:(decide ((200:Int)<(s.size:Int)))=true:=zB0 qH1;rw [hg];clear hg;go_enter Tryz.func31,Tryz.ntmps31
   go_wp2_with fail;refine zA1 (v:=.bool false) (by simp [results,Tryz.f31,go_sem]) rfl ⟨rfl,zL⟩
def slash:ByteArray:=⟨#[47]⟩
def Jdx (s t:ByteArray):Bool:=Jaw s && Jaw t && decide (s≠t) && (decide (t=slash) || Lib.hasPrefix s.data.toList (t ++ slash).data.toList)
theorem Ja6 {s:ByteArray} (h:Jaw s=true):1<=s.size/\s.size<=200:=by
 unfold Jaw at h
 by_cases hs:s=⟨#[47]⟩
 ·subst hs; decide
 ·rw [zA7 hs,zP1] at h
  simp only [zE1,decide_eq_true_iff] at h;obtain ⟨⟨h1,hp⟩,_⟩:=h;refine ⟨?_,h1⟩;cases hd:s.data.toList with
  | nil=>rw [hd] at hp; cases hp
  | cons x r=>
   have:s.data.toList.length=s.size:=by simp
   rw [hd] at this;simp at this;omega
theorem Jh8 {a:ByteArray} (h:a≠slash):(a.toList == [47])=false:=zB7.2 (fun e=>h (JdN (by rw [e]; unfold slash; rw [zE4])))
def Jbk (s:ByteArray):Nat:=(Lib.lastIndexByte s 47).toNat
theorem Jie {s:ByteArray} (hp:Lib.hasPrefix s.data.toList [47]=true):Lib.lastIndexByte s 47=(Jbk s:Int)/\Jbk s<s.size:=by
 rcases Lib.lastIndexByte_spec s 47 with ⟨e,hn⟩ | ⟨i,hi,e,_⟩
 ·exfalso
  cases hd:s.data.toList with
  | nil=>rw [hd] at hp; cases hp
  | cons x r=>
   rw [hd] at hp;have hx:(47:UInt8)=x:=by simpa [Lib.hasPrefix,List.isPrefixOf] using hp
   have hl:s.data.toList.length=s.size:=by simp
   have h0:0<s.size:=by rw [hd] at hl; simp at hl; omega
   refine hn 0 h0 ?_;have:s.data[0]! = x:=by
    rw [<-Array.getElem!_toList,hd]; rfl
   rw [this,<-hx];rfl
 ·unfold Jbk
  rw [e];exact ⟨by simp,by simpa using hi⟩
theorem Je2 {s:ByteArray} (h:Jaw s=true) (hs:s≠slash):Lib.hasPrefix s.data.toList [47]=true/\((Jba (s.extract 1 s.size)).all fun x=>JaK (bs x))=true:=by
 unfold Jaw at h;rw [zA7 (show ¬ s=⟨#[47]⟩ from hs),zP1] at h
 simp only [zE1] at h;exact ⟨h.1.2,h.2⟩
def Jac (s:ByteArray):ByteArray × ByteArray × Int:=if Jaw s then (if s=slash then (⟨#[]⟩,⟨#[]⟩,7) else if Jbk s=0 then (slash,s.extract 1 s.size,0) else (s.extract 0 (Jbk s),s.extract (Jbk s+1) s.size,0)) else (⟨#[]⟩,⟨#[]⟩,2)
theorem Jdz (s:ByteArray) (w:World) (hs:s.size<=9223372036854775807) :
  Calls Tryz.prog 129 #[.string s] w fun e w'=>e=.returned (.tuple #[.string (Jac s).1,.string (Jac s).2.1,.int .i64 (Jac s).2.2])/\Below w.heap.size w w':=by
 have HS:=zA0 (fun (W:World)=>JcG s W hs)
 unfold Jac;cases hgs:Jaw s with
 | false=>
  rw [hgs] at HS;simp only [zC7,if_false];clear hgs;go_enter Tryz.func129,Tryz.ntmps129
  go_wp2_with (go_at_call 31; refine (HS.out _).mono ?_; rintro e w1 ⟨rfl,hb⟩; obtain ⟨ext1,d1,rfl⟩:=zA2 _ hb; clear hb HS);refine zA1 (v:=.tuple #[.string ⟨#[]⟩,.string ⟨#[]⟩,.int .i64 2]) (by simp [results,Tryz.results129,go_sem]) rfl ⟨rfl,zL⟩
 | true=>
  rw [hgs] at HS;have zs:=Ja6 hgs;simp only [if_true]
  by_cases hsl:s=slash
  ·subst hsl
   simp only [if_true];unfold slash at *;clear hgs;go_enter Tryz.func129,Tryz.ntmps129
   go_wp2_with (go_at_call 31; refine (HS.out _).mono ?_; rintro e w1 ⟨rfl,hb⟩; obtain ⟨ext1,d1,rfl⟩:=zA2 _ hb; clear hb HS);refine zA1 (v:=.tuple #[.string ⟨#[]⟩,.string ⟨#[]⟩,.int .i64 7]) (by simp [results,Tryz.results129,go_sem]) rfl ⟨rfl,zL⟩
  ·simp only [if_neg hsl]
   have hne:=Jh8 hsl;obtain ⟨hL,hlt⟩:=Jie (Je2 hgs hsl).1;have HL:=zA0 (fun (W:World)=>by
    have h:=Tryz.strings_LastIndexByte s 47 qH1 W;rw [hL] at h;exact h)
   clear hL hgs hsl;generalize Jbk s=k at *
   by_cases hk:k=0
   ·subst hk
    simp only [if_true];go_enter Tryz.func129,Tryz.ntmps129
    go_wp2_with (first | (go_at_call 31; refine (HS.out _).mono ?_; rintro e w1 ⟨rfl,hb⟩; obtain ⟨ext1,d1,rfl⟩:=zA2 _ hb; clear hb HS) | (go_at_call 161; refine (HL.out _).mono ?_; rintro e w1 ⟨rfl,rfl⟩; skip));go_region;go_wp2_with fail;refine zA1 (v:=.tuple #[.string slash,.string (s.extract 1 s.size),.int .i64 0]) (by simp [results,Tryz.results129,go_sem,slash]) rfl ⟨rfl,zL⟩
   ·simp only [if_neg hk]
    have hki:(((k:Nat):Int) == 0)=false:=zB7.2 qH1;go_enter Tryz.func129,Tryz.ntmps129
    go_wp2_with (first | (go_at_call 31; refine (HS.out _).mono ?_; rintro e w1 ⟨rfl,hb⟩; obtain ⟨ext1,d1,rfl⟩:=zA2 _ hb; clear hb HS) | (go_at_call 161; refine (HL.out _).mono ?_; rintro e w1 ⟨rfl,rfl⟩; skip));go_region;go_wp2_with fail;refine zA1 (v:=.tuple #[.string (s.extract 0 k),.string (s.extract (k+1) s.size),.int .i64 0]) (by simp [results,Tryz.results129,go_sem]) rfl ⟨rfl,zL⟩
def Jbx (d n:ByteArray):ByteArray:=if d=slash then slash ++ n else d ++ slash ++ n
def JcR (d n:ByteArray):ByteArray × Int:=if Jaw d && JaK (bs n) then (if 200<(Jbx d n).size then (⟨#[]⟩,1) else (Jbx d n,0)) else (⟨#[]⟩,2)
theorem join_any (d n:ByteArray) (w:World) (hd:d.size<=9223372036854775807) (hn:n.size<=9223372036854775807) :
  Calls Tryz.prog 131 #[.string d,.string n] w fun e w'=>e=.returned (.tuple #[.string (JcR d n).1,.int .i64 (JcR d n).2])/\Below w.heap.size w w':=by
 have HS:=zA0 (fun (W:World)=>JcG d W hd)
 have HN:=zA0 (fun (W:World)=>Jc0 n W hn)
 unfold JcR;cases hgs:Jaw d with
 | false=>
  rw [hgs] at HS;simp only [zJ5,zC7,if_false];clear hgs;go_enter Tryz.func131,Tryz.ntmps131
  go_wp2_with (go_at_call 31; refine (HS.out _).mono ?_; rintro e w1 ⟨rfl,hb⟩; obtain ⟨ext1,d1,rfl⟩:=zA2 _ hb; clear hb HS);go_ret2;exact ⟨rfl,zL⟩
 | true=>
  rw [hgs] at HS;have zs:=Ja6 hgs;clear hgs;cases hnm:JaK (bs n) with
  | false=>
   rw [hnm] at HN;simp only [zJ6,zC7,if_false];clear hnm;go_enter Tryz.func131,Tryz.ntmps131
   go_wp2_with (first | (go_at_call 31; refine (HS.out _).mono ?_; rintro e w1 ⟨rfl,hb⟩; obtain ⟨ext1,d1,rfl⟩:=zA2 _ hb; clear hb HS) | (go_at_call 43; refine (HN.out _).mono ?_; rintro e w1 ⟨rfl,rfl⟩; skip));go_ret2;exact ⟨rfl,zL⟩
  | true=>
   rw [hnm] at HN;have zn:n.size<=40:=by
    unfold JaK at hnm;simp only [zE1,decide_eq_true_iff,zC1] at hnm;exact hnm.2
   clear hnm;simp only [zJ9,if_true];unfold Jbx
   by_cases hsl:d=slash
   ·subst hsl
    simp only [if_true];have hsz:(slash ++ n).size=1+n.size:=by rw [zI3]; rfl
    have hgt:¬ 200<(slash ++ n).size:=qCE;simp only [if_neg hgt];have hgi:(decide ((200:Int)<1+(n.size:Int)))=false:=zA7 qH1;clear hgt hsz;unfold slash at *;go_enter Tryz.func131,Tryz.ntmps131
    go_wp2_with (first | (go_at_call 31; refine (HS.out _).mono ?_; rintro e w1 ⟨rfl,hb⟩; obtain ⟨ext1,d1,rfl⟩:=zA2 _ hb; clear hb HS) | (go_at_call 43; refine (HN.out _).mono ?_; rintro e w1 ⟨rfl,rfl⟩; skip));go_ret2;exact ⟨rfl,zL⟩
   ·have hne:=Jh8 hsl
    simp only [if_neg hsl];have hsz:(d ++ slash ++ n).size=d.size+1+n.size:=by rw [zI3,zI3]; rfl
    by_cases hgt:200<(d ++ slash ++ n).size
    ·simp only [if_pos hgt]
     have hgi:(decide ((200:Int)<(d.size:Int)+1+(n.size:Int)))=true:=zB0 qH1;clear hgt hsz;unfold slash at *;go_enter Tryz.func131,Tryz.ntmps131
     go_wp2_with (first | (go_at_call 31; refine (HS.out _).mono ?_; rintro e w1 ⟨rfl,hb⟩; obtain ⟨ext1,d1,rfl⟩:=zA2 _ hb; clear hb HS) | (go_at_call 43; refine (HN.out _).mono ?_; rintro e w1 ⟨rfl,rfl⟩; skip));go_ret2;exact ⟨rfl,zL⟩
    ·simp only [if_neg hgt]
     have hgi:(decide ((200:Int)<(d.size:Int)+1+(n.size:Int)))=false:=zA7 qH1;clear hgt hsz;unfold slash at *;go_enter Tryz.func131,Tryz.ntmps131
     go_wp2_with (first | (go_at_call 31; refine (HS.out _).mono ?_; rintro e w1 ⟨rfl,hb⟩; obtain ⟨ext1,d1,rfl⟩:=zA2 _ hb; clear hb HS) | (go_at_call 43; refine (HN.out _).mono ?_; rintro e w1 ⟨rfl,rfl⟩; skip));go_ret2;exact ⟨rfl,zL⟩
def Jeh (s:ByteArray):Int × Int:=if Jaw s then (if s=slash then (0,0) else ((Lib.countByte s.data.toList 47:Nat),0)) else (0,2)
end
section
open Go.RowKit
theorem Jem {s t:ByteArray} (h:Jdx s t=true):Jaw s=true/\Jaw t=true/\s≠t/\(t=slash\/∃ r,s.data.toList=t.data.toList ++ 47 :: r):=by
 unfold Jdx at h;simp only [zE1,zJ0,decide_eq_true_iff] at h;obtain ⟨⟨⟨h1,h2⟩,h3⟩,h4⟩:=h;refine ⟨h1,h2,h3,h4.imp id fun h=>?_⟩
 have:=List.isPrefixOf_iff_prefix.1 h;obtain ⟨r,hr⟩:=this;exact ⟨r,by rw [<-hr,ByteArray.data_append]; simp [slash]⟩
theorem good_len {s:ByteArray} (h:Jaw s=true):1<=s.data.toList.length:=by
 have:=(Ja6 h).1;have h2:s.data.toList.length=s.size:=by simp
 omega
theorem Jf7 {t:ByteArray} (h:Jdx slash t=true):False:=by
 obtain ⟨h1,h2,h3,h4⟩:=Jem h;rcases h4 with h | ⟨r,h⟩
 ·exact h3 h.symm
 ·have:=congrArg List.length h
  have h5:=good_len h2;simp [slash] at this;simp at h5;omega
theorem Jl3 {a b:ByteArray} (h:Jdx a b=true) (k:Jdx b a=true):False:=by
 obtain ⟨_,_,_,h4⟩:=Jem h;obtain ⟨_,_,_,k4⟩:=Jem k;rcases h4 with rfl | ⟨r,h5⟩
 ·exact Jf7 k
 ·rcases k4 with rfl | ⟨q,k5⟩
  ·exact Jf7 h
  ·have:=congrArg List.length h5
   have:=congrArg List.length k5;simp at *;omega
def Jbn:List UInt8->List (List UInt8)
 | []=>[[]]
 | c :: r=>if c=47 then [] :: Jbn r else (c :: (Jbn r).headD []) :: (Jbn r).tail
theorem Jeo (c:UInt8) (r:List UInt8):Jbn (c :: r)=if c=47 then [] :: Jbn r else (c :: (Jbn r).headD []) :: (Jbn r).tail:=rfl
theorem Jny:∀ l,∃ h t,Jbn l=h :: t
 | []=>⟨[],[],rfl⟩
 | c :: r=>by
  unfold Jbn;split
  ·exact ⟨_,_,rfl⟩
  ·exact ⟨_,_,rfl⟩
theorem Jfj:∀ (x y:List UInt8),Jbn (x ++ 47 :: y)=Jbn x ++ Jbn y
 | [],y=>by simp [Jbn]
 | c :: r,y=>by
  have ih:=Jfj r y;obtain ⟨h,t,e⟩:=Jny r;rw [zF9,Jeo,Jeo,ih,e];split <;> simp
theorem Jcv:∀ (l:List UInt8),(47:UInt8)∉l->Jbn l=[l]
 | [],_=>rfl
 | c :: r,h=>by
  have ih:=Jcv r (fun k=>h (zF2 _ k))
  have hc:c≠47:=fun e=>h (by rw [e]; exact zF5)
  unfold Jbn;rw [if_neg hc,ih];rfl
theorem Jbe (s:ByteArray) (a b:Nat):bs (s.extract a b)=((bs s).take b).drop a:=by
 unfold bs;rw [ByteArray.data_extract,Array.toList_extract,List.extract_eq_take_drop,List.drop_take]
theorem Jas (a b:ByteArray):bs (a ++ b)=bs a ++ bs b:=by unfold bs; rw [ByteArray.data_append]; simp
theorem Jbs {a b:ByteArray} (h:bs a=bs b):a=b:=ByteArray.ext (zN7.mp h)
theorem cut_at {l:List UInt8} {o:Nat} (h:l[o]?=some 47):l=l.take o ++ 47 :: l.drop (o+1):=by
 obtain ⟨h1,h2⟩:=zB3.1 h;rw [<-h2,zQ1,zD7]
theorem stepsB_L (s:ByteArray):(Jba s).map bs=Jbn (bs s):=by
 generalize hn:s.size=n
 induction n using Nat.strongRecOn generalizing s with
 | ind n ih=>
  rcases zK8 (Lib.indexByte s.data.toList 47) 0 with hi | hi
  ·have hge:=Lib.indexByte_ge s.data.toList 47
   have hno:=Lib.indexByte_none (show Lib.indexByte s.data.toList 47 = -1 by omega)
   rw [Jf5 hi,Jcv]
   ·rfl
   ·intro hm
    obtain ⟨k,hk⟩:=zF0.1 hm;exact hno k hk
  ·obtain ⟨o,ho⟩:=zG8 hi
   have hlt:=JfL ho;have hso:=Lib.indexByte_some ho;have hsz:(s.extract (o+1) s.size).size=s.size - (o+1):=by rw [zH5]; omega
   have h2:=ih (s.size - (o+1)) qH1 _ hsz;have hl:(bs s).length=s.size:=zC1 s;have hno:(47:UInt8)∉(bs s).take o:=by
    intro hm;obtain ⟨k,hk⟩:=zF0.1 hm;rw [zM7] at hk;split at hk
    ·rename_i hko; exact hso.2 k hko hk
    ·cases hk
   have hR:Jbn (bs s)=(bs s).take o :: Jbn ((bs s).drop (o+1)):=by
    conv=>lhs; rw [cut_at (show (bs s)[o]?=some 47 from hso.1)]
    rw [Jfj,Jcv _ hno];rfl
   rw [Jfk ho,zH8,h2,Jbe,Jbe,zG4 (show (bs s).length<=s.size by omega),hR]
   rfl
def Jik (l:List UInt8):Bool:=decide (l=[47]) || (decide (l.length<=200) && match l with
 | c :: r=>c == 47 && (Jbn r).all JaK
 | []=>false)
theorem JgG (s:ByteArray):Jaw s=Jik (bs s):=by
 unfold Jaw Jik;have h1:decide (s=⟨#[47]⟩)=decide (bs s=[47]):=by
  by_cases h:s=⟨#[47]⟩
  ·subst h; rfl
  ·rw [zA7 h,zA7 (fun k=>h (Jbs (by rw [k]; rfl)))]
 have h2:decide (s.size<=200)=decide ((bs s).length<=200):=by rw [zC1]
 rw [h1,h2,Bool.and_assoc];congr 2;have h3:((Jba (s.extract 1 s.size)).all fun x=>JaK (bs x))=(Jbn ((bs s).drop 1)).all JaK:=by
  have:=stepsB_L (s.extract 1 s.size);rw [Jbe,zG4 qW0] at this;rw [<-this,List.all_map];rfl
 rw [h3];show (Lib.hasPrefix (bs s) [47] && _)=_;cases bs s with
 | nil=>rfl
 | cons c r=>
  have hc:((47:UInt8) == c)=(c == 47):=by
   by_cases h:c=47
   ·subst h; rfl
   ·rw [zB7.2 h,zB7.2 (Ne.symm h)]
  simp [Lib.hasPrefix,List.isPrefixOf,hc]
theorem Jh9 {l:List UInt8} (h:JaK l=true):(47:UInt8)∉l/\1<=l.length/\l.length<=40:=by
 unfold JaK at h;simp only [zE1,decide_eq_true_iff] at h;refine ⟨fun hm=>?_,h.1.2,h.2⟩
 have:=List.all_eq_true.1 h.1.1 _ hm
 revert this
 decide
theorem Jhs (n:List UInt8) (hn:(47:UInt8)∉n) (hl:(47 :: n).length<=200):Jik (47 :: n)=(decide (n=[]) || JaK n):=by
 show (decide (47 :: n=[47]) || (decide ((47 :: n).length<=200) && ((47:UInt8) == 47 && (Jbn n).all JaK)))=(decide (n=[]) || JaK n);rw [Jcv n hn,zB0 hl];simp
theorem Jht (c:UInt8) (r n:List UInt8) (hd:c :: r≠[47]) (hn:(47:UInt8)∉n) (hl:(c :: r ++ 47 :: n).length<=200):Jik (c :: r ++ 47 :: n)=(Jik (c :: r) && JaK n):=by
 show (decide (c :: (r ++ 47 :: n)=[47]) || (decide ((c :: (r ++ 47 :: n)).length<=200) && (c == 47 && (Jbn (r ++ 47 :: n)).all JaK)))=((decide (c :: r=[47]) || (decide ((c :: r).length<=200) && (c == 47 && (Jbn r).all JaK))) && JaK n);have h1:decide (c :: (r ++ 47 :: n)=[47])=false:=zA7 qI1;have h2:decide (c :: r=[47])=false:=zA7 hd;have h3:(c :: r).length<=200:=by simp at hl ⊢; omega
 rw [h1,h2,Jfj,Jcv n hn,zN4,zB0 (show (c :: (r ++ 47 :: n)).length<=200 from hl),zB0 h3]
 simp [Bool.and_assoc]
theorem Jhp {s:ByteArray} (hp:Lib.hasPrefix s.data.toList [47]=true):(bs s)[Jbk s]?=some 47/\(47:UInt8)∉(bs s).drop (Jbk s+1):=by
 obtain ⟨hL,hlt⟩:=Jie hp;have get:∀ j,j<s.size->(((s.data[j]!).toNat:Int)=47↔(bs s)[j]?=some 47):=by
  intro j hj;have hj2:j<(bs s).length:=by rw [zC1]; exact hj
  have h1:s.data[j]! = (bs s)[j]:=by
   rw [<-Array.getElem!_toList];exact getElem!_pos s.data.toList j hj2
  rw [h1,zA8 hj2];constructor
  ·intro h
   have h2:(bs s)[j].toNat=(47:UInt8).toNat:=by
    have:(47:UInt8).toNat=47:=rfl;omega
   rw [UInt8.toNat_inj.1 h2]
  ·intro h
   injection h with h
   rw [h]; rfl
 rcases Lib.lastIndexByte_spec s 47 with ⟨e,_⟩ | ⟨i,hi,e,hc,hn⟩
 ·omega
 ·have hik:Jbk s=i:=by omega
  rw [hik];refine ⟨(get i hi).1 hc,fun hm=>?_⟩
  obtain ⟨k,hk⟩:=zF0.1 hm;rw [zF3] at hk;have hk2:i+1+k<s.size:=by
   have:=(zB3.1 hk).1;rw [zC1] at this;exact this
  exact hn (i+1+k) qH1 hk2 ((get _ hk2).2 hk)
theorem Jlv {s:ByteArray} {d n:List UInt8} (h:bs s=d ++ 47 :: n) (hn:(47:UInt8)∉n) (hp:Lib.hasPrefix s.data.toList [47]=true):Jbk s=d.length:=by
 obtain ⟨h1,h2⟩:=Jhp hp;rw [h] at h1 h2;rcases zO4 (Jbk s) d.length with hlt | heq | hgt
 ·exfalso
  apply h2;rw [zO1];have:d.length - (Jbk s+1)+(Jbk s+1)=d.length:=qCE;rw [show Jbk s+1 - d.length=0 from by omega]
  simp
 ·exact heq
 ·exfalso
  rw [zI5 qH1] at h1;obtain ⟨m,hm⟩:∃ m,Jbk s - d.length=m+1:=⟨Jbk s - d.length - 1,by omega⟩
  rw [hm,zL4] at h1;exact hn (zF0.2 ⟨m,h1⟩)
theorem Jcn:bs slash=[47]:=rfl
theorem JbQ:Jaw slash=true:=by unfold Jaw slash; rw [zB0 rfl]; rfl
theorem Jjb {s:ByteArray} {r:List UInt8} (h:bs s=47 :: r):Lib.hasPrefix s.data.toList [47]=true:=by
 show Lib.hasPrefix (bs s) [47]=true;rw [h];simp [Lib.hasPrefix,List.isPrefixOf]
theorem bs_pre {s:ByteArray} (h:Lib.hasPrefix s.data.toList [47]=true):∃ r,bs s=47 :: r:=by
 have h2:Lib.hasPrefix (bs s) [47]=true:=h;cases hb:bs s with
 | nil=>rw [hb] at h2; cases h2
 | cons c r=>
  rw [hb] at h2;have:(47:UInt8)=c:=by simpa [Lib.hasPrefix,List.isPrefixOf] using h2
  exact ⟨r,by rw [<-this]⟩
theorem JnB (s:ByteArray):s.size=(bs s).length:=(zC1 s).symm
theorem JdV {s:ByteArray} (h:Jaw s=true) (hs:s≠slash):JcR (Jac s).1 (Jac s).2.1=(s,0)/\Jaw (Jac s).1=true/\JaK (bs (Jac s).2.1)=true/\(Jac s).2.2=0:=by
 obtain ⟨hp,_⟩:=Je2 h hs;obtain ⟨h1,h2⟩:=Jhp hp;have hcut:=cut_at h1;have hsz:=Ja6 h;have hlen:(bs s).length<=200:=by rw [zC1]; exact hsz.2
 have hbs:bs (s.extract (Jbk s+1) s.size)=(bs s).drop (Jbk s+1):=by
  rw [Jbe,zG4 qW0]
 have hg:Jik (bs s)=true:=by rw [<-JgG]; exact h
 unfold Jac;rw [if_pos h,if_neg hs]
 by_cases hk:Jbk s=0
 ·rw [if_pos hk]
  have hbs1:bs (s.extract 1 s.size)=(bs s).drop 1:=by rw [hk] at hbs; exact hbs
  have hcut0:bs s=[] ++ 47 :: bs (s.extract 1 s.size):=by
   rw [hbs1];rw [hk] at hcut;simpa using hcut
  have hn:(47:UInt8)∉bs (s.extract 1 s.size):=by rw [hbs1]; rw [hk] at h2; exact h2
  have hcut1:bs s=47 :: bs (s.extract 1 s.size):=hcut0;have hj:=Jhs (bs (s.extract 1 s.size)) hn (by rw [<-hcut1]; exact hlen)
  rw [<-hcut1,hg] at hj;have hne:bs (s.extract 1 s.size)≠[]:=by
   intro h0;rw [h0] at hcut0;exact hs (Jbs (by rw [hcut0]; rfl))
  have hnm:JaK (bs (s.extract 1 s.size))=true:=by
   simp only [zA7 hne,zP1] at hj;exact hj.symm
  refine ⟨?_,JbQ,hnm,rfl⟩;have hjt:Jbx slash (s.extract 1 s.size)=s:=by
   unfold Jbx;rw [if_pos rfl];apply Jbs;rw [Jas,Jcn,hcut0];rfl
  unfold JcR;rw [JbQ,hnm,hjt,zJ9,if_pos rfl,if_neg qH1]
 ·rw [if_neg hk]
  have hbd:bs (s.extract 0 (Jbk s))=(bs s).take (Jbk s):=by rw [Jbe]; rfl
  have hcut0:bs s=bs (s.extract 0 (Jbk s)) ++ 47 :: bs (s.extract (Jbk s+1) s.size):=by rw [hbd,hbs]; exact hcut
  have hn:(47:UInt8)∉bs (s.extract (Jbk s+1) s.size):=by rw [hbs]; exact h2
  have hlt:=(Jie hp).2;have hdl:(bs (s.extract 0 (Jbk s))).length=Jbk s:=by rw [hbd,zC2,zC1]; omega
  generalize s.extract 0 (Jbk s)=d at *;generalize s.extract (Jbk s+1) s.size=n at *;have hds:bs d≠[47]:=by
   intro h0;rw [h0] at hcut0;have:Jik (47 :: 47 :: bs n)=true:=by rw [hcut0] at hg; exact hg
   have h3:(47 :: 47 :: bs n).length<=200:=by rw [hcut0] at hlen; exact hlen
   have h4:=Jeo 47 (bs n);unfold Jik at this;simp only [h4,if_true,List.all_cons,zA7 (show ¬ (47 :: 47 :: bs n=[47]) by simp)] at this
   have h5:JaK []=false:=by decide
   rw [h5] at this;simp at this
  cases hbd2:bs d with
  | nil=>rw [hbd2] at hdl; simp at hdl; omega
  | cons c r=>
   rw [hbd2] at hds;have hcut1:bs s=c :: r ++ 47 :: bs n:=by rw [hcut0,hbd2]
   have hj:=Jht c r (bs n) hds hn (by rw [<-hcut1]; exact hlen)
   rw [<-hcut1,hg] at hj;have hj2:Jik (c :: r)=true/\JaK (bs n)=true:=by
    have:=hj.symm;simpa [zE1] using this
   have hgd:Jaw d=true:=by rw [JgG,hbd2]; exact hj2.1
   have hdne:d≠slash:=fun e=>hds (by rw [<-hbd2,e]; rfl)
   refine ⟨?_,hgd,hj2.2,rfl⟩;have hjt:Jbx d n=s:=by
    unfold Jbx;rw [if_neg hdne];apply Jbs;rw [Jas,Jas,Jcn,hcut0];simp
   unfold JcR;rw [hgd,hj2.2,hjt,zJ9,if_pos rfl,if_neg qH1]
end
section
open Go.RowKit Go.ChangeShapes Go.WideShapes Go.ChangeAt
theorem Jd5:∀ x:UInt8,∀ u∈Jcq x,u.oneCell'=true:=by
 intro x u hu;simp [Jcq] at hu;subst hu;rfl
def be:Nat->Nat->List UInt8
 | 0,_=>[]
 | n+1,x=>UInt8.ofNat (x / 256 ^ n) :: be n x
theorem Jap:∀ n x,(be n x).length=n
 | 0,_=>rfl
 | n+1,x=>by simp [be,Jap n x]
theorem Jdh (W:World) (v:Value) (l:List UInt8) (x n:Nat) (w:World) (hb:Below W.heap.size W w) (h:Ow Jcq 1 5 w W.heap.size v l) (_hx:x<9223372036854775808) (hn:n<=8) (hl:l.length<=100000) :
  Calls Tryz.prog 171 #[v,.int .i64 x,.int .i64 n] w fun e w'=>∃ A c,e=.returned (.slice A (l ++ be n x).length c)/\Ow Jcq 1 5 w' W.heap.size (.slice A (l ++ be n x).length c) (l ++ be n x)/\Below W.heap.size W w':=by
 obtain ⟨A,c,rfl,_⟩:=h.form;obtain ⟨ext0,d0,rfl⟩:=zA2 _ hb;have HO:=zA0 h;have HL:=zA0 (Jap n x);clear h hb;go_enter Tryz.func171,Tryz.ntmps171
 go_wp2_with fail;go_loopw [0,7] (fun bv k wr=>∃ (m:Nat) (pre:List UInt8) (A:Option Addr) (c:Nat) (ext:Array Obj) (d:Nat),m<=n/\k=.int .i64 ((m:Int) - 1)/\bv=.slice A pre.length c/\wr=grow W ext d/\Hid (pre ++ be m x=l ++ be n x)/\Hid (Ow Jcq 1 5 wr W.heap.size (.slice A pre.length c) pre)) (fun _ k _=>(intOf k+1).toNat)
 case atStart=>exact ⟨n,l,A,c,_,_,zA3 _,rfl,rfl,rfl,zA0 rfl,HO⟩
 case round=>
  obtain ⟨m,pre,A,c,ext,d,hm,rfl,rfl,rfl,hpre,ho⟩:=hrel;have hpl:pre.length+m=l.length+n:=by
   have:=congrArg List.length hpre.out;simpa [Jap] using this
  cases m with
  | zero=>
   have hpre2:=hpre.out;simp only [be,zE9] at hpre2;subst hpre2;go_wp2_with fail;refine zA1 (v:=.slice A (l ++ be n x).length c) (by simp [results,Tryz.results171,go_sem]) rfl ⟨A,c,rfl,ho.out,zL⟩
  | succ m=>
   have hbe:pre ++ be (m+1) x=(pre ++ [UInt8.ofNat (x / 256 ^ m)]) ++ be m x:=by simp [be]
   have hpre2:=zA0 (hbe.symm.trans hpre.out);have hbv:(x:Int) / 2 ^ (8*m) % 256=((UInt8.ofNat (x / 256 ^ m)).toNat:Int):=by
    have h1:(2:Int) ^ (8*m)=((256 ^ m:Nat):Int):=by rw [Int.pow_mul]; simp
    rw [h1,UInt8.toNat_ofNat'];simp
   generalize UInt8.ofNat (x / 256 ^ m)=cc at *;clear hbe hpre;go_wp2_with (at_builtin; refine Jaf _ rfl (.tmp 14) (.tmp 21) _ rfl JhF (m:=[cc]) (v:=.slice A pre.length c) rfl rfl (by exact ho.out.alloc _) (by exact Sl.one_at Jcq 1 _ _ _ rfl _ rfl qH1 qI1) Jd5 qm0 qy0 qy0 ?_; intro v5 w5 hown5 hg5 _)
   obtain ⟨A5,k5,rfl,_⟩:=hown5.form;obtain ⟨ext5,d5,rfl⟩:=JaA (W:=W) zL hg5 (fun k hk=>(ho.out.own_in hk).1)
   have HO5:=zA0 hown5;clear ho hown5 hg5;go_wp2_with fail;go_roundw
   case rel=>exact ⟨m,pre ++ [cc],A5,k5,_,_,by omega,by go_num,rfl,rfl,hpre2,HO5⟩
   case measure=>simp [intOf] <;> omega
theorem JjZ (W:World) (ext:Array Obj) (d d':Nat):Below (grow W ext d).heap.size (grow W ext d) (grow W ext d'):=⟨rfl,rfl,rfl,zA3 _,fun _ _=>rfl⟩
theorem ow_lit1 (W:World) (B:Nat) (e:TypeId) {n:Nat} (hn:n=W.heap.size) (hB:B<=W.heap.size):Ow Jcq 1 e (W.alloc (.cells #[.int .u8 84] e)) B (.slice (some ⟨n,0,none⟩) 1 1) [84]:=by
 subst hn;exact ⟨World.ownsRow_lit W #[.int .u8 84] 1 hB (by simp [maxLen]) qI1,fun x _=>rfl⟩
theorem JmE (l:List UInt8):l.flatMap Jcq=l.map fun b=>Value.int .u8 b.toNat:=by
 induction l with
 | nil=>rfl
 | cons a r ih=>rw [zG2,ih]; rfl
section
variable {P:Program} (w:World)
theorem run_apps {t e ts:TypeId} {z:Value} (ty:TypeId) (E:El P t e z 1 1) (hz0:z=.int .u8 0) (hu:P.underlying ts=some .string) {B:Nat} {v:Value} {l:List UInt8} (s:ByteArray)
  (hown:Ow Jcq 1 e w B v l) (h63:l.length+s.size<=maxLen) (hbytes:l.length+s.size<=140737488355328) (hbase:B<=w.heap.size) :
  ∃ v' w',(Builtin.append_ #[t,ts] ty #[v,.string s]).run P w=.ok v' w'/\Ow Jcq 1 e w' B v' (l ++ bs s)/\w.grownBy w' v.ownBlock:=by
 obtain ⟨i,hi,hz,hs,hb⟩:=Jet E.info;subst hz0;obtain ⟨v',w',hr,h2,h3,_⟩:=Go.Lib.run_append_own_string (P:=P) w B t ts ty e i E.slice hu hi hz hs hb v l.length (l.flatMap Jcq) hown.1 s h63 hbytes hbase;refine ⟨v',w',hr,⟨?_,fun x _=>rfl⟩,h3⟩
 have e1:(l ++ bs s).flatMap Jcq=l.flatMap Jcq ++ Go.Lib.strCells s:=by rw [zF6,JmE (bs s)]; rfl
 have e2:(l ++ bs s).length=l.length+s.size:=by rw [zA9,zC1]
 rw [e1,e2];exact h2
theorem wp_apps {o:Oper} {a:Act} {K:Act->World->Prop} {Q:Exit->Act->World->Prop} (sv x:Operand) (t ts:TypeId)
  (ho:o.op=.call { callee:=.builtin .append,args:=#[sv,x],argTypes:=#[t,ts] })
  {e:TypeId} {z:Value} (E:El P t e z 1 1) (hz0:z=.int .u8 0) (hu:P.underlying ts=some .string) {B:Nat} {v:Value} {l:List UInt8} (s:ByteArray)
  (hs:a.eval sv=v) (hx:a.eval x=.string s) (hown:Ow Jcq 1 e w B v l)
  (h63:l.length+s.size<=maxLen) (hbytes:l.length+s.size<=140737488355328) (hbase:B<=w.heap.size)
  (h:∀ v' w',Ow Jcq 1 e w' B v' (l ++ bs s)->w.grownBy w' v.ownBlock->K (a.put o.dst v') w'):o.wp P a w K Q:=by
 obtain ⟨v',w',hr,h2,h3⟩:=run_apps (P:=P) w o.type E hz0 hu s hown h63 hbytes hbase;unfold Oper.wp execOp;simp only [ho,resolve,invoke,builtin,Sem.run_bind,Sem.run_pure,Result.andThen_ok,zQ9,zH8,List.map_nil,hs,hx,hr];exact h v' w' h2 h3
theorem JiY {ops:Array Oper} {o:Oper} {a:Act} {K:Act->World->Prop} {Q:Exit->Act->World->Prop} {EE:Prop} (hgd:o.guard=none) (sv x:Operand) (t ts:TypeId)
  (ho:o.op=.call { callee:=.builtin .append,args:=#[sv,x],argTypes:=#[t,ts] })
  {e:TypeId} {z:Value} (E:El P t e z 1 1) (hz0:z=.int .u8 0) (hu:P.underlying ts=some .string) {B:Nat} {v:Value} {l:List UInt8} (s:ByteArray)
  (hs:a.eval sv=v) (hx:a.eval x=.string s) (hown:Ow Jcq 1 e w B v l)
  (h63:l.length+s.size<=maxLen) (hbytes:l.length+s.size<=140737488355328) (hbase:B<=w.heap.size)
  (h:∀ v' w',Ow Jcq 1 e w' B v' (l ++ bs s)->w.grownBy w' v.ownBlock->K (a.put o.dst v') w'):if Region.wanted o (yielded ops a.tmps)=true then Oper.wp P o a w K Q else EE:=by
 have hw:Region.wanted o (yielded ops a.tmps)=true:=by simp [Region.wanted,hgd]
 rw [if_pos hw];exact wp_apps w sv x t ts ho E hz0 hu s hs hx hown h63 hbytes hbase h
theorem Jk8 {ops:Array Oper} {o:Oper} {a:Act} {K:Act->World->Prop} {Q:Exit->Act->World->Prop} {EE:Prop} (hgd:o.guard=none) (sv x:Operand) (t:TypeId)
  (ho:o.op=.call { callee:=.builtin .append,args:=#[sv,x],argTypes:=#[t,t] })
  {α:Type} {f:α->List Value} {s:Nat} {e:TypeId} {z:Value} {bytes:Nat} (E:El P t e z s bytes) {B:Nat} {v xv:Value} {l m:List α}
  (hs:a.eval sv=v) (hx:a.eval x=xv) (hown:Ow f s e w B v l) (hsrc:Sl f s w xv m) (h1:∀ x,∀ u∈f x,u.oneCell'=true)
  (h63:l.length+m.length<=maxLen) (hbytes:(l.length+m.length)*bytes<=140737488355328) (hbase:B<=w.heap.size)
  (h:∀ v' w',Ow f s e w' B v' (l ++ m)->w.grownBy w' v.ownBlock->(v'.ownBlock=v.ownBlock\/v'.ownBlock=some w.heap.size)->K (a.put o.dst v') w'):if Region.wanted o (yielded ops a.tmps)=true then Oper.wp P o a w K Q else EE:=by
 have hw:Region.wanted o (yielded ops a.tmps)=true:=by simp [Region.wanted,hgd]
 rw [if_pos hw];exact Jm7 w sv x t ho E hs hx hown hsrc h1 h63 hbytes hbase h
end
theorem Jfx {P:Program} {w:World} {src e dst B:Nat} {v:Value} {l:List UInt8} (h:Ow Jcq 1 e w B v l) (hs:P.underlying src=some (.slice e)) (he:P.underlying e=some (.int .u8)) (hd:P.underlying dst=some .string) :
  (convert src dst v).run P w=.ok (.string ⟨l.toArray⟩) w:=by
 obtain ⟨A,c,rfl,h1,h2⟩:=h.sl.form;cases A with
 | none=>
  have hl:l=[]:=by
   cases l with
   | nil=>rfl
   | cons x l=>obtain ⟨a,o,ha,_⟩:=h.sl.at_ (i:=0) rfl; cases ha
  subst hl;rw [run_convert_bytes_string w src dst e none [].length c hs he hd];rfl
 | some a=>
  refine run_convert_bytes_back w src dst e a c l hs he hd (fun j hj=>?_)
  obtain ⟨b,off,ha,_,hc⟩:=h.sl.at_ (i:=j) (x:=l[j]) (zA8 hj);injection ha with ha
  subst ha;have hadd:(⟨b,off,none⟩:Addr).add j=⟨b,off+j*1,none⟩:=by
   unfold Addr.add;split
   ·rename_i h0'; rw [zK7,h0']; rfl
   ·rw [zK7]
  rw [hadd];exact hc 0 _ rfl
def Jat (t:Txn):Int:=
 if t.op<1\/5<t.op then 4
 else if ¬ (0<=t.zxid/\t.zxid<4611686018427387904)\/t.session<1\/2147483647<t.session\/t.version<0\/2147483647<t.version\/t.owner<0\/2147483647<t.owner then 3
 else if 256<(t.data.size:Int) then 1
 else if t.op<=2/\(t.path.toList≠[]\/t.data.toList≠[]\/t.version≠0\/t.owner≠0) then 2
 else if 3<=t.op/\(Jaw t.path=false\/(t.path.toList=[47]/\t.op≠5)) then 2
 else if (t.op=4/\(t.data.toList≠[]\/t.version≠0\/t.owner≠0))\/(t.op=3/\t.version≠0)\/(t.op=5/\t.owner≠0) then 2
 else 0
theorem tgood_1 (z o s v ow:Int) (p d:ByteArray) (w:World) (h:o<1\/5<o) :
  Calls Tryz.prog 127 #[.agg #[.int .i64 z,.int .i64 o,.int .i64 s,.string p,.string d,.int .i64 v,.int .i64 ow]] w fun e w'=>e=.returned (.int .i64 4)/\Below w.heap.size w w':=by
 rcases h with h | h
 ·have h1:decide (o<1)=true:=zB0 h
  clear h;go_enter Tryz.func127,Tryz.ntmps127
  go_wp2_with fail;go_ret;exact ⟨rfl,zL⟩
 ·have h1:decide (o<1)=false:=zA7 qH1
  have h2:decide (5<o)=true:=zB0 h;clear h;go_enter Tryz.func127,Tryz.ntmps127
  go_wp2_with fail;go_ret;exact ⟨rfl,zL⟩
theorem tgood_2 (z o s v ow:Int) (p d:ByteArray) (w:World) (h1:decide (o<1)=false) (h2:decide (5<o)=false) (h:¬ Zx z\/s<1\/2147483647<s\/v<0\/2147483647<v\/ow<0\/2147483647<ow) :
  Calls Tryz.prog 127 #[.agg #[.int .i64 z,.int .i64 o,.int .i64 s,.string p,.string d,.int .i64 v,.int .i64 ow]] w fun e w'=>e=.returned (.int .i64 3)/\Below w.heap.size w w':=by
 by_cases hz:Zx z
 ·have h':s<1\/2147483647<s\/v<0\/2147483647<v\/ow<0\/2147483647<ow:=by
   rcases h with h | h
   ·exact absurd hz h
   ·exact h
  have hd:(decide (s<1) || (decide (2147483647<s) || (decide (v<0) || (decide (2147483647<v) || (decide (ow<0) || decide (2147483647<ow))))))=true:=by simpa using h'
  clear h h';cases e1:decide (s<1) <;> cases e2:decide (2147483647<s) <;> cases e3:decide (v<0) <;> cases e4:decide (2147483647<v) <;> cases e5:decide (ow<0) <;> cases e6:decide (2147483647<ow)
  all_goals first | (rw [e1,e2,e3,e4,e5,e6] at hd; exact absurd hd qG1) | (exfalso; simp at e1 e2 e3 e4 e5 e6; omega) | skip
  all_goals clear hd
  all_goals go_enter Tryz.func127,Tryz.ntmps127
  all_goals go_wp2_with (go_at_call 95; refine (Ja4 z _ hz).mono ?_; rintro e w1 ⟨rfl,rfl⟩; skip)
  all_goals go_ret
  all_goals exact ⟨rfl,zL⟩
 ·clear h
  go_enter Tryz.func127,Tryz.ntmps127
  go_wp2_with (go_at_call 95; refine (JeA z _ hz).mono ?_; rintro e w1 ⟨rfl,rfl⟩; skip);go_ret;exact ⟨rfl,zL⟩
theorem tgood_3 (z o s v ow:Int) (p d:ByteArray) (w:World) (h1:decide (o<1)=false) (h2:decide (5<o)=false) (hz:Zx z) (h3:decide (s<1)=false) (h4:decide (2147483647<s)=false) (h5:decide (v<0)=false) (h6:decide (2147483647<v)=false) (h7:decide (ow<0)=false) (h8:decide (2147483647<ow)=false) (h9:decide (256<(d.size:Int))=true) :
  Calls Tryz.prog 127 #[.agg #[.int .i64 z,.int .i64 o,.int .i64 s,.string p,.string d,.int .i64 v,.int .i64 ow]] w fun e w'=>e=.returned (.int .i64 1)/\Below w.heap.size w w':=by
 go_enter Tryz.func127,Tryz.ntmps127
 go_wp2_with (go_at_call 95; refine (Ja4 z _ hz).mono ?_; rintro e w1 ⟨rfl,rfl⟩; skip);go_ret;exact ⟨rfl,zL⟩
theorem Joq (z o s v ow:Int) (p d:ByteArray) (h1:decide (o<1)=false) (_h2:decide (5<o)=false) (hz:Zx z) (h3:decide (s<1)=false) (h4:decide (2147483647<s)=false) (h5:decide (v<0)=false) (h6:decide (2147483647<v)=false) (h7:decide (ow<0)=false) (h8:decide (2147483647<ow)=false) (h9:decide (256<(d.size:Int))=false)
  (h10:o<=2):Jat ⟨z,o,s,p,d,v,ow⟩=if p.toList=[]/\d.toList=[]/\v=0/\ow=0 then 0 else 2:=by
 simp at h1 h3 h4 h5 h6 h7 h8 h9;unfold Zx at hz;unfold Jat;dsimp only;rw [if_neg qH1,if_neg qH1,if_neg qH1]
 by_cases hh:p.toList=[]/\d.toList=[]/\v=0/\ow=0
 ·rw [if_pos hh,if_neg (by simp [hh.1,hh.2.1,hh.2.2.1,hh.2.2.2]),if_neg qH1,if_neg qH1]
 ·have hx:p.toList≠[]\/d.toList≠[]\/v≠0\/ow≠0:=by
   by_cases a:p.toList=[]
   ·by_cases b:d.toList=[]
    ·have:¬ (v=0/\ow=0):=fun e=>hh ⟨a,b,e⟩
     exact .inr (.inr qH1)
    ·exact .inr (.inl b)
   ·exact .inl a
  rw [if_neg hh,if_pos ⟨h10,hx⟩]
theorem JmB (z o s v ow:Int) (p d:ByteArray) (h2:decide (5<o)=false) (hz:Zx z) (h3:decide (s<1)=false) (h4:decide (2147483647<s)=false) (h5:decide (v<0)=false) (h6:decide (2147483647<v)=false) (h7:decide (ow<0)=false) (h8:decide (2147483647<ow)=false) (h9:decide (256<(d.size:Int))=false)
  (h10:3<=o):Jat ⟨z,o,s,p,d,v,ow⟩=if Jaw p=false\/(p.toList=[47]/\o≠5) then 2
   else if (o=4/\(d.toList≠[]\/v≠0\/ow≠0))\/(o=3/\v≠0)\/(o=5/\ow≠0) then 2 else 0:=by
 simp at h2 h3 h4 h5 h6 h7 h8 h9;unfold Zx at hz;unfold Jat;dsimp only;rw [if_neg qH1,if_neg qH1,if_neg qH1,if_neg qH1]
 by_cases hh:Jaw p=false\/(p.toList=[47]/\o≠5)
 ·rw [if_pos ⟨h10,hh⟩,if_pos hh]
 ·rw [if_neg (fun e=>hh e.2),if_neg hh]
theorem tgood_4 (z o s v ow:Int) (p d:ByteArray) (w:World) (h1:decide (o<1)=false) (h2:decide (5<o)=false) (hz:Zx z) (h3:decide (s<1)=false) (h4:decide (2147483647<s)=false) (h5:decide (v<0)=false) (h6:decide (2147483647<v)=false) (h7:decide (ow<0)=false) (h8:decide (2147483647<ow)=false) (h9:decide (256<(d.size:Int))=false)
  (h10:decide (o<=2)=true) (h11:decide (3<=o)=false) (h12:(o == 4)=false) (h13:(o == 3)=false) (h14:(o == 5)=false) :
  Calls Tryz.prog 127 #[.agg #[.int .i64 z,.int .i64 o,.int .i64 s,.string p,.string d,.int .i64 v,.int .i64 ow]] w fun e w'=>e=.returned (.int .i64 (if p.toList=[]/\d.toList=[]/\v=0/\ow=0 then 0 else 2))/\Below w.heap.size w w':=by
 go_enter Tryz.func127,Tryz.ntmps127
 go_wp2_with (go_at_call 95; refine (Ja4 z _ hz).mono ?_; rintro e w1 ⟨rfl,rfl⟩; skip)
 all_goals go_ret
 all_goals refine ⟨?_,zL⟩
 all_goals (refine congrArg (fun x=>Ending.returned (Value.int IntKind.i64 x)) ?_)
 all_goals simp_all
theorem tgood_5 (z o s v ow:Int) (p d:ByteArray) (w:World) (h1:decide (o<1)=false) (h2:decide (5<o)=false) (hz:Zx z) (h3:decide (s<1)=false) (h4:decide (2147483647<s)=false) (h5:decide (v<0)=false) (h6:decide (2147483647<v)=false) (h7:decide (ow<0)=false) (h8:decide (2147483647<ow)=false) (h9:decide (256<(d.size:Int))=false)
  (h10:decide (o<=2)=false) (h11:decide (3<=o)=true) (hp:p.size<=9223372036854775807) (hg:Jaw p=false) :
  Calls Tryz.prog 127 #[.agg #[.int .i64 z,.int .i64 o,.int .i64 s,.string p,.string d,.int .i64 v,.int .i64 ow]] w fun e w'=>e=.returned (.int .i64 2)/\Below w.heap.size w w':=by
 have HG:=fun w=>JcG p w hp
 rw [hg] at HG;clear hg;go_enter Tryz.func127,Tryz.ntmps127
 go_wp2_with first | (go_at_call 95; refine (Ja4 z _ hz).mono ?_; rintro e w1 ⟨rfl,rfl⟩; skip) | (go_at_call 31; refine (HG _).mono ?_; rintro e w1 ⟨rfl,hb1⟩; obtain ⟨ext1,d1,rfl⟩:=zA2 _ hb1)
 go_ret;exact ⟨rfl,zL⟩
theorem tgood_6 (z o s v ow:Int) (p d:ByteArray) (w:World) (hz:Zx z) (h3:decide (s<1)=false) (h4:decide (2147483647<s)=false) (h5:decide (v<0)=false) (h6:decide (2147483647<v)=false) (h7:decide (ow<0)=false) (h8:decide (2147483647<ow)=false) (h9:decide (256<(d.size:Int))=false)
  (hp:p.size<=9223372036854775807) (hg:Jaw p=true) (ho:o=3\/o=4\/o=5) :
  Calls Tryz.prog 127 #[.agg #[.int .i64 z,.int .i64 o,.int .i64 s,.string p,.string d,.int .i64 v,.int .i64 ow]] w fun e w'=>e=.returned (.int .i64 (if (p.toList=[47]/\o≠5) then 2
   else if (o=4/\(d.toList≠[]\/v≠0\/ow≠0))\/(o=3/\v≠0)\/(o=5/\ow≠0) then 2 else 0))/\Below w.heap.size w w':=by
 have HG:=fun w=>JcG p w hp
 rw [hg] at HG;clear hg;rcases ho with rfl | rfl | rfl
 all_goals go_enter Tryz.func127,Tryz.ntmps127
 all_goals go_wp2_with first | (go_at_call 95; refine (Ja4 z _ hz).mono ?_; rintro e w1 ⟨rfl,rfl⟩; skip) | (go_at_call 31; refine (HG _).mono ?_; rintro e w1 ⟨rfl,hb1⟩; obtain ⟨ext1,d1,rfl⟩:=zA2 _ hb1)
 all_goals go_ret
 all_goals refine ⟨?_,zL⟩
 all_goals (refine congrArg (fun x=>Ending.returned (Value.int IntKind.i64 x)) ?_)
 all_goals simp_all
theorem JeG (t:Txn) (w:World) (hp:t.path.size<=9223372036854775807) :
  Calls Tryz.prog 127 #[.agg #[.int .i64 t.zxid,.int .i64 t.op,.int .i64 t.session,.string t.path,.string t.data,.int .i64 t.version,.int .i64 t.owner]] w fun e w'=>e=.returned (.int .i64 (Jat t))/\Below w.heap.size w w':=by
 obtain ⟨z,o,s,p,d,v,ow⟩:=t;dsimp only at *
 by_cases a1:o<1\/5<o
 ·rw [show Jat ⟨z,o,s,p,d,v,ow⟩=4 from if_pos a1]
  exact tgood_1 z o s v ow p d w a1
 have h1:decide (o<1)=false:=zA7 (fun e=>a1 (.inl e))
 have h2:decide (5<o)=false:=zA7 (fun e=>a1 (.inr e))
 by_cases a2:¬ (0<=z/\z<4611686018427387904)\/s<1\/2147483647<s\/v<0\/2147483647<v\/ow<0\/2147483647<ow
 ·rw [show Jat ⟨z,o,s,p,d,v,ow⟩=3 from (if_neg a1).trans (if_pos a2)]
  exact tgood_2 z o s v ow p d w h1 h2 a2
 have hz:Zx z:=by unfold Zx; omega
 have h3:decide (s<1)=false:=zA7 qH1;have h4:decide (2147483647<s)=false:=zA7 qH1;have h5:decide (v<0)=false:=zA7 qH1;have h6:decide (2147483647<v)=false:=zA7 qH1;have h7:decide (ow<0)=false:=zA7 qH1;have h8:decide (2147483647<ow)=false:=zA7 qH1
 by_cases a3:256<(d.size:Int)
 ·rw [show Jat ⟨z,o,s,p,d,v,ow⟩=1 from (if_neg a1).trans ((if_neg a2).trans (if_pos a3))]
  exact tgood_3 z o s v ow p d w h1 h2 hz h3 h4 h5 h6 h7 h8 (zB0 a3)
 have h9:decide (256<(d.size:Int))=false:=zA7 a3
 by_cases a4:o<=2
 ·rw [Joq z o s v ow p d h1 h2 hz h3 h4 h5 h6 h7 h8 h9 a4]
  exact tgood_4 z o s v ow p d w h1 h2 hz h3 h4 h5 h6 h7 h8 h9 (zB0 a4) (zA7 qH1) (zB7.2 qH1) (zB7.2 qH1) (zB7.2 qH1)
 ·rw [JmB z o s v ow p d h2 hz h3 h4 h5 h6 h7 h8 h9 qH1]
  cases hg:Jaw p with
  | false=>
   rw [if_pos (.inl rfl)];exact tgood_5 z o s v ow p d w h1 h2 hz h3 h4 h5 h6 h7 h8 h9 (zA7 a4) (zB0 qH1) hp hg
  | true=>
   have:=tgood_6 z o s v ow p d w hz h3 h4 h5 h6 h7 h8 h9 hp hg qH1;simpa using this
end
section
open Go.RowKit
def Jc6 (c:UInt8):Bool:=decide (48<=c.toNat/\c.toNat<=57)
def valD (l:List UInt8):Nat:=l.foldl (fun n c=>n*10+(c.toNat - 48)) 0
def Ja5 (l:List UInt8):Bool:=decide (l≠[]) && (decide (l.length<=10) && (!(decide (1<l.length) && decide (l[0]?=some 48)) && l.all Jc6))
def JbG (l:List UInt8):Int:=if Ja5 l then (valD l:Nat) else 0
theorem JeD (l:List UInt8) (c:UInt8):valD (l ++ [c])=valD l*10+(c.toNat - 48):=by unfold valD; rw [zI2]; rfl
theorem Jnd (l:List UInt8) (h:l.all Jc6=true):∀ k,k<=l.length->valD (l.take k)<10 ^ k
 | 0,_=>by simp [valD]
 | k+1,hk=>by
  have ih:=Jnd l h k qH1;have hx:=zA8 (l:=l) (i:=k) qH1;have h2:Jc6 l[k]=true:=List.all_eq_true.1 h _ (zI1 qH1);unfold Jc6 at h2;rw [decide_eq_true_iff] at h2;rw [zF7,hx,zP9,JeD,zI4];omega
theorem Jk4 (l:List UInt8):∀ k,(l.take k).all Jc6=true->k<=l.length->valD (l.take k)<10 ^ k:=by
 intro k h hk;have:=Jnd (l.take k) h k (by rw [zC2]; omega)
 rwa [zN9,Nat.min_self] at this
theorem bs_inj0 {s:ByteArray} (h:bs s=[]):s=⟨#[]⟩:=ByteArray.ext (zN7.mp h)
theorem Jpd (s:ByteArray) (cap:Nat):bytesRow s cap=((bs s).map (fun c:UInt8=>Value.int .u8 (c.toNat:Int)) ++ List.replicate (cap - s.size) (Value.int .u8 0)).toArray:=by
 apply Array.ext';simp only [bytesRow,Array.toList_append,Array.toList_map,Array.toList_replicate];rfl
theorem Jlc (w:World) (s:ByteArray) (cap e:Nat) (f:Nat × Nat) (j:Nat) (c:UInt8) (h:(bs s)[j]?=some c):((w.drew).alloc (.cells (bytesRow s cap) e f)).cell? ⟨w.heap.size,j,none⟩=some (.int .u8 (c.toNat:Int)):=by
 have h1:((w.drew).alloc (.cells (bytesRow s cap) e f)).heap[w.heap.size]?=some (.cells (bytesRow s cap) e f):=heap_alloc_new w.drew _;unfold World.cell?;simp only [h1];rw [Jpd];have hj:j<(bs s).length:=(zB3.1 h).1;simp only [List.getElem?_toArray];rw [zF1 (by simpa using hj),zI0,h]
 rfl
theorem Jmf (s:ByteArray) (w:World) (h0:0<s.size) (h10:s.size<=10) (hz:¬ (1<s.size/\(bs s)[0]?=some 48)) :
  Calls Tryz.prog 93 #[.string s] w fun e w'=>e=.returned (.tuple #[.int .i64 (JbG (bs s)),.bool (Ja5 (bs s))])/\Below w.heap.size w w':=by
 have hconv:=fun (w:World) (s:ByteArray)=>run_bytes_of_string (P:=Tryz.prog) w 9 193 5 s Tryz.underlying9 Tryz.underlying193 Tryz.underlying5
 have hemp:s.toList.isEmpty=false:=by
  rw [zE4];cases hd:s.data.toList with
  | nil=>have:=zC1 s; unfold bs at this; rw [hd] at this; simp at this; omega
  | cons _ _=>rfl
 have h10i:(decide ((10:Int)<(s.size:Int)))=false:=zA7 qH1;have hok:Ja5 (bs s)=(bs s).all Jc6:=by
  unfold Ja5;have hne:bs s≠[]:=by intro e; have:=zC1 s; rw [e] at this; simp at this; omega
  rw [zB0 hne,zB0 (show (bs s).length<=10 by rw [zC1]; exact h10)]
  have hzz:(decide (1<(bs s).length) && decide ((bs s)[0]?=some 48))=false:=by
   rw [zC1]
   by_cases h1:1<s.size
   ·rw [zA7 (fun h=>hz ⟨h1,h⟩)]; simp
   ·rw [zA7 h1]; rfl
  rw [hzz];rfl
 have HOK:=zA0 hok;have hbr:(decide ((1:Int)<(s.size:Int)))=false\/((decide ((1:Int)<(s.size:Int)))=true/\∀ h:0<s.size,((((s[0]'h).toNat:Nat):Int) == 48)=false):=by
  by_cases h1:1<s.size
  ·refine .inr ⟨zB0 qH1,fun h=>zB7.2 fun e=>hz ⟨h1,?_⟩⟩
   have hb:(bs s)[0]?=some s[0]:=zA8 (by rw [zC1]; exact h0)
   rw [hb];congr 1;apply UInt8.toNat_inj.1;have:(48:UInt8).toNat=48:=rfl;omega
  ·exact .inl (zA7 qH1)
 have hcell:∀ (cap e:Nat) (f:Nat × Nat) (j:Nat) (c:UInt8),(bs s)[j]?=some c->((w.drew).alloc (.cells (bytesRow s cap) e f)).cell? ⟨w.heap.size,j,none⟩=some (.int .u8 (c.toNat:Int)):=fun cap e f j c h=>Jlc w s cap e f j c h
 have HC:=zA0 hcell;clear hok hz hcell;rcases hbr with hb1 | ⟨hb1,hb2⟩
 ·go_enter Tryz.func93,Tryz.ntmps93
  go_wp2_with fail;have HC1:=zA0 (fun (j:Nat) (c:UInt8) (h:(bs s)[j]?=some c)=>show ((w.alloc (.cells (bytesRow s (grownCap w s.size 0 5)) 5 ((bytesRow s (grownCap w s.size 0 5)).size,(bytesRow s (grownCap w s.size 0 5)).size+1))).drew).cell? ⟨w.heap.size,j,none⟩=some (.int .u8 (c.toNat:Int)) from HC.out _ _ _ j c h)
  have hB1:Below w.heap.size w ((w.alloc (.cells (bytesRow s (grownCap w s.size 0 5)) 5 ((bytesRow s (grownCap w s.size 0 5)).size,(bytesRow s (grownCap w s.size 0 5)).size+1))).drew):=zL;generalize ((w.alloc (.cells (bytesRow s (grownCap w s.size 0 5)) 5 ((bytesRow s (grownCap w s.size 0 5)).size,(bytesRow s (grownCap w s.size 0 5)).size+1))).drew)=W1 at *;generalize grownCap w s.size 0 5=cap at *;go_loopw [4,27] (fun n i wr=>∃ k:Nat,k<=s.size/\n=.int .i64 (valD ((bs s).take k))/\i=.int .i64 k/\wr=W1/\Hid (((bs s).take k).all Jc6=true)) (fun _ i _=>s.size - (intOf i).toNat)
  case atStart=>exact ⟨0,zB9 _,rfl,rfl,rfl,zA0 rfl⟩
  case round=>
   obtain ⟨k,hk,rfl,rfl,rfl,hd⟩:=hrel;have hlen:=zC1 s
   by_cases hlt:k<s.size
   ·have hx:(bs s)[k]?=some ((bs s)[k]'qH1):=zA8 _
    have hc:=HC1.out k _ hx;have htk:(bs s).take (k+1)=(bs s).take k ++ [(bs s)[k]'qH1]:=qdE;have hmem:(bs s)[k]'qH1∈bs s:=zI1 _;generalize (bs s)[k]'qH1=c at *;have hvl:=Jk4 (bs s) k hd.out qH1;have hp:10 ^ k<=10 ^ 10:=zO0 qG1 qH1;have hv9:valD ((bs s).take k)<10000000000:=zD0 hvl hp;have hc255:c.toNat<256:=c.toNat_lt;cases hdc:Jc6 c with
    | true=>
     have hcd:48<=c.toNat/\c.toNat<=57:=by unfold Jc6 at hdc; rwa [decide_eq_true_iff] at hdc
     have hval:((valD ((bs s).take (k+1)):Nat):Int)=(valD ((bs s).take k):Int)*10+((c.toNat:Int) - 48):=by rw [htk,JeD]; omega
     have HV:=zA0 hval;have HD:=zA0 (show ((bs s).take (k+1)).all Jc6=true by rw [htk,zN4,hd.out]; simp [hdc])
     have hl1:(decide ((c.toNat:Int)<48))=false:=zA7 qH1;have hl2:(decide ((57:Int)<(c.toNat:Int)))=false:=zA7 qH1;have hws:IntKind.u8.wrap ((c.toNat:Int) - 48)=(c.toNat:Int) - 48:=qHE;generalize valD ((bs s).take k)=n at *;clear hval htk hmem hx hvl hp;go_wp2_with fail;go_roundw
     case rel=>exact ⟨k+1,by omega,by rw [HV.out] <;> go_num,by go_num,by first | rfl | trivial,HD⟩
     case measure=>simp [intOf]; omega
    | false=>
     have hno:Ja5 (bs s)=false:=by rw [HOK.out,zM2]; exact ⟨c,hmem,by simp [hdc]⟩
     have hsv:JbG (bs s)=0:=qpE;have HNO:=zA0 hno;have HSV:=zA0 hsv;have hcd:c.toNat<48\/(48<=c.toNat/\57<c.toNat):=by unfold Jc6 at hdc; rw [decide_eq_false_iff_not] at hdc; omega
     generalize valD ((bs s).take k)=n at *;clear htk hmem hx hvl hp hno hsv;rcases hcd with hcd | ⟨hcd1,hcd2⟩
     ·have hl1:(decide ((c.toNat:Int)<48))=true:=zB0 qH1
      go_wp2_with fail;go_ret2;exact ⟨by rw [HNO.out,HSV.out]; rfl,hB1⟩
     ·have hl1:(decide ((c.toNat:Int)<48))=false:=zA7 qH1
      have hl2:(decide ((57:Int)<(c.toNat:Int)))=true:=zB0 qH1;go_wp2_with fail;go_ret2;exact ⟨by rw [HNO.out,HSV.out]; rfl,hB1⟩
   ·have hk':k=s.size:=by omega
    subst hk';have hd1:=hd.out;rw [zG4 qH1] at hd1;have hyes:Ja5 (bs s)=true:=by rw [HOK.out]; exact hd1
    have hsv:JbG (bs s)=(valD (bs s):Nat):=by unfold JbG; rw [hyes]; rfl
    rw [zG4 qH1];have HNO:=zA0 hyes;have HSV:=zA0 hsv;clear hyes hsv hd1;generalize valD (bs s)=n at *;go_wp2_with fail;go_ret2;exact ⟨by rw [HNO.out,HSV.out]; rfl,hB1⟩
 ·go_enter Tryz.func93,Tryz.ntmps93
  go_wp2_with fail;have HC1:=zA0 (fun (j:Nat) (c:UInt8) (h:(bs s)[j]?=some c)=>show ((w.alloc (.cells (bytesRow s (grownCap w s.size 0 5)) 5 ((bytesRow s (grownCap w s.size 0 5)).size,(bytesRow s (grownCap w s.size 0 5)).size+1))).drew).cell? ⟨w.heap.size,j,none⟩=some (.int .u8 (c.toNat:Int)) from HC.out _ _ _ j c h)
  have hB1:Below w.heap.size w ((w.alloc (.cells (bytesRow s (grownCap w s.size 0 5)) 5 ((bytesRow s (grownCap w s.size 0 5)).size,(bytesRow s (grownCap w s.size 0 5)).size+1))).drew):=zL;generalize ((w.alloc (.cells (bytesRow s (grownCap w s.size 0 5)) 5 ((bytesRow s (grownCap w s.size 0 5)).size,(bytesRow s (grownCap w s.size 0 5)).size+1))).drew)=W1 at *;generalize grownCap w s.size 0 5=cap at *;go_loopw [4,27] (fun n i wr=>∃ k:Nat,k<=s.size/\n=.int .i64 (valD ((bs s).take k))/\i=.int .i64 k/\wr=W1/\Hid (((bs s).take k).all Jc6=true)) (fun _ i _=>s.size - (intOf i).toNat)
  case atStart=>exact ⟨0,zB9 _,rfl,rfl,rfl,zA0 rfl⟩
  case round=>
   obtain ⟨k,hk,rfl,rfl,rfl,hd⟩:=hrel;have hlen:=zC1 s
   by_cases hlt:k<s.size
   ·have hx:(bs s)[k]?=some ((bs s)[k]'qH1):=zA8 _
    have hc:=HC1.out k _ hx;have htk:(bs s).take (k+1)=(bs s).take k ++ [(bs s)[k]'qH1]:=qdE;have hmem:(bs s)[k]'qH1∈bs s:=zI1 _;generalize (bs s)[k]'qH1=c at *;have hvl:=Jk4 (bs s) k hd.out qH1;have hp:10 ^ k<=10 ^ 10:=zO0 qG1 qH1;have hv9:valD ((bs s).take k)<10000000000:=zD0 hvl hp;have hc255:c.toNat<256:=c.toNat_lt;cases hdc:Jc6 c with
    | true=>
     have hcd:48<=c.toNat/\c.toNat<=57:=by unfold Jc6 at hdc; rwa [decide_eq_true_iff] at hdc
     have hval:((valD ((bs s).take (k+1)):Nat):Int)=(valD ((bs s).take k):Int)*10+((c.toNat:Int) - 48):=by rw [htk,JeD]; omega
     have HV:=zA0 hval;have HD:=zA0 (show ((bs s).take (k+1)).all Jc6=true by rw [htk,zN4,hd.out]; simp [hdc])
     have hl1:(decide ((c.toNat:Int)<48))=false:=zA7 qH1;have hl2:(decide ((57:Int)<(c.toNat:Int)))=false:=zA7 qH1;have hws:IntKind.u8.wrap ((c.toNat:Int) - 48)=(c.toNat:Int) - 48:=qHE;generalize valD ((bs s).take k)=n at *;clear hval htk hmem hx hvl hp;go_wp2_with fail;go_roundw
     case rel=>exact ⟨k+1,by omega,by rw [HV.out] <;> go_num,by go_num,by first | rfl | trivial,HD⟩
     case measure=>simp [intOf]; omega
    | false=>
     have hno:Ja5 (bs s)=false:=by rw [HOK.out,zM2]; exact ⟨c,hmem,by simp [hdc]⟩
     have hsv:JbG (bs s)=0:=qpE;have HNO:=zA0 hno;have HSV:=zA0 hsv;have hcd:c.toNat<48\/(48<=c.toNat/\57<c.toNat):=by unfold Jc6 at hdc; rw [decide_eq_false_iff_not] at hdc; omega
     generalize valD ((bs s).take k)=n at *;clear htk hmem hx hvl hp hno hsv;rcases hcd with hcd | ⟨hcd1,hcd2⟩
     ·have hl1:(decide ((c.toNat:Int)<48))=true:=zB0 qH1
      go_wp2_with fail;go_ret2;exact ⟨by rw [HNO.out,HSV.out]; rfl,hB1⟩
     ·have hl1:(decide ((c.toNat:Int)<48))=false:=zA7 qH1
      have hl2:(decide ((57:Int)<(c.toNat:Int)))=true:=zB0 qH1;go_wp2_with fail;go_ret2;exact ⟨by rw [HNO.out,HSV.out]; rfl,hB1⟩
   ·have hk':k=s.size:=by omega
    subst hk';have hd1:=hd.out;rw [zG4 qH1] at hd1;have hyes:Ja5 (bs s)=true:=by rw [HOK.out]; exact hd1
    have hsv:JbG (bs s)=(valD (bs s):Nat):=by unfold JbG; rw [hyes]; rfl
    rw [zG4 qH1];have HNO:=zA0 hyes;have HSV:=zA0 hsv;clear hyes hsv hd1;generalize valD (bs s)=n at *;go_wp2_with fail;go_ret2;exact ⟨by rw [HNO.out,HSV.out]; rfl,hB1⟩
theorem Ji0 (s:ByteArray) (w:World) (hs:s.size<=9223372036854775807) :
  Calls Tryz.prog 93 #[.string s] w fun e w'=>e=.returned (.tuple #[.int .i64 (JbG (bs s)),.bool (Ja5 (bs s))])/\Below w.heap.size w w':=by
 have hlen:=zC1 s
 by_cases h0:0<s.size
 ·by_cases h10:s.size<=10
  ·by_cases hz:1<s.size/\(bs s)[0]?=some 48
   ·have hno:Ja5 (bs s)=false:=by
     unfold Ja5;rw [hlen,zB0 hz.1,zB0 hz.2];simp
    have hsv:JbG (bs s)=0:=qpE;rw [hno,hsv];have h1i:(decide ((1:Int)<(s.size:Int)))=true:=zB0 qH1;have h10i:(decide ((10:Int)<(s.size:Int)))=false:=zA7 qH1;have hemp:s.toList.isEmpty=false:=by
     rw [zE4];cases hd:s.data.toList with
     | nil=>unfold bs at hlen; rw [hd] at hlen; simp at hlen; omega
     | cons _ _=>rfl
    have hb2:∀ h:0<s.size,((((s[0]'h).toNat:Nat):Int) == 48)=true:=by
     intro h;have hb:(bs s)[0]?=some s[0]:=zA8 (by rw [zC1]; exact h0)
     rw [hz.2] at hb;injection hb with hb
     rw [<-hb]; rfl
    clear hno hsv hz;go_enter Tryz.func93,Tryz.ntmps93
    go_wp2_with fail;go_ret2;exact ⟨rfl,zL⟩
   ·exact Jmf s w h0 h10 hz
  ·have hno:Ja5 (bs s)=false:=by
    unfold Ja5;rw [hlen,zA7 h10];simp
   have hsv:JbG (bs s)=0:=qpE;rw [hno,hsv];have h10i:(decide ((10:Int)<(s.size:Int)))=true:=zB0 qH1;have hemp:s.toList.isEmpty=false:=by
    rw [zE4];cases hd:s.data.toList with
    | nil=>unfold bs at hlen; rw [hd] at hlen; simp at hlen; omega
    | cons _ _=>rfl
   clear hno hsv;go_enter Tryz.func93,Tryz.ntmps93
   go_wp2_with fail;go_ret2;exact ⟨rfl,zL⟩
 ·have hnil:bs s=[]:=zK2 qH1
  rw [hnil];have hs0:s=⟨#[]⟩:=bs_inj0 hnil;subst hs0;go_enter Tryz.func93,Tryz.ntmps93
  go_wp2_with fail;go_ret2;exact ⟨rfl,zL⟩
theorem JdZ {d n:ByteArray} (h:(JcR d n).2=0):Jaw d=true/\JaK (bs n)=true/\(Jbx d n).size<=200/\JcR d n=(Jbx d n,0):=by
 unfold JcR at h ⊢;cases h1:Jaw d with
 | false=>rw [h1] at h; simp at h
 | true=>
  cases h2:JaK (bs n) with
  | false=>rw [h1,h2] at h; simp at h
  | true=>
   rw [h1,h2] at h
   by_cases h3:200<(Jbx d n).size
   ·simp [h3] at h
   ·exact ⟨rfl,rfl,by omega,by simp [h3]⟩
theorem Jog {d n:ByteArray} (h:(JcR d n).2≠0):(JcR d n).1=⟨#[]⟩:=by
 unfold JcR at h ⊢;split
 ·split
  ·rfl
  ·rename_i h1 h2; rw [if_pos h1,if_neg h2] at h; simp at h
 ·rfl
theorem JhK {l:List UInt8} (h:(47:UInt8)∉l):Lib.countByte l 47=0:=by
 unfold Lib.countByte;exact List.count_eq_zero.2 h
theorem join_all {d n:ByteArray} (h:(JcR d n).2=0):Jaw (Jbx d n)=true/\Jac (Jbx d n)=(d,n,0)/\Jeh (Jbx d n)=((Jeh d).1+1,0)/\(Jeh d).2=0/\Jdx (Jbx d n) d=true/\Jdx d (Jbx d n)=false:=by
 obtain ⟨h1,h2,h3,_⟩:=JdZ h;obtain ⟨hn,hn1,hn2⟩:=Jh9 h2;have key:Jaw (Jbx d n)=true/\Jac (Jbx d n)=(d,n,0)/\Jeh (Jbx d n)=((Jeh d).1+1,0)/\(Jeh d).2=0/\Jdx (Jbx d n) d=true:=by
  by_cases hd:d=slash
  ·subst hd
   have hb:bs (Jbx slash n)=47 :: bs n:=by
    unfold Jbx;rw [if_pos rfl,Jas,Jcn];rfl
   have hsz:=JnB (Jbx slash n);generalize Jbx slash n=s at *;have hp:=Jjb hb;have hg:Jaw s=true:=by
    rw [JgG,hb,Jhs (bs n) hn (by rw [<-hb,zC1]; exact h3),h2]
    simp
   have hne:s≠slash:=by
    intro e;rw [e,Jcn] at hb;injection hb with _ hb
    rw [<-hb] at hn1;simp at hn1
   have hk:Jbk s=0:=Jlv (d:=[]) (n:=bs n) hb hn hp;have hn3:s.extract 1 s.size=n:=by
    apply Jbs;rw [Jbe,zG4 qW0,hb];rfl
   refine ⟨hg,?_,?_,?_,?_⟩
   ·unfold Jac
    rw [if_pos hg,if_neg hne,if_pos hk,hn3]
   ·unfold Jeh
    rw [if_pos hg,if_neg hne,if_pos JbQ,if_pos rfl];show (((Lib.countByte (bs s) 47:Nat):Int),(0:Int))=_;have:=JhK hn;unfold Lib.countByte at this ⊢;rw [hb,List.count_cons_self,this];rfl
   ·unfold Jeh
    rw [if_pos JbQ,if_pos rfl]
   ·unfold Jdx
    rw [hg,JbQ,zB0 hne,zB0 rfl];rfl
  ·have hb:bs (Jbx d n)=bs d ++ 47 :: bs n:=by
    unfold Jbx;rw [if_neg hd,Jas,Jas,Jcn];simp
   generalize Jbx d n=s at *;obtain ⟨r,hr⟩:=bs_pre (Je2 h1 hd).1;have hds:47 :: r≠[47]:=by
    intro e;exact hd (Jbs (by rw [hr,e]; rfl))
   have hb2:bs s=47 :: (r ++ 47 :: bs n):=by rw [hb,hr]; rfl
   have hp:=Jjb hb2;have hg:Jaw s=true:=by
    have h4:=Jht 47 r (bs n) hds hn (by rw [show 47 :: r ++ 47 :: bs n=bs s from hb2.symm,zC1]; exact h3)
    rw [JgG,hb2];rw [JgG,hr] at h1;rw [h1,h2] at h4;exact h4
   have hk:Jbk s=(bs d).length:=Jlv hb hn hp;have hne:s≠slash:=by
    intro e;rw [e,Jcn] at hb2;injection hb2 with _ hb2
    simp at hb2
   have hk0:Jbk s≠0:=by rw [hk,hr]; simp
   have hd3:s.extract 0 (Jbk s)=d:=by
    apply Jbs;rw [Jbe,hk,hb];simp
   have hn3:s.extract (Jbk s+1) s.size=n:=by
    apply Jbs;rw [Jbe,zG4 qW0,hk,hb];rw [zO1,zQ2 qH1,show (bs d).length+1 - (bs d).length=1 from by omega]
    rfl
   refine ⟨hg,?_,?_,?_,?_⟩
   ·unfold Jac
    rw [if_pos hg,if_neg hne,if_neg hk0,hd3,hn3]
   ·unfold Jeh
    rw [if_pos hg,if_neg hne,if_pos h1,if_neg hd];show (((Lib.countByte (bs s) 47:Nat):Int),(0:Int))=(((Lib.countByte (bs d) 47:Nat):Int)+1,0);have:=JhK hn;unfold Lib.countByte at this ⊢;rw [hb,List.count_append,List.count_cons_self,this];rfl
   ·unfold Jeh
    rw [if_pos h1,if_neg hd]
   ·unfold Jdx
    have hsd:s≠d:=by
     intro e;have:=congrArg List.length hb;rw [e] at this;simp at this
    have hpp:Lib.hasPrefix s.data.toList (d ++ slash).data.toList=true:=by
     show Lib.hasPrefix (bs s) (bs (d ++ slash))=true;refine List.isPrefixOf_iff_prefix.2 ⟨bs n,?_⟩;rw [Jas,Jcn,hb];simp
    rw [hg,h1,zB0 hsd,hpp];simp
 obtain ⟨k1,k2,k3,k4,k5⟩:=key;refine ⟨k1,k2,k3,k4,k5,?_⟩;cases hu:Jdx d (Jbx d n) with
 | false=>rfl
 | true=>exact (Jl3 k5 hu).elim
end
end Go.Proofs.YtjnooagaghdkdaaGreatDoor
