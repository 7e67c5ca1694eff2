/-L-/
import Derived.Test.YtjnooagaghdkdaaGreatDoorZ5
import Derived.Test.YtjnooagaghdkdaaGreatDoorZ7
set_option maxHeartbeats 10000000
set_option maxRecDepth 100000
set_option linter.all false
namespace Go.Proofs.YtjnooagaghdkdaaGreatDoor
section
open Go.RowKit Go.ChangeShapes Go.WideShapes Go.ChangeAt
theorem Jo8 (A:Option Addr) (n c:Nat) (w:World) (hc:n<=c) (hA:A=none->c=0) (hcm:c<=9223372036854775807) :
  Calls Tryz.prog 154 #[.slice A n c] w fun e w'=>e=.returned (.slice A n n)/\w=w':=by
 cases A with
 | none=>
  obtain rfl:=hA rfl;obtain rfl:n=0:=qCE;go_enter Tryz.func154,Tryz.ntmps154
  go_wp2;go_ret;exact ⟨rfl,rfl⟩
 | some a=>
  obtain ⟨b,o,sp⟩:=a;go_enter Tryz.func154,Tryz.ntmps154
  go_wp2;go_ret;exact ⟨rfl,rfl⟩
theorem JmJ (A:Option Addr) (c:Nat) (fn:Value) (w:World) :
  Calls Tryz.prog 151 #[.slice A 0 c,fn] w fun e w'=>e=.returned (.slice A 0 c)/\w=w':=by
 have hi:Calls Tryz.prog 176 #[.slice A 0 c,fn] w fun e w'=>e=.returned (.int .i64 (-1))/\w=w':=by
  go_enter Tryz.func176,Tryz.ntmps176
  go_wp2_with fail;refine wp_loop_rounds 1 ?_;rw [rounds_succ];go_wp2;go_ret;exact ⟨rfl,rfl⟩
 have HI:=zA0 hi;clear hi;go_enter Tryz.func151,Tryz.ntmps151
 go_wp2_with fail;refine HI.out.mono ?_;rintro e w1 ⟨rfl,rfl⟩;go_wp2_with fail;refine zA1 (v:=.slice A 0 c) (by simp [results,Tryz.results151,go_sem]) rfl ⟨rfl,rfl⟩
def Jbf (l:List Watch) (evs:List Event):List Note × List Watch:=evs.foldl (fun s e=>(s.1 ++ JaI e s.2,Jbb e s.2)) ([],l)
theorem JmG {l:List Watch} {evs:List Event} {k:Nat} {e:Event} (h:evs[k]?=some e):Jbf l (evs.take (k+1))=((Jbf l (evs.take k)).1 ++ JaI e (Jbf l (evs.take k)).2,Jbb e (Jbf l (evs.take k)).2):=by
 unfold Jbf;rw [zF7,h];simp
theorem JgO (l:List Watch) (evs:List Event):(Jbf l evs).1.length+(Jbf l evs).2.length=l.length:=by
 have key:∀ (evs:List Event) (s:List Note × List Watch),(evs.foldl (fun s e=>(s.1 ++ JaI e s.2,Jbb e s.2)) s).1.length+(evs.foldl (fun s e=>(s.1 ++ JaI e s.2,Jbb e s.2)) s).2.length=s.1.length+s.2.length:=by
  intro evs
  induction evs with
  | nil=>intro s; rfl
  | cons e evs ih=>
   intro s;rw [zJ3,ih];simp only [zA9,JaI,Jbb,zG0];have:(s.2.filter (fun x=>Jbm x e)).length+(s.2.filter (fun x=>!Jbm x e)).length=s.2.length:=by
    generalize s.2=q
    induction q with
    | nil=>rfl
    | cons x q ih2=>cases hh:Jbm x e <;> simp [hh] <;> omega
   omega
 have:=key evs ([],l);simpa [Jbf] using this
def Jj4 (w W:World) (bn:Nat) (A:Option Addr) (c:Nat) (notes:List Note) (l:List Watch):Prop:=
 (l=[]/\(A=none->c=0)/\FS w W bn notes [])\/(∃ gL J,A=some ⟨gL,0,none⟩/\w.heap.size<=gL/\FS w W bn notes [(gL,l.flatMap Jal ++ J,148)])
theorem JmK (ev:Event) (w W:World) (bn be c:Nat) (A:Option Addr) (l:List Watch) (notes:List Note) (cs:List Value) (hcs:cs=JaG ev) (h:Jj4 w W bn A c notes l) (hbe:be=W.heap.size) (hc:l.length<=c) (hcm:c<=9223372036854775807) (hn:(notes.length+l.length+1)*32<=140737488355328) :
  Calls Tryz.prog 151 #[.slice A l.length c,.func (.func 152) #[] #[.pointer (some ⟨be,0,none⟩),.pointer (some ⟨bn,0,none⟩)]] (W.alloc (.cells cs.toArray 78))
   fun e W'=>∃ c',e=.returned (.slice A (Jbb ev l).length c')/\(Jbb ev l).length<=c'/\c'<=9223372036854775807/\Hid (Jj4 w W' bn A c' (notes ++ JaI ev l) (Jbb ev l)):=by
 subst hcs;subst hbe;rcases h with ⟨rfl,hA,hf⟩ | ⟨gL,J,rfl,hg,hf⟩
 ·refine (JmJ A c _ _).mono ?_
  rintro e w' ⟨rfl,rfl⟩;refine ⟨c,rfl,hc,hcm,zA0 (.inl ⟨rfl,hA,?_⟩)⟩;have:=hf.push (JaG ev) 78;show FS w _ bn (notes ++ []) [];rw [zE9];exact this.sub qI1
 ·have hlt:=(hf.bk zF5).lt
  have hp:=hf.push (JaG ev) 78;refine (JmL ev w _ bn W.heap.size gL c _ l J notes [(W.heap.size,JaG ev,78)] (hp.sub (by intro b hb; simp at hb ⊢; rcases hb with rfl | rfl <;> simp)) zF5 hg (by intro b hb; simp at hb; subst hb; show W.heap.size≠gL; omega) rfl hc hcm hn).mono ?_
  rintro e w' ⟨J',rfl,hf',_⟩;exact ⟨c,rfl,zB5 (zM8 _ _) hc,hcm,zA0 (.inr ⟨gL,J',rfl,hg,hf'.sub (by intro b hb; simp at hb ⊢; exact .inl hb)⟩)⟩
theorem Sl.of_bk {α:Type} {f:α->List Value} {s:Nat} {W:World} {g c:Nat} {l:List α} {J:List Value} {t:TypeId} (hb:Bk W g (l.flatMap f ++ J) t) (hf:∀ x,(f x).length=s) (hc:l.length<=c) (hm:c<=maxLen):Sl f s W (.slice (some ⟨g,0,none⟩) l.length c) l:=by
 refine ⟨_,c,by simp,by simpa using hc,hm,by simpa using fun x _=>hf x,fun _=>⟨g,0,rfl,hb.lt,fun i y hy j u hu=>?_⟩⟩
 simp only [zI0,zK9] at hy;obtain ⟨x,hx,rfl⟩:=hy;have h0:(l.flatMap f)[i*s+j]?=some u:=JbN (fun y _=>hf y) hx hu
 rw [show 0+i*s+j=i*s+j from by omega,hb.cell,zF1 (zB3.1 h0).1,h0]
end
end Go.Proofs.YtjnooagaghdkdaaGreatDoor
namespace Go.Proofs.YtjnooagaghdkdaaGreatDoor
open Go.RowKit Go.ChangeShapes Go.WideShapes Go.ChangeAt
end Go.Proofs.YtjnooagaghdkdaaGreatDoor
namespace Go.Proofs.YtjnooagaghdkdaaGreatDoor
section
open Go.RowKit Go.ChangeShapes Go.WideShapes Go.ChangeAt
def Jfs (l:List Watch) (s:Int):List Watch:=l.filter (fun x=>x.session != s)
theorem JmI {l:List Watch} {s:Int} {k:Nat} {x:Watch} (h:l[k]?=some x):Jfs (l.take (k+1)) s=if x.session=s then Jfs (l.take k) s else Jfs (l.take k) s ++ [x]:=by
 unfold Jfs;rw [zF7,h,zO6]
 by_cases hs:x.session=s <;> simp [hs]
theorem JjN (l:List Watch) (s:Int):(Jfs l s).length<=l.length:=zM8 _ _
theorem drop_is (v:Value) (l:List Watch) (s:Int) (w:World) (h:Sl Jal 3 w v l) (hn:l.length*32<=140737488355328) :
  Calls Tryz.prog 114 #[v,.int .i64 s] w (Owned Jal 3 148 (Jfs l s) w):=by
 obtain ⟨A,c,rfl,hc1,hc2⟩:=h.form;have H:=zA0 h;clear h;go_enter Tryz.func114,Tryz.ntmps114
 go_wp2_with fail;go_loopw [5,10] (fun o i wr=>∃ (k n:Nat) (A':Option Addr) (c':Nat) (ext:Array Obj) (d:Nat),k<=l.length/\i=.int .i64 k/\o=.slice A' n c'/\wr=grow w ext d/\Hid (n=(Jfs (l.take k) s).length/\Ow Jal 3 148 wr w.heap.size (.slice A' n c') (Jfs (l.take k) s))) (fun _ i _=>l.length - (intOf i).toNat)
 case atStart=>exact ⟨0,0,none,0,_,_,zB9 _,rfl,rfl,Jav zL,zA0 ⟨rfl,Ow.nil _ _ _ _ _⟩⟩
 case round=>
  obtain ⟨k,n,A',c',ext,d,hk,rfl,rfl,rfl,ho⟩:=hrel
  by_cases hlt:k<l.length
  ·have hx:l[k]?=some (l[k]'hlt):=zA8 _
   obtain ⟨b,off,rfl,_,x0,x1,x2⟩:=H.out.Watch_at hx;have HSU:=zA0 (fun (s:Int)=>JmI (s:=s) hx)
   have hlen:=JjN (l.take k) s;rw [zC2] at hlen;have HLE:=zA0 (show (Jfs (l.take k) s).length<=k by omega)
   generalize l[k]'hlt=x at *;generalize hL:Jfs (l.take k) s=L at *;have HL:=zA0 hL;clear hx hlen hL
   by_cases hs:x.session=s
   ·go_wp2_with fail
    go_roundw
    case rel=>exact ⟨k+1,n,A',c',_,_,by omega,by go_num,rfl,Jav zL,zA0 (by rw [HSU.out s,if_pos hs,HL.out]; exact ⟨ho.out.1,ho.out.2.below zL⟩)⟩
    case measure=>simp [intOf]; omega
   ·go_wp2_with (at_builtin; refine Jaf _ rfl (.tmp 18) (.tmp 20) _ rfl Jbq (B:=w.heap.size) (l:=L) (m:=[x]) rfl rfl (ho.out.2.below zL) (Sl.one_at Jal 3 _ _ _ rfl _ rfl qH1 qI1) Jbd (by have:=HLE.out; simp [maxLen]; omega) (by have:=HLE.out; simp; omega) qy0 ?_; intro v2 w2 hown2 hg2 hat2; obtain ⟨A2,c2,rfl,_⟩:=hown2.form; have HO2:=zA0 hown2; have HG2:Hid (World.grownBy _ w2 (Value.slice A' n c').ownBlock):=zA0 hg2; clear hown2 hg2 hat2)
    have hwb:Below w.heap.size w w2:=Below.grown zL HG2.out qB1 (fun g hg=>(Ow.own_in ho.out.2 hg).1)
    go_roundw
    case rel=>exact ⟨k+1,(L ++ [x]).length,A2,c2,_,_,by omega,by go_num,by simp,Jav hwb,zA0 (by rw [HSU.out s,if_neg hs,HL.out]; exact ⟨rfl,HO2.out⟩)⟩
    case measure=>simp [intOf]; omega
  ·have hk':k=l.length:=by omega
   subst hk';rw [zG1] at ho;obtain rfl:=ho.out.1;go_wp2_with fail;refine zA1 (v:=.slice A' (Jfs l s).length c') (by simp [results,Tryz.results114,go_sem]) rfl (Owned.mk ho.out.2 zL)
def Jps (l:List Watch) (evs:List Event) (w:World) (e:Ending) (w':World):Prop:=
 ∃ A c A2,e=.returned (.tuple #[.slice A (Jbf l evs).1.length c,.slice A2 (Jbf l evs).2.length (Jbf l evs).2.length])/\Ow JbZ 3 80 w' w.heap.size (.slice A (Jbf l evs).1.length c) (Jbf l evs).1/\Sl Jal 3 w' (.slice A2 (Jbf l evs).2.length (Jbf l evs).2.length) (Jbf l evs).2/\Below w.heap.size w w'/\((Jbf l evs).2=[]\/∃ g,A2=some ⟨g,0,none⟩/\w.heap.size<=g)
theorem fire_at (v v2:Value) (l:List Watch) (evs:List Event) (w:World) (h:Sl Jal 3 w v l) (h2:Sl JaG 2 w v2 evs) (hn:(l.length+1)*32<=140737488355328) (hm:evs.length<=140737488355328) :
  Calls Tryz.prog 113 #[v,v2] w (Jps l evs w):=by
 obtain ⟨A,c,rfl,hc1,hc2⟩:=h.form;obtain ⟨A2,c2,rfl,hc3,hc4⟩:=h2.form;have H:=zA0 h;have H2:=zA0 h2;have HD:=zA0 (fun (ev:Event) (W:World) (bn be c:Nat) (A:Option Addr) (l:List Watch) (notes:List Note) (cs:List Value) (hcs:cs=JaG ev) (h:Jj4 w W bn A c notes l) (hbe:be=W.heap.size) (hc:l.length<=c) (hcm:c<=9223372036854775807) (hn:(notes.length+l.length+1)*32<=140737488355328)=>JmK ev w W bn be c A l notes cs hcs h hbe hc hcm hn)
 clear h h2;go_enter Tryz.func113,Tryz.ntmps113
 go_wp2_with fail;refine (JmR _ l _ H.out qH1 qs0).mono ?_;rintro e w1 ⟨A1,c1,rfl,ho,hb⟩;have hW2:Below w.heap.size w (w1.alloc (.cells #[.slice none 0 0] 33)):=hb.alloc hb.size _;have hstart:(A1=none->c1=0)/\l.length<=c1/\c1<=maxLen/\Jj4 w (w1.alloc (.cells #[.slice none 0 0] 33)) w1.heap.size A1 c1 [] l:=by
  have hbn:Bk (w1.alloc (.cells #[.slice none 0 0] 33)) w1.heap.size [.slice none 0 0] 33:=by unfold Bk; show (w1.heap.push _)[w1.heap.size]?=_; simp
  have hsz:=hb.size;obtain ⟨A',c',e1,f1,f2,f3,f4⟩:=ho.form;injection e1 with e1 e2 e3
  subst e1;subst e3;refine ⟨fun e=>(f3 e).2,f1,f2,?_⟩
  rcases zK3 l.length with h0 | h0
  ·obtain rfl:=zK2 h0
   exact .inl ⟨rfl,fun e=>(f3 e).2,none,0,hW2,hsz,hbn,Ow.nil _ _ _ _ _,by simp [Value.ownBlock],by simp⟩
  ·obtain ⟨g,J,rfl,hg,hbk,_,_,_,_⟩:=ho.blk h0
   have hbk2:=hbk.below (Jbt (.cells #[.slice none 0 0] 33) (zB6 _ _));refine .inr ⟨g,J,rfl,hg,none,0,hW2,hsz,hbn,Ow.nil _ _ _ _ _,by simp [Value.ownBlock],fun b hm=>?_⟩
   obtain rfl:=zE3.1 hm;exact ⟨hbk2,by have:=hbk.lt; show g≠_; omega,by simp [Value.ownBlock]⟩
 have HST:=zA0 hstart;have HSZ:=zA0 hb.size;clear hb hW2 hstart ho;go_wp2_with fail;have hl0:l=(Jbf l (evs.take 0)).2:=rfl;go_loopw [6,14] (fun s i wr=>∃ (k:Nat) (A':Option Addr) (c':Nat),k<=evs.length/\i=.int .i64 k/\s=.slice A' (Jbf l (evs.take k)).2.length c'/\(Jbf l (evs.take k)).2.length<=c'/\c'<=9223372036854775807/\Hid (Jj4 w wr w1.heap.size A' c' (Jbf l (evs.take k)).1 (Jbf l (evs.take k)).2)) (fun _ i _=>evs.length - (intOf i).toNat)
 case atStart=>exact ⟨0,A1,c1,zB9 _,rfl,rfl,HST.out.2.1,zB5 HST.out.2.2.1 qG1,zA0 HST.out.2.2.2⟩
 case round=>
  obtain ⟨k,A',c',hk,rfl,rfl,hc',hcm',hleft⟩:=hrel;clear hl0;have HLEN:=zA0 (JgO l (evs.take k));have hbase:Below w.heap.size w wr:=by
   rcases hleft.out with ⟨_,_,hf⟩ | ⟨_,_,_,_,hf⟩ <;> exact hf.base
  by_cases hlt:k<evs.length
  ·have hx:evs[k]?=some (evs[k]'hlt):=zA8 _
   have HSUC:=zA0 (JmG (l:=l) hx);obtain ⟨b,off,rfl,_,c0,c1'⟩:=(H2.out.below hbase).Event_at hx;generalize hxe:evs[k]'hlt=x at hx c0 c1' HSUC;generalize hNS:(Jbf l (evs.take k)).1=NS at *;generalize hL:(Jbf l (evs.take k)).2=L at *;have hbound:(NS.length+L.length+1)*32<=140737488355328:=by rw [HLEN.out]; exact hn
   have HCALL:=zA0 (HD.out x wr w1.heap.size wr.heap.size c' A' L NS (JaG x) rfl hleft.out rfl hc' hcm' hbound);have HXE:=zA0 hx;clear hbase hx hxe hNS hL hbound;go_wp2_with (first | (go_at_call 151; refine (HCALL.out).mono ?_; rintro e w2 ⟨c5,rfl,hc5,hcm5,hl5⟩; skip));go_roundw
   case rel=>exact ⟨k+1,A',c5,by omega,by go_num,by rw [HSUC.out],by rw [HSUC.out]; exact hc5,hcm5,by rw [HSUC.out]; exact hl5⟩
   case measure=>simp [intOf]; omega
  ·have hk':k=evs.length:=by omega
   subst hk';rw [zG1] at hleft hc' HLEN ⊢;have hA:A'=none->c'=0:=by
    rcases hleft.out with ⟨_,h,_⟩ | ⟨_,_,h,_⟩
    ·exact h
    ·intro e; rw [e] at h; cases h
   have hsl:Sl Jal 3 wr (.slice A' (Jbf l evs).2.length (Jbf l evs).2.length) (Jbf l evs).2:=by
    rcases hleft.out with ⟨h,_,_⟩ | ⟨g,J,rfl,_,hf⟩
    ·rw [h]; exact Sl.empty _ _ _ _ qG1
    ·exact Sl.of_bk (hf.bk zF5) (fun _=>rfl) (zA3 _) (by have:=HLEN.out; simp [maxLen]; omega)
   have hfs:FS w wr w1.heap.size (Jbf l evs).1 []:=by
    rcases hleft.out with ⟨_,_,hf⟩ | ⟨_,_,_,_,hf⟩
    ·exact hf
    ·exact hf.sub qI1
   obtain ⟨An,cn,_,_,hnb,hown,_,_⟩:=hfs;have n0:wr.cell? ⟨w1.heap.size,0,none⟩=some (.slice An (Jbf l evs).1.length cn):=hnb.cell 0;have HCL:=zA0 (fun (W:World)=>Jo8 A' (Jbf l evs).2.length c' W hc' hA hcm')
   have HSL:=zA0 hsl;have HOW:=zA0 hown;have HAT:Hid ((Jbf l evs).2=[]\/∃ g,A'=some ⟨g,0,none⟩/\w.heap.size<=g):=zA0 (by
    rcases hleft.out with ⟨h,_,_⟩ | ⟨g,J,rfl,hg,_⟩
    ·exact .inl h
    ·exact .inr ⟨g,rfl,hg⟩)
   have HBA:=zA0 hbase;clear hA hsl hnb hown hbase;generalize hS:Jbf l evs=S at *;have HSE:=zA0 hS;clear hS;go_wp2_with fail;go_quiet (first | (go_at_call 154; with_reducible refine Calls.quiet_of_same ((HCL.out _).mono fun e w' h=>⟨h.1,h.2.symm⟩)))
   go_wp2_with fail;refine zA1 (v:=.tuple #[.slice An S.1.length cn,.slice A' S.2.length S.2.length]) (by simp [results,Tryz.results113,go_sem]) rfl ?_
   unfold Jps;rw [HSE.out];exact ⟨An,cn,A',rfl,HOW.out.drewN _,HSL.out.drewN _,Below.drewN' HBA.out _,HAT.out⟩
def Jkr (x y:Watch):Bool:=decide (x.session=y.session) && (decide (x.kind=y.kind) && decide (x.path=y.path))
theorem Jox (x y:Watch) (w:World):(binOp .eql 148 (.agg #[.int .i64 x.session,.int .i64 x.kind,.string x.path]) (.agg #[.int .i64 y.session,.int .i64 y.kind,.string y.path])).run Tryz.prog w=.ok (.bool (Jkr x y)) w:=by
 simp [go_sem];unfold Jkr
 (repeat' split) <;> simp_all
def hasW (l:List Watch) (x:Watch):Bool:=l.any (Jkr x)
theorem hasW_no {l:List Watch} {x:Watch} (h:∀ (j:Nat) (y:Watch),l[j]?=some y->Jkr x y=false):hasW l x=false:=by
 unfold hasW;rw [List.any_eq_false];intro y hy;obtain ⟨j,hj⟩:=zF0.1 hy;rw [h j y hj];simp
theorem hasW_yes {l:List Watch} {x y:Watch} {j:Nat} (hj:l[j]?=some y) (h:Jkr x y=true):hasW l x=true:=by
 unfold hasW;rw [List.any_eq_true];exact ⟨y,zD3 hj,h⟩
theorem indexW (v:Value) (l:List Watch) (x:Watch) (w:World) (h:Sl Jal 3 w v l) (hn:l.length<=140737488355328) :
  Calls Tryz.prog 143 #[v,.agg #[.int .i64 x.session,.int .i64 x.kind,.string x.path]] w fun e w'=>(∃ i:Int,e=.returned (.int .i64 i)/\decide (i ≥ 0)=hasW l x)/\Below w.heap.size w w':=by
 obtain ⟨A,c,rfl,hc1,hc2⟩:=h.form;have H:=zA0 h;clear h;go_enter Tryz.func143,Tryz.ntmps143
 go_wp2_with fail;go_loopw [8] (fun i wr=>∃ (k:Nat) (ext:Array Obj) (d:Nat),k<=l.length/\i=.int .i64 k/\wr=grow (w.alloc (.cells #[.int .i64 x.session,.int .i64 x.kind,.string x.path] 148)) ext d/\Hid (∀ (j:Nat) (y:Watch),j<k->l[j]?=some y->Jkr x y=false)) (fun i _=>l.length - (intOf i).toNat)
 case atStart=>exact ⟨0,_,_,zB9 _,rfl,Jav zL,zA0 (fun j _ hj=>absurd hj qH1)⟩
 case round=>
  obtain ⟨k,ext,d,hk,rfl,rfl,hno⟩:=hrel
  by_cases hlt:k<l.length
  ·have hx:l[k]?=some (l[k]'hlt):=zA8 _
   obtain ⟨b,off,rfl,_,x0,x1,x2⟩:=H.out.Watch_at hx;generalize l[k]'hlt=y at *;have HX:=zA0 hx;clear hx;have qE:=fun w=>Jox x y w
   generalize hsm:Jkr x y=tb at *;have HSM:=zA0 hsm;clear hsm;cases tb with
   | true=>
    go_wp2_with fail;go_quiet (fail);go_wp2_with fail;go_ret;exact ⟨⟨_,rfl,by rw [hasW_yes HX.out HSM.out]; simp⟩,zL⟩
   | false=>
    go_wp2_with fail;go_quiet (fail);go_wp2_with fail;go_roundw
    case rel=>exact ⟨k+1,_,_,by omega,by go_num,Jav zL,zA0 (fun j z hj hz=>by
     rcases zD1 j k with h | h
     ·exact hno.out j z h hz
     ·obtain rfl:j=k:=by omega
      rw [HX.out] at hz;injection hz with hz
      rw [<-hz];exact HSM.out)⟩
    case measure=>simp [intOf]; omega
  ·go_wp2_with fail
   go_ret;exact ⟨⟨_,rfl,by rw [hasW_no (fun j y hj=>hno.out j y (by have:=(zB3.1 hj).1; omega) hj)]; simp⟩,zL⟩
theorem JoW (v:Value) (l:List Watch) (x:Watch) (w:World) (h:Sl Jal 3 w v l) (hn:l.length<=140737488355328) :
  Calls Tryz.prog 107 #[v,.agg #[.int .i64 x.session,.int .i64 x.kind,.string x.path]] w fun e w'=>e=.returned (.bool (hasW l x))/\Below w.heap.size w w':=by
 obtain ⟨A,c,rfl,hc1,hc2⟩:=h.form;have H:=zA0 h;clear h;go_enter Tryz.func107,Tryz.ntmps107
 go_wp2_with (go_at_call 143; refine (indexW _ l x _ (H.out.alloc _) hn).mono ?_; rintro e w1 ⟨⟨i,rfl,hi⟩,hb⟩; obtain ⟨ext1,d1,rfl⟩:=zA2 _ hb; clear hb);go_ret;exact ⟨rfl,zL⟩
theorem JcV {P:Program} {w:World} {ops:Array Oper} {rest:List Oper} {o:Oper} {a:Act} {Q:Exit->Act->World->Prop} (hgd:o.guard=none) (x y:Operand) (t:TypeId) (ho:o.op=Op.makeSlice t x y)
  {α:Type} {f:α->List Value} {s:Nat} {e:TypeId} {z:Value} {bytes:Nat} (E:El P t e z s bytes) {B n:Nat} {C:Int} (hx:a.eval x=.int .i64 0) (hy:a.eval y=.int .i64 C) (hC:C=(n:Int))
  (hbytes:n*bytes<=140737488355328) (hn:n<=maxLen) (hbase:B<=w.heap.size)
  (h:∀ w',Ow f s e w' B (.slice (some ⟨w.heap.size,0,none⟩) 0 n) []->w.grownBy w' none->wpList P ops Q rest (a.put o.dst (.slice (some ⟨w.heap.size,0,none⟩) 0 n)) w'):wpList P ops Q (o :: rest) a w:=by
 obtain ⟨i,hi,hz⟩:=zK9.1 E.info;simp only [Prod.mk.injEq] at hz;obtain ⟨z1,z2,z3⟩:=hz;refine wpList_make_own w hgd x y t ho B e i z s E.slice hi z1 z2 .i64 .i64 C n hx hy hC ?_ hn hbase ?_
 ·rw [z3,zL8]; omega
 ·intro w' h1 h2
  exact h w' ⟨h1,by simp⟩ h2
def WtRes (l:List Watch) (c:Int) (w:World) (e:Ending) (w':World):Prop:=∃ A k,e=.returned (.tuple #[.slice A l.length k,.int .i64 c])/\Ow Jal 3 148 w' w.heap.size (.slice A l.length k) l/\Below w.heap.size w w'
def Jg3 (x:Watch):Bool:=decide (x.kind=1) || decide (x.kind=2)
def okW (x:Watch):Prop:=Jg3 x=true/\Jaw x.path=true/\1<=x.session/\x.session<=2147483647
instance (x:Watch):Decidable (okW x):=by unfold okW; exact inferInstance
def addE (l:List Watch) (x:Watch):Int:=if okW x then (if hasW l x then 0 else if 400<=l.length then 6 else 0) else (if Jg3 x then (if Jaw x.path then 3 else 2) else 4)
def addL (l:List Watch) (x:Watch):List Watch:=if okW x then (if hasW l x then l else if 400<=l.length then [] else l ++ [x]) else []
theorem add_no (v:Value) (x:Watch) (w:World) (hp:x.path.size<=9223372036854775807) (hno:¬ okW x) :
  Calls Tryz.prog 77 #[v,.agg #[.int .i64 x.session,.int .i64 x.kind,.string x.path]] w (WtRes [] (if Jg3 x then (if Jaw x.path then 3 else 2) else 4) w):=by
 have HG:=zA0 (fun (W:World)=>JcG x.path W hp)
 by_cases k1:x.kind=1
 ·have hk:Jg3 x=true:=by unfold Jg3; rw [k1]; rfl
  have b1:(x.kind != 1)=false:=by rw [k1]; rfl
  rw [if_pos hk];cases hg:Jaw x.path with
  | false=>
   rw [hg] at HG;simp only [zC7,if_false];clear hg hno hk k1;go_enter Tryz.func77,Tryz.ntmps77
   go_wp2_with (go_at_call 31; refine (HG.out _).mono ?_; rintro e w1 ⟨rfl,hb⟩; obtain ⟨ext1,d1,rfl⟩:=zA2 _ hb; clear hb HG);refine zA1 (v:=.tuple #[.slice none 0 0,.int .i64 2]) (by simp [results,Tryz.results77,go_sem]) rfl ⟨none,0,rfl,Ow.nil _ _ _ _ _,zL⟩
  | true=>
   rw [hg] at HG;rw [if_pos rfl];have hs:x.session<1\/(1<=x.session/\2147483647<x.session):=by
    unfold okW at hno;rcases zK8 x.session 1 with h | h
    ·exact .inl h
    ·refine .inr ⟨h,Int.not_le.1 fun h2=>hno ⟨hk,hg,h,h2⟩⟩
   clear hg hno hk k1;rcases hs with hs | ⟨hs1,hs2⟩
   ·go_enter Tryz.func77,Tryz.ntmps77
    go_wp2_with (go_at_call 31; refine (HG.out _).mono ?_; rintro e w1 ⟨rfl,hb⟩; obtain ⟨ext1,d1,rfl⟩:=zA2 _ hb; clear hb HG);refine zA1 (v:=.tuple #[.slice none 0 0,.int .i64 3]) (by simp [results,Tryz.results77,go_sem]) rfl ⟨none,0,rfl,Ow.nil _ _ _ _ _,zL⟩
   ·go_enter Tryz.func77,Tryz.ntmps77
    go_wp2_with (go_at_call 31; refine (HG.out _).mono ?_; rintro e w1 ⟨rfl,hb⟩; obtain ⟨ext1,d1,rfl⟩:=zA2 _ hb; clear hb HG);refine zA1 (v:=.tuple #[.slice none 0 0,.int .i64 3]) (by simp [results,Tryz.results77,go_sem]) rfl ⟨none,0,rfl,Ow.nil _ _ _ _ _,zL⟩
 ·have b1:(x.kind != 1)=true:=by simpa using k1
  by_cases k2:x.kind=2
  ·have hk:Jg3 x=true:=by unfold Jg3; rw [k2]; rfl
   have b2:(x.kind != 2)=false:=by rw [k2]; rfl
   rw [if_pos hk];cases hg:Jaw x.path with
   | false=>
    rw [hg] at HG;simp only [zC7,if_false];clear hg hno hk k1 k2;go_enter Tryz.func77,Tryz.ntmps77
    go_wp2_with (go_at_call 31; refine (HG.out _).mono ?_; rintro e w1 ⟨rfl,hb⟩; obtain ⟨ext1,d1,rfl⟩:=zA2 _ hb; clear hb HG);refine zA1 (v:=.tuple #[.slice none 0 0,.int .i64 2]) (by simp [results,Tryz.results77,go_sem]) rfl ⟨none,0,rfl,Ow.nil _ _ _ _ _,zL⟩
   | true=>
    rw [hg] at HG;rw [if_pos rfl];have hs:x.session<1\/(1<=x.session/\2147483647<x.session):=by
     unfold okW at hno;rcases zK8 x.session 1 with h | h
     ·exact .inl h
     ·refine .inr ⟨h,Int.not_le.1 fun h2=>hno ⟨hk,hg,h,h2⟩⟩
    clear hg hno hk k1 k2;rcases hs with hs | ⟨hs1,hs2⟩
    ·go_enter Tryz.func77,Tryz.ntmps77
     go_wp2_with (go_at_call 31; refine (HG.out _).mono ?_; rintro e w1 ⟨rfl,hb⟩; obtain ⟨ext1,d1,rfl⟩:=zA2 _ hb; clear hb HG);refine zA1 (v:=.tuple #[.slice none 0 0,.int .i64 3]) (by simp [results,Tryz.results77,go_sem]) rfl ⟨none,0,rfl,Ow.nil _ _ _ _ _,zL⟩
    ·go_enter Tryz.func77,Tryz.ntmps77
     go_wp2_with (go_at_call 31; refine (HG.out _).mono ?_; rintro e w1 ⟨rfl,hb⟩; obtain ⟨ext1,d1,rfl⟩:=zA2 _ hb; clear hb HG);refine zA1 (v:=.tuple #[.slice none 0 0,.int .i64 3]) (by simp [results,Tryz.results77,go_sem]) rfl ⟨none,0,rfl,Ow.nil _ _ _ _ _,zL⟩
  ·have b2:(x.kind != 2)=true:=by simpa using k2
   have hk:Jg3 x=false:=by unfold Jg3; rw [zA7 k1,zA7 k2]; rfl
   rw [hk];simp only [zC7,if_false];clear hno hk k1 k2;go_enter Tryz.func77,Tryz.ntmps77
   go_wp2_with fail;refine zA1 (v:=.tuple #[.slice none 0 0,.int .i64 4]) (by simp [results,Tryz.results77,go_sem]) rfl ⟨none,0,rfl,Ow.nil _ _ _ _ _,zL⟩
theorem add_yes (v:Value) (l:List Watch) (x:Watch) (w:World) (h:Sl Jal 3 w v l) (hn:(l.length+1)*32<=140737488355328) (hp:x.path.size<=9223372036854775807) (hok:okW x) :
  Calls Tryz.prog 77 #[v,.agg #[.int .i64 x.session,.int .i64 x.kind,.string x.path]] w (WtRes (if hasW l x then l else if 400<=l.length then [] else l ++ [x]) (if hasW l x then 0 else if 400<=l.length then 6 else 0) w):=by
 obtain ⟨A,c,rfl,hc1,hc2⟩:=h.form;have H:=zA0 h;obtain ⟨hk,hg,hs1,hs2⟩:=hok;have HG:=zA0 (fun (W:World)=>by
  have h:=JcG x.path W hp;rw [hg] at h;exact h)
 have HC:=zA0 (fun (W:World) (hs:Sl Jal 3 W (.slice A l.length c) l)=>JoW _ l x W hs qH1)
 clear h;generalize hasW l x=hw at *;clear hg;have hkk:(x.kind != 1)=false\/((x.kind != 1)=true/\(x.kind != 2)=false):=by
  unfold Jg3 at hk;simp only [zJ0,decide_eq_true_iff] at hk
  by_cases k1:x.kind=1
  ·left; rw [k1]; rfl
  ·rcases hk with h | h
   ·exact absurd h k1
   ·right; exact ⟨by simpa using k1,by rw [h]; rfl⟩
 clear hk;cases hw with
 | true=>
  simp only [if_true];rcases hkk with b1 | ⟨b1,b2⟩
  ·go_enter Tryz.func77,Tryz.ntmps77
   go_wp2_with (first | (go_at_call 31; refine (HG.out _).mono ?_; rintro e w1 ⟨rfl,hb⟩; obtain ⟨ext1,d1,rfl⟩:=zA2 _ hb; clear hb HG) | (refine JcV rfl (.const (.int .i64 0)) (.tmp 32) 69 rfl Jbq (f:=Jal) (B:=w.heap.size+1) (n:=l.length+1) rfl rfl qI1 hn qm0 qy0 ?_; intro w1 hown1 hg1; obtain ⟨ext2,d2,rfl⟩:=zA2 _ (Below.of_grown hg1); clear hg1) | (at_builtin; refine Jaf _ rfl (.tmp 33) (.tmp 34) _ rfl Jbq (m:=l) (v:=.slice (some ⟨w.heap.size+1+ext1.size,0,none⟩) 0 (l.length+1)) rfl rfl qu0 (H.out.below zL) Jbd qm0 qy0 qy0 ?_; intro v2 w2 hown2 hg2 _; rw [zE0] at hown2; obtain ⟨A2,k2,rfl,_⟩:=hown2.form; obtain ⟨ext3,d3,rfl⟩:=JaA (W:=w.alloc (.cells #[.int .i64 x.session,.int .i64 x.kind,.string x.path] 148)) zL hg2 qM0; have HO2:=zA0 hown2; clear hown1 hown2 hg2));refine (HC.out _ (H.out.below zL)).mono ?_;rintro e w4 ⟨rfl,hb4⟩;obtain ⟨ext4,d4,rfl⟩:=zA2 _ hb4;clear hb4;go_wp2_with fail;refine zA1 (v:=.tuple #[.slice A2 l.length k2,.int .i64 0]) (by simp [results,Tryz.results77,go_sem]) rfl ⟨A2,k2,rfl,(HO2.out.below zL).mono qH1,zL⟩
  ·go_enter Tryz.func77,Tryz.ntmps77
   go_wp2_with (first | (go_at_call 31; refine (HG.out _).mono ?_; rintro e w1 ⟨rfl,hb⟩; obtain ⟨ext1,d1,rfl⟩:=zA2 _ hb; clear hb HG) | (refine JcV rfl (.const (.int .i64 0)) (.tmp 32) 69 rfl Jbq (f:=Jal) (B:=w.heap.size+1) (n:=l.length+1) rfl rfl qI1 hn qm0 qy0 ?_; intro w1 hown1 hg1; obtain ⟨ext2,d2,rfl⟩:=zA2 _ (Below.of_grown hg1); clear hg1) | (at_builtin; refine Jaf _ rfl (.tmp 33) (.tmp 34) _ rfl Jbq (m:=l) (v:=.slice (some ⟨w.heap.size+1+ext1.size,0,none⟩) 0 (l.length+1)) rfl rfl qu0 (H.out.below zL) Jbd qm0 qy0 qy0 ?_; intro v2 w2 hown2 hg2 _; rw [zE0] at hown2; obtain ⟨A2,k2,rfl,_⟩:=hown2.form; obtain ⟨ext3,d3,rfl⟩:=JaA (W:=w.alloc (.cells #[.int .i64 x.session,.int .i64 x.kind,.string x.path] 148)) zL hg2 qM0; have HO2:=zA0 hown2; clear hown1 hown2 hg2));refine (HC.out _ (H.out.below zL)).mono ?_;rintro e w4 ⟨rfl,hb4⟩;obtain ⟨ext4,d4,rfl⟩:=zA2 _ hb4;clear hb4;go_wp2_with fail;refine zA1 (v:=.tuple #[.slice A2 l.length k2,.int .i64 0]) (by simp [results,Tryz.results77,go_sem]) rfl ⟨A2,k2,rfl,(HO2.out.below zL).mono qH1,zL⟩
 | false=>
  simp only [zC7,if_false]
  by_cases h400:400<=l.length
  ·have hi4:(decide ((400:Int)<=(l.length:Int)))=true:=zB0 qH1
   simp only [if_pos h400];rcases hkk with b1 | ⟨b1,b2⟩
   ·go_enter Tryz.func77,Tryz.ntmps77
    go_wp2_with (first | (go_at_call 31; refine (HG.out _).mono ?_; rintro e w1 ⟨rfl,hb⟩; obtain ⟨ext1,d1,rfl⟩:=zA2 _ hb; clear hb HG) | (refine JcV rfl (.const (.int .i64 0)) (.tmp 32) 69 rfl Jbq (f:=Jal) (B:=w.heap.size+1) (n:=l.length+1) rfl rfl qI1 hn qm0 qy0 ?_; intro w1 hown1 hg1; obtain ⟨ext2,d2,rfl⟩:=zA2 _ (Below.of_grown hg1); clear hg1) | (at_builtin; refine Jaf _ rfl (.tmp 33) (.tmp 34) _ rfl Jbq (m:=l) (v:=.slice (some ⟨w.heap.size+1+ext1.size,0,none⟩) 0 (l.length+1)) rfl rfl qu0 (H.out.below zL) Jbd qm0 qy0 qy0 ?_; intro v2 w2 hown2 hg2 _; rw [zE0] at hown2; obtain ⟨A2,k2,rfl,_⟩:=hown2.form; obtain ⟨ext3,d3,rfl⟩:=JaA (W:=w.alloc (.cells #[.int .i64 x.session,.int .i64 x.kind,.string x.path] 148)) zL hg2 qM0; have HO2:=zA0 hown2; clear hown1 hown2 hg2));refine (HC.out _ (H.out.below zL)).mono ?_;rintro e w4 ⟨rfl,hb4⟩;obtain ⟨ext4,d4,rfl⟩:=zA2 _ hb4;clear hb4;go_wp2_with fail;refine zA1 (v:=.tuple #[.slice none 0 0,.int .i64 6]) (by simp [results,Tryz.results77,go_sem]) rfl ⟨none,0,rfl,Ow.nil _ _ _ _ _,zL⟩
   ·go_enter Tryz.func77,Tryz.ntmps77
    go_wp2_with (first | (go_at_call 31; refine (HG.out _).mono ?_; rintro e w1 ⟨rfl,hb⟩; obtain ⟨ext1,d1,rfl⟩:=zA2 _ hb; clear hb HG) | (refine JcV rfl (.const (.int .i64 0)) (.tmp 32) 69 rfl Jbq (f:=Jal) (B:=w.heap.size+1) (n:=l.length+1) rfl rfl qI1 hn qm0 qy0 ?_; intro w1 hown1 hg1; obtain ⟨ext2,d2,rfl⟩:=zA2 _ (Below.of_grown hg1); clear hg1) | (at_builtin; refine Jaf _ rfl (.tmp 33) (.tmp 34) _ rfl Jbq (m:=l) (v:=.slice (some ⟨w.heap.size+1+ext1.size,0,none⟩) 0 (l.length+1)) rfl rfl qu0 (H.out.below zL) Jbd qm0 qy0 qy0 ?_; intro v2 w2 hown2 hg2 _; rw [zE0] at hown2; obtain ⟨A2,k2,rfl,_⟩:=hown2.form; obtain ⟨ext3,d3,rfl⟩:=JaA (W:=w.alloc (.cells #[.int .i64 x.session,.int .i64 x.kind,.string x.path] 148)) zL hg2 qM0; have HO2:=zA0 hown2; clear hown1 hown2 hg2));refine (HC.out _ (H.out.below zL)).mono ?_;rintro e w4 ⟨rfl,hb4⟩;obtain ⟨ext4,d4,rfl⟩:=zA2 _ hb4;clear hb4;go_wp2_with fail;refine zA1 (v:=.tuple #[.slice none 0 0,.int .i64 6]) (by simp [results,Tryz.results77,go_sem]) rfl ⟨none,0,rfl,Ow.nil _ _ _ _ _,zL⟩
  ·have hi4:(decide ((400:Int)<=(l.length:Int)))=false:=zA7 qH1
   simp only [if_neg h400];rcases hkk with b1 | ⟨b1,b2⟩
   ·go_enter Tryz.func77,Tryz.ntmps77
    go_wp2_with (first | (go_at_call 31; refine (HG.out _).mono ?_; rintro e w1 ⟨rfl,hb⟩; obtain ⟨ext1,d1,rfl⟩:=zA2 _ hb; clear hb HG) | (refine JcV rfl (.const (.int .i64 0)) (.tmp 32) 69 rfl Jbq (f:=Jal) (B:=w.heap.size+1) (n:=l.length+1) rfl rfl qI1 hn qm0 qy0 ?_; intro w1 hown1 hg1; obtain ⟨ext2,d2,rfl⟩:=zA2 _ (Below.of_grown hg1); clear hg1) | (at_builtin; refine Jaf _ rfl (.tmp 33) (.tmp 34) _ rfl Jbq (m:=l) (v:=.slice (some ⟨w.heap.size+1+ext1.size,0,none⟩) 0 (l.length+1)) rfl rfl qu0 (H.out.below zL) Jbd qm0 qy0 qy0 ?_; intro v2 w2 hown2 hg2 _; rw [zE0] at hown2; obtain ⟨A2,k2,rfl,_⟩:=hown2.form; obtain ⟨ext3,d3,rfl⟩:=JaA (W:=w.alloc (.cells #[.int .i64 x.session,.int .i64 x.kind,.string x.path] 148)) zL hg2 qM0; have HO2:=zA0 hown2; clear hown1 hown2 hg2));refine (HC.out _ (H.out.below zL)).mono ?_;rintro e w4 ⟨rfl,hb4⟩;obtain ⟨ext4,d4,rfl⟩:=zA2 _ hb4;clear hb4;go_wp2_with (at_builtin; refine Jaf _ rfl (.tmp 43) (.tmp 45) _ rfl Jbq (m:=[x]) (v:=.slice A2 l.length k2) rfl rfl (by exact (HO2.out.below zL).alloc _) (by exact Sl.one_at Jal 3 _ _ _ rfl _ rfl qH1 qI1) Jbd qm0 qy0 qy0 ?_; intro v5 w5 hown5 hg5 _)
    obtain ⟨A5,k5,rfl,_⟩:=hown5.form;obtain ⟨ext5,d5,rfl⟩:=JaA (W:=w.alloc (.cells #[.int .i64 x.session,.int .i64 x.kind,.string x.path] 148)) zL hg5 (by intro k hk; have:=(HO2.out.own_in hk).1; simp at this ⊢; omega)
    refine zA1 (v:=.tuple #[.slice A5 (l ++ [x]).length k5,.int .i64 0]) (by simp [results,Tryz.results77,go_sem]) rfl ⟨A5,k5,rfl,hown5.mono qH1,zL⟩
   ·go_enter Tryz.func77,Tryz.ntmps77
    go_wp2_with (first | (go_at_call 31; refine (HG.out _).mono ?_; rintro e w1 ⟨rfl,hb⟩; obtain ⟨ext1,d1,rfl⟩:=zA2 _ hb; clear hb HG) | (refine JcV rfl (.const (.int .i64 0)) (.tmp 32) 69 rfl Jbq (f:=Jal) (B:=w.heap.size+1) (n:=l.length+1) rfl rfl qI1 hn qm0 qy0 ?_; intro w1 hown1 hg1; obtain ⟨ext2,d2,rfl⟩:=zA2 _ (Below.of_grown hg1); clear hg1) | (at_builtin; refine Jaf _ rfl (.tmp 33) (.tmp 34) _ rfl Jbq (m:=l) (v:=.slice (some ⟨w.heap.size+1+ext1.size,0,none⟩) 0 (l.length+1)) rfl rfl qu0 (H.out.below zL) Jbd qm0 qy0 qy0 ?_; intro v2 w2 hown2 hg2 _; rw [zE0] at hown2; obtain ⟨A2,k2,rfl,_⟩:=hown2.form; obtain ⟨ext3,d3,rfl⟩:=JaA (W:=w.alloc (.cells #[.int .i64 x.session,.int .i64 x.kind,.string x.path] 148)) zL hg2 qM0; have HO2:=zA0 hown2; clear hown1 hown2 hg2));refine (HC.out _ (H.out.below zL)).mono ?_;rintro e w4 ⟨rfl,hb4⟩;obtain ⟨ext4,d4,rfl⟩:=zA2 _ hb4;clear hb4;go_wp2_with (at_builtin; refine Jaf _ rfl (.tmp 43) (.tmp 45) _ rfl Jbq (m:=[x]) (v:=.slice A2 l.length k2) rfl rfl (by exact (HO2.out.below zL).alloc _) (by exact Sl.one_at Jal 3 _ _ _ rfl _ rfl qH1 qI1) Jbd qm0 qy0 qy0 ?_; intro v5 w5 hown5 hg5 _)
    obtain ⟨A5,k5,rfl,_⟩:=hown5.form;obtain ⟨ext5,d5,rfl⟩:=JaA (W:=w.alloc (.cells #[.int .i64 x.session,.int .i64 x.kind,.string x.path] 148)) zL hg5 (by intro k hk; have:=(HO2.out.own_in hk).1; simp at this ⊢; omega)
    refine zA1 (v:=.tuple #[.slice A5 (l ++ [x]).length k5,.int .i64 0]) (by simp [results,Tryz.results77,go_sem]) rfl ⟨A5,k5,rfl,hown5.mono qH1,zL⟩
theorem add_any (v:Value) (l:List Watch) (x:Watch) (w:World) (h:Sl Jal 3 w v l) (hn:(l.length+1)*32<=140737488355328) (hp:x.path.size<=9223372036854775807) :
  Calls Tryz.prog 77 #[v,.agg #[.int .i64 x.session,.int .i64 x.kind,.string x.path]] w (WtRes (addL l x) (addE l x) w):=by
 unfold addL addE
 by_cases hok:okW x
 ·rw [if_pos hok,if_pos hok]
  exact add_yes v l x w h hn hp hok
 ·rw [if_neg hok,if_neg hok]
  exact add_no v x w hp hok
end
end Go.Proofs.YtjnooagaghdkdaaGreatDoor
