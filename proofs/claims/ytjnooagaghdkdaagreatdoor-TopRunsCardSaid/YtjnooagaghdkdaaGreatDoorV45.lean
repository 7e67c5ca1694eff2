/-L-/
import Derived.Test.YtjnooagaghdkdaaGreatDoorV44
set_option maxHeartbeats 10000000
set_option maxRecDepth 100000
set_option linter.all false
namespace Go.Proofs.YtjnooagaghdkdaaGreatDoor
section
open Go.RowKit Go.ChangeShapes Go.WideShapes Go.ChangeAt
theorem neq_stat (s1 s2 s3 s4 s5 s6 s7:Int) (w:World):(binOp .neq 32 (.agg #[.int .i64 s1,.int .i64 s2,.int .i64 s3,.int .i64 s4,.int .i64 s5,.int .i64 s6,.int .i64 s7]) (.agg #[.int .i64 s1,.int .i64 s2,.int .i64 s3,.int .i64 s4,.int .i64 s5,.int .i64 s6,.int .i64 s7])).run Tryz.prog w=.ok (.bool false) w:=by
 simp [go_sem]
theorem neq_note (s k:Int) (p:ByteArray) (w:World):(binOp .neq 80 (.agg #[.int .i64 s,.int .i64 k,.string p]) (.agg #[.int .i64 s,.int .i64 k,.string p])).run Tryz.prog w=.ok (.bool false) w:=by
 simp [go_sem]
theorem same_is (r:Rp) (A:Option Addr) (c:Nat) (A2:Option Addr) (c2:Nat) (w:World) (h:Sl Jbl 3 w (.slice A r.notes.length c) r.notes) (h2:Sl Jbl 3 w (.slice A2 r.notes.length c2) r.notes) :
  Calls Tryz.prog 24 #[rpV r A c,rpV r A2 c2] w (fun e w'=>e=.returned (.bool true)/\Below w.heap.size w w'):=by
 have H:=zA0 h;have H2:=zA0 h2;have hcp:=h.caps;clear h h2;obtain ⟨rc,rz,rpa,rda,⟨s1,s2,s3,s4,s5,s6,s7⟩,rns⟩:=r;simp only [rpV] at *;have hlm:rns.length<=maxLen:=zB4 hcp.1 hcp.2;simp only [maxLen] at hlm;clear hcp;have qS:=fun w=>neq_stat s1 s2 s3 s4 s5 s6 s7 w
 go_enter Tryz.func24,Tryz.ntmps24
 go_upto_region 1 with fail
 refine Jaq (fun W1 hW1=>?_)
 have HB1:=zA0 (show Below w.heap.size w W1 by rw [hW1.out]; exact zR)
 have x0:W1.cell? ⟨w.heap.size,0,none⟩=some (.int .i64 rc):=qHE;have x1:W1.cell? ⟨w.heap.size,1,none⟩=some (.int .i64 rz):=qHE;have x2:W1.cell? ⟨w.heap.size,2,none⟩=some (.string rpa):=qHE;have x3:W1.cell? ⟨w.heap.size,3,none⟩=some (.string rda):=qHE;have x4:W1.cell? ⟨w.heap.size,4,none⟩=some (.int .i64 s1):=qHE;have x5:W1.cell? ⟨w.heap.size,5,none⟩=some (.int .i64 s2):=qHE;have x6:W1.cell? ⟨w.heap.size,6,none⟩=some (.int .i64 s3):=qHE;have x7:W1.cell? ⟨w.heap.size,7,none⟩=some (.int .i64 s4):=qHE;have x8:W1.cell? ⟨w.heap.size,8,none⟩=some (.int .i64 s5):=qHE;have x9:W1.cell? ⟨w.heap.size,9,none⟩=some (.int .i64 s6):=qHE;have x10:W1.cell? ⟨w.heap.size,10,none⟩=some (.int .i64 s7):=qHE;have x11:W1.cell? ⟨w.heap.size,11,none⟩=some (.slice A rns.length c):=qHE;have y0:W1.cell? ⟨w.heap.size+1,0,none⟩=some (.int .i64 rc):=qHE;have y1:W1.cell? ⟨w.heap.size+1,1,none⟩=some (.int .i64 rz):=qHE;have y2:W1.cell? ⟨w.heap.size+1,2,none⟩=some (.string rpa):=qHE;have y3:W1.cell? ⟨w.heap.size+1,3,none⟩=some (.string rda):=qHE;have y4:W1.cell? ⟨w.heap.size+1,4,none⟩=some (.int .i64 s1):=qHE;have y5:W1.cell? ⟨w.heap.size+1,5,none⟩=some (.int .i64 s2):=qHE;have y6:W1.cell? ⟨w.heap.size+1,6,none⟩=some (.int .i64 s3):=qHE;have y7:W1.cell? ⟨w.heap.size+1,7,none⟩=some (.int .i64 s4):=qHE;have y8:W1.cell? ⟨w.heap.size+1,8,none⟩=some (.int .i64 s5):=qHE;have y9:W1.cell? ⟨w.heap.size+1,9,none⟩=some (.int .i64 s6):=qHE;have y10:W1.cell? ⟨w.heap.size+1,10,none⟩=some (.int .i64 s7):=qHE;have y11:W1.cell? ⟨w.heap.size+1,11,none⟩=some (.slice A2 rns.length c2):=qHE;have hs1:w.heap.size+2<=W1.heap.size:=by rw [hW1.out]; simp
 clear hW1;go_wp2_with fail;have HX:=zA0 x11;have HY:=zA0 y11;clear x0 x1 x2 x3 x4 x5 x6 x7 x8 x9 x10 x11 y0 y1 y2 y3 y4 y5 y6 y7 y8 y9 y10 y11 qS;go_loopw [5] (fun i wr=>∃ m:Nat,m<=rns.length/\i=.int .i64 m/\Below W1.heap.size W1 wr) (fun i _=>rns.length - (intOf i).toNat)
 case atStart=>exact ⟨0,zB7 _,rfl,zB5 _ _⟩
 case round=>
  obtain ⟨m,hm,rfl,hbr⟩:=hrel;have z1:=(hbr.cell (p:=⟨w.heap.size,11,none⟩) qv0).trans HX.out;have z2:=(hbr.cell (p:=⟨w.heap.size+1,11,none⟩) qv0).trans HY.out;have hsr:=hbr.size
  by_cases hlt:m<rns.length
  ·have hix:rns[m]?=some (rns[m]'hlt):=zA4 _
   obtain ⟨b1,o1,hA,hb1,u0,u1,u2⟩:=((H.out.below HB1.out).below hbr).Note_at hix;subst hA;obtain ⟨b2,o2,hA,hb2,v0,v1,v2⟩:=((H2.out.below HB1.out).below hbr).Note_at hix;subst hA;generalize rns[m]'hlt=x at *;have qN:=fun w=>neq_note x.session x.kind x.path w
   have hm0:(0:Int)<=(m:Int):=qCE;have hml:(m:Int)<(rns.length:Int):=qCE;have HB:=zA0 hbr;clear hix hbr;go_wp2_with fail;go_quiet (fail);go_wp2_with fail;go_roundw
   case rel=>exact ⟨m+1,by omega,by go_num,HB.out.trans zR⟩
   case measure=>simp [intOf]; omega
  ·have hnl:decide ((m:Int)<(rns.length:Int))=false:=zA5 qH1
   have hnl2:decide (m<rns.length)=false:=zA5 hlt;have HB:=zA0 (HB1.out.trans (hbr.mono HB1.out.size));clear hbr;go_wp2_with fail;exact zA1 (v:=.bool true) (by simp [results,Tryz.results24,go_sem]) rfl ⟨rfl,HB.out⟩
end
end Go.Proofs.YtjnooagaghdkdaaGreatDoor
