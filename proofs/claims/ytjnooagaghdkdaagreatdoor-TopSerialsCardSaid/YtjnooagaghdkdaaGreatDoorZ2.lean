/-L-/
import Derived.Laws.CopyOwn
import Derived.Lib.AppendZerosOnto
import Derived.Lib.AppendZeros
import Derived.Lib.Overlaps
import Derived.Laws.Externs
import Derived.Deep.RegionLaw
import Derived.Shelf.Small.Strs
import Derived.Shelf.Small.Wraps
import Derived.Shelf.Strconv.Itoa0
import Derived.Shelf.Strconv.Itoa1
import Derived.Shelf.LaysM
import Derived.Shelf.Strconv.Itoa2
import Derived.Shelf.Strconv.Itoa3
import Derived.Shelf.Strings.Search1
import Derived.Shelf.Strings.Search2
import Derived.Shelf.Strings.Search3
import Derived.Shelf.Strings.Cut
import Derived.Shelf.Strings.Shaped
import Derived.Shelf.Strings.LastIndex
import Derived.Shelf.Strings.Prefix
import Derived.Shelf.Unicode.DecodeSlow
import Derived.Shelf.Slices.Reverse
import Derived.Ground.Names2Prog
import Derived.Shelf.Slices.Clone
import Derived.Shelf.Slices.SearchI
import Derived.Shelf.Slices.Delete
import Derived.Shelf.Slices.Cells
import Derived.Shelf.Slices.Empties
import Derived.Test.YtjnooagaghdkdaaGreatDoorProg
import Derived.Lib.ConvBytes
import Derived.Laws.IdiomStrings
import Derived.RangeFuncNested
import Derived.RangeFuncBound
import Derived.RangeFuncCalls
import Derived.RangeFuncLeaves
import Derived.Shelf.Abstract
import Derived.Shelf.RegionOpen
import Derived.OwnWalkIn
import Derived.TacticsInMore
import Derived.LoopNIn
import Derived.LoopIn
import Derived.Lib.IndexLaws
import Derived.Laws.BitsAllLaws
import Derived.Laws.BitsLemmas
import Derived.ChangeOld
import Derived.Deep.RegionHeld3
import Derived.Test.YtjnooagaghdkdaaGreatDoorZ1
set_option maxHeartbeats 10000000
set_option maxRecDepth 100000
set_option linter.all false
namespace Go.Proofs.YtjnooagaghdkdaaGreatDoor
section
open Go.RowKit
theorem Je6:El Tryz.prog 43 3 (.int .i64 0) 1 8:=⟨Tryz.underlying43,by kernel_rfl,rfl,by decide⟩
theorem Jd4:∀ x:Int,∀ u∈cInt x,u.oneCell'=true:=by intro x u hu; simp [cInt] at hu; subst hu; rfl
def Jcq (z:UInt8):List Value:=[.int .u8 z.toNat]
theorem JhF:El Tryz.prog 193 5 (.int .u8 0) 1 1:=⟨Tryz.underlying193,by kernel_rfl,rfl,by decide⟩

structure Watch where
 session:Int
 kind:Int
 path:ByteArray
def Jal (x:Watch):List Value:=[.int .i64 x.session,.int .i64 x.kind,.string x.path]
theorem Jbd:∀ x:Watch,∀ u∈Jal x,u.oneCell'=true:=by
 intro x u hu;simp [Jal] at hu;rcases hu with rfl | rfl | rfl <;> rfl
theorem Sl.Watch_at {w:World} {A:Option Addr} {n c:Nat} {l:List Watch} (h:Sl Jal 3 w (.slice A n c) l) {i:Nat} {x:Watch} (hx:l[i]?=some x):∃ b off,A=some ⟨b,off,none⟩/\b<w.heap.size/\w.cell? ⟨b,off+i*3,none⟩=some (.int .i64 x.session)/\w.cell? ⟨b,off+i*3+1,none⟩=some (.int .i64 x.kind)/\w.cell? ⟨b,off+i*3+2,none⟩=some (.string x.path):=by
 obtain ⟨b,off,rfl,hb,hc⟩:=h.at_ hx;exact ⟨b,off,rfl,hb,hc 0 _ rfl,hc 1 _ rfl,hc 2 _ rfl⟩
theorem Jbq:El Tryz.prog 69 148 (.agg #[.int .i64 0,.int .i64 0,.string ByteArray.empty]) 3 32:=⟨Tryz.underlying69,by kernel_rfl,rfl,by decide⟩

structure Event where
 kind:Int
 path:ByteArray
def JaG (x:Event):List Value:=[.int .i64 x.kind,.string x.path]
theorem Jda:∀ x:Event,∀ u∈JaG x,u.oneCell'=true:=by
 intro x u hu;simp [JaG] at hu;rcases hu with rfl | rfl <;> rfl
theorem Sl.Event_at {w:World} {A:Option Addr} {n c:Nat} {l:List Event} (h:Sl JaG 2 w (.slice A n c) l) {i:Nat} {x:Event} (hx:l[i]?=some x):∃ b off,A=some ⟨b,off,none⟩/\b<w.heap.size/\w.cell? ⟨b,off+i*2,none⟩=some (.int .i64 x.kind)/\w.cell? ⟨b,off+i*2+1,none⟩=some (.string x.path):=by
 obtain ⟨b,off,rfl,hb,hc⟩:=h.at_ hx;exact ⟨b,off,rfl,hb,hc 0 _ rfl,hc 1 _ rfl⟩
theorem JgR:El Tryz.prog 178 78 (.agg #[.int .i64 0,.string ByteArray.empty]) 2 24:=⟨Tryz.underlying178,by kernel_rfl,rfl,by decide⟩

structure Note where
 session:Int
 kind:Int
 path:ByteArray
def JbZ (x:Note):List Value:=[.int .i64 x.session,.int .i64 x.kind,.string x.path]
theorem Jfc:∀ x:Note,∀ u∈JbZ x,u.oneCell'=true:=by
 intro x u hu;simp [JbZ] at hu;rcases hu with rfl | rfl | rfl <;> rfl
theorem Sl.Note_at {w:World} {A:Option Addr} {n c:Nat} {l:List Note} (h:Sl JbZ 3 w (.slice A n c) l) {i:Nat} {x:Note} (hx:l[i]?=some x):∃ b off,A=some ⟨b,off,none⟩/\b<w.heap.size/\w.cell? ⟨b,off+i*3,none⟩=some (.int .i64 x.session)/\w.cell? ⟨b,off+i*3+1,none⟩=some (.int .i64 x.kind)/\w.cell? ⟨b,off+i*3+2,none⟩=some (.string x.path):=by
 obtain ⟨b,off,rfl,hb,hc⟩:=h.at_ hx;exact ⟨b,off,rfl,hb,hc 0 _ rfl,hc 1 _ rfl,hc 2 _ rfl⟩
theorem JlE:El Tryz.prog 33 80 (.agg #[.int .i64 0,.int .i64 0,.string ByteArray.empty]) 3 32:=⟨Tryz.underlying33,by kernel_rfl,rfl,by decide⟩

structure Entry where
 path:ByteArray
 data:ByteArray
 there_:Bool
def Jae (x:Entry):List Value:=[.string x.path,.string x.data,.bool x.there_]
theorem Jct:∀ x:Entry,∀ u∈Jae x,u.oneCell'=true:=by
 intro x u hu;simp [Jae] at hu;rcases hu with rfl | rfl | rfl <;> rfl
theorem Sl.Entry_at {w:World} {A:Option Addr} {n c:Nat} {l:List Entry} (h:Sl Jae 3 w (.slice A n c) l) {i:Nat} {x:Entry} (hx:l[i]?=some x):∃ b off,A=some ⟨b,off,none⟩/\b<w.heap.size/\w.cell? ⟨b,off+i*3,none⟩=some (.string x.path)/\w.cell? ⟨b,off+i*3+1,none⟩=some (.string x.data)/\w.cell? ⟨b,off+i*3+2,none⟩=some (.bool x.there_):=by
 obtain ⟨b,off,rfl,hb,hc⟩:=h.at_ hx;exact ⟨b,off,rfl,hb,hc 0 _ rfl,hc 1 _ rfl,hc 2 _ rfl⟩
theorem Jb3:El Tryz.prog 49 83 (.agg #[.string ByteArray.empty,.string ByteArray.empty,.bool false]) 3 40:=⟨Tryz.underlying49,by kernel_rfl,rfl,by decide⟩

structure Txn where
 zxid:Int
 op:Int
 session:Int
 path:ByteArray
 data:ByteArray
 version:Int
 owner:Int
def cTxn (x:Txn):List Value:=[.int .i64 x.zxid,.int .i64 x.op,.int .i64 x.session,.string x.path,.string x.data,.int .i64 x.version,.int .i64 x.owner]
theorem JbY:∀ x:Txn,∀ u∈cTxn x,u.oneCell'=true:=by
 intro x u hu;simp [cTxn] at hu;rcases hu with rfl | rfl | rfl | rfl | rfl | rfl | rfl <;> rfl
theorem Sl.Txn_at {w:World} {A:Option Addr} {n c:Nat} {l:List Txn} (h:Sl cTxn 7 w (.slice A n c) l) {i:Nat} {x:Txn} (hx:l[i]?=some x):∃ b off,A=some ⟨b,off,none⟩/\b<w.heap.size/\w.cell? ⟨b,off+i*7,none⟩=some (.int .i64 x.zxid)/\w.cell? ⟨b,off+i*7+1,none⟩=some (.int .i64 x.op)/\w.cell? ⟨b,off+i*7+2,none⟩=some (.int .i64 x.session)/\w.cell? ⟨b,off+i*7+3,none⟩=some (.string x.path)/\w.cell? ⟨b,off+i*7+4,none⟩=some (.string x.data)/\w.cell? ⟨b,off+i*7+5,none⟩=some (.int .i64 x.version)/\w.cell? ⟨b,off+i*7+6,none⟩=some (.int .i64 x.owner):=by
 obtain ⟨b,off,rfl,hb,hc⟩:=h.at_ hx;exact ⟨b,off,rfl,hb,hc 0 _ rfl,hc 1 _ rfl,hc 2 _ rfl,hc 3 _ rfl,hc 4 _ rfl,hc 5 _ rfl,hc 6 _ rfl⟩
theorem Jfr:El Tryz.prog 36 39 (.agg #[.int .i64 0,.int .i64 0,.int .i64 0,.string ByteArray.empty,.string ByteArray.empty,.int .i64 0,.int .i64 0]) 7 72:=⟨Tryz.underlying36,by kernel_rfl,rfl,by decide⟩

structure File where
 name:ByteArray
 safe:ByteArray
 tail:ByteArray
def Jaa (x:File):List Value:=[.string x.name,.string x.safe,.string x.tail]
theorem Jc9:∀ x:File,∀ u∈Jaa x,u.oneCell'=true:=by
 intro x u hu;simp [Jaa] at hu;rcases hu with rfl | rfl | rfl <;> rfl
theorem Sl.File_at {w:World} {A:Option Addr} {n c:Nat} {l:List File} (h:Sl Jaa 3 w (.slice A n c) l) {i:Nat} {x:File} (hx:l[i]?=some x):∃ b off,A=some ⟨b,off,none⟩/\b<w.heap.size/\w.cell? ⟨b,off+i*3,none⟩=some (.string x.name)/\w.cell? ⟨b,off+i*3+1,none⟩=some (.string x.safe)/\w.cell? ⟨b,off+i*3+2,none⟩=some (.string x.tail):=by
 obtain ⟨b,off,rfl,hb,hc⟩:=h.at_ hx;exact ⟨b,off,rfl,hb,hc 0 _ rfl,hc 1 _ rfl,hc 2 _ rfl⟩
theorem Jc5:El Tryz.prog 63 128 (.agg #[.string ByteArray.empty,.string ByteArray.empty,.string ByteArray.empty]) 3 48:=⟨Tryz.underlying63,by kernel_rfl,rfl,by decide⟩

structure Node where
 path:ByteArray
 data:ByteArray
 czxid:Int
 mzxid:Int
 pzxid:Int
 version:Int
 cversion:Int
 owner:Int
 kids:Int
def Jab (x:Node):List Value:=[.string x.path,.string x.data,.int .i64 x.czxid,.int .i64 x.mzxid,.int .i64 x.pzxid,.int .i64 x.version,.int .i64 x.cversion,.int .i64 x.owner,.int .i64 x.kids]
theorem Jc8:∀ x:Node,∀ u∈Jab x,u.oneCell'=true:=by
 intro x u hu;simp [Jab] at hu;rcases hu with rfl | rfl | rfl | rfl | rfl | rfl | rfl | rfl | rfl <;> rfl
theorem Sl.Node_at {w:World} {A:Option Addr} {n c:Nat} {l:List Node} (h:Sl Jab 9 w (.slice A n c) l) {i:Nat} {x:Node} (hx:l[i]?=some x):∃ b off,A=some ⟨b,off,none⟩/\b<w.heap.size/\w.cell? ⟨b,off+i*9,none⟩=some (.string x.path)/\w.cell? ⟨b,off+i*9+1,none⟩=some (.string x.data)/\w.cell? ⟨b,off+i*9+2,none⟩=some (.int .i64 x.czxid)/\w.cell? ⟨b,off+i*9+3,none⟩=some (.int .i64 x.mzxid)/\w.cell? ⟨b,off+i*9+4,none⟩=some (.int .i64 x.pzxid)/\w.cell? ⟨b,off+i*9+5,none⟩=some (.int .i64 x.version)/\w.cell? ⟨b,off+i*9+6,none⟩=some (.int .i64 x.cversion)/\w.cell? ⟨b,off+i*9+7,none⟩=some (.int .i64 x.owner)/\w.cell? ⟨b,off+i*9+8,none⟩=some (.int .i64 x.kids):=by
 obtain ⟨b,off,rfl,hb,hc⟩:=h.at_ hx;exact ⟨b,off,rfl,hb,hc 0 _ rfl,hc 1 _ rfl,hc 2 _ rfl,hc 3 _ rfl,hc 4 _ rfl,hc 5 _ rfl,hc 6 _ rfl,hc 7 _ rfl,hc 8 _ rfl⟩
theorem Jc4:El Tryz.prog 66 75 (.agg #[.string ByteArray.empty,.string ByteArray.empty,.int .i64 0,.int .i64 0,.int .i64 0,.int .i64 0,.int .i64 0,.int .i64 0,.int .i64 0]) 9 88:=⟨Tryz.underlying66,by kernel_rfl,rfl,by decide⟩

structure Request where
 op:Int
 session:Int
 path:ByteArray
 data:ByteArray
 version:Int
 flags:Int
structure Deed where
 kind:Int
 client:Int
 server:Int
 op:Int
 session:Int
 path:ByteArray
 data:ByteArray
 version:Int
 flags:Int
 lost:Int
 slow:Int
 keep:Int
 watch:Bool
def Bk (w:World) (g:Nat) (cs:List Value) (t:TypeId):Prop:=w.heap[g]?=some (.cells cs.toArray t (0,0))
theorem Bk.lt {w:World} {g:Nat} {cs:List Value} {t:TypeId} (h:Bk w g cs t):g<w.heap.size:=(zL2.1 h).1
theorem Bk.cell {w:World} {g:Nat} {cs:List Value} {t:TypeId} (h:Bk w g cs t) (i:Nat):w.cell? ⟨g,i,none⟩=cs[i]?:=by unfold Bk at h; simp [World.cell?,h]
theorem Bk.frozen {w:World} {g:Nat} {cs:List Value} {t:TypeId} (h:Bk w g cs t) (i:Nat):w.frozen? ⟨g,i,none⟩=false:=by unfold Bk at h; simp [World.frozen?,h]
theorem Bk.grown {w w':World} {g:Nat} {cs:List Value} {t:TypeId} {row:Option Nat} (h:Bk w g cs t) (hg:w.grownBy w' row) (hne:some g≠row):Bk w' g cs t:=(hg.block g h.lt hne).trans h
theorem Bk.below {w w':World} {g:Nat} {cs:List Value} {t:TypeId} (h:Bk w g cs t) (hb:Below w.heap.size w w'):Bk w' g cs t:=(hb.block g h.lt).trans h

theorem ins1 {α:Type} (A B J X:List α) (h:X.length<=J.length):splice (splice (A ++ B ++ J) (A.length+X.length) B) A.length X=A ++ X ++ B ++ J.drop X.length:=by
 unfold splice;have e1:((A ++ B ++ J).take (A.length+X.length)).length=A.length+X.length:=qXE;have e2:(A ++ B ++ J).drop (A.length+X.length+B.length)=J.drop X.length:=by
  rw [zO1,zO9 qy0,zE0];congr 1;simp;omega
 have e3:(((A ++ B ++ J).take (A.length+X.length)) ++ (B ++ (A ++ B ++ J).drop (A.length+X.length+B.length))).take A.length=A:=by
  rw [zK5 (by rw [e1]; omega),zN9,zF8 qH1,zC0,zH2]
 have e4:(((A ++ B ++ J).take (A.length+X.length)) ++ (B ++ (A ++ B ++ J).drop (A.length+X.length+B.length))).drop (A.length+X.length)=B ++ (A ++ B ++ J).drop (A.length+X.length+B.length):=by
  rw [List.drop_append_of_le_length (by rw [e1]; omega),zO9 (by rw [e1]; omega),zE0]
 rw [e3,e4,e2];simp
theorem ins2 {α:Type} (A Z B X:List α):splice (splice (A ++ Z) A.length X) (A.length+X.length) B=A ++ X ++ B ++ Z.drop (X.length+B.length):=by
 unfold splice;rw [zH2];have e1:(A ++ Z).drop (A.length+X.length)=Z.drop X.length:=by rw [zO1,zO9 qH1]; simp
 rw [e1];have e2:(A ++ (X ++ Z.drop X.length)).take (A.length+X.length)=A ++ X:=by rw [<-zC0,<-zA9,zH2]
 have e3:(A ++ (X ++ Z.drop X.length)).drop (A.length+X.length+B.length)=Z.drop (X.length+B.length):=by
  rw [<-zC0,<-zA9,<-zJ2,zN0,zJ2]
 rw [e2,e3];simp
theorem Jbv {α:Type} (L:List α) (o:Nat) (cs:List α) (h:o+cs.length<=L.length):(splice L o cs).length=L.length:=length_splice L o cs h

section
variable {P:Program}
theorem Ji4 {w:World} {dT sT ty e:TypeId} {s g o dLen dCap:Nat} {a:Addr} {sLen sCap:Nat} {cur:List Value} {t:TypeId} {cs:List Value}
  (hu:P.underlying dT=some (.slice e)) (hs:(P.info? e).map (·.size)=some s) (hg:Bk w g cur t) (hn:cs.length=Nat.min sLen dLen*s)
  (hsrc:∀ j v,cs[j]?=some v->w.cell? (a.add j)=some v) (hfit:o+cs.length<=cur.length) (h1:∀ v∈cs,v.oneCell'=true) :
  (Builtin.copy_ #[dT,sT] ty #[.slice (some ⟨g,o,none⟩) dLen dCap,.slice (some a) sLen sCap]).run P w =
   .ok (goInt (Nat.min sLen dLen)) (w.setRow g (splice cur o cs).toArray):=by
 have hl:=run_firstCells_some (P:=P) w s (Nat.min sLen dLen) a sLen sCap cs hn hsrc;have hst:=run_storeCells_at P g o t cs 0 cur.toArray w hg (by simpa using hfit) h1
 cases hq:P.info? e with
 | none=>simp [hq] at hs
 | some i=>
  have hi:i.size=s:=by simpa [hq] using hs
  simp only [Nat.min_def] at hl;simp [Builtin.copy_,run_underlying hu,Builtin.lenOf,sizeOf,typeInfo,hq,hi,hl,hst,splice,Nat.min_def]
theorem JgD (w:World) (need old:Nat) (e:TypeId) (h:need<=maxLen):need<=grownCap w need old e/\grownCap w need old e<=maxLen:=⟨grownCap_ge _ _ _ _,grownCap_le_maxLen _ _ _ _ h⟩
theorem Jdd {w:World} {ops:Array Oper} {rest:List Oper} {o:Oper} {a:Act} {Q:Exit->Act->World->Prop} (hgd:o.guard=none) (sv x:Operand) (t tn:TypeId)
  (ho:o.op=.call { callee:=.builtin .append,args:=#[sv,x],argTypes:=#[t,tn] }) {e:TypeId} {z:Value} {s bytes:Nat} (E:El P t e z s bytes) {kn:IntKind} (htn:P.underlying tn=some (.int kn))
  {g k c cnt:Nat} {cur:List Value} {et:TypeId} (hs:a.eval sv=.slice (some ⟨g,0,none⟩) k c) (hx:a.eval x=.int .i64 (cnt:Int)) (hg:Bk w g cur et) (hk:k*s<=cur.length) (h0:0<cnt) (hc:c<k+cnt)
  (h63:k+cnt<=maxLen) (hbytes:(k+cnt)*bytes<=140737488355328)
  (h:∀ w1 (Z:List Value) (cap:Nat),Bk w1 w.heap.size (cur.take (k*s) ++ Z) e->Z.length=(cap - k)*s->k+cnt<=cap->cap<=maxLen->w.grownBy w1 none->w1.heap.size=w.heap.size+1->
   wpList P ops Q rest (a.put o.dst (.slice (some ⟨w.heap.size,0,none⟩) (k+cnt) cap)) w1):wpList P ops Q (o :: rest) a w:=by
 obtain ⟨i,hi,hz,hsz,hby⟩:=Jet E.info;have hcells:∀ j v,(cur.take (k*s))[j]?=some v->w.drew.cell? ((⟨g,0,none⟩:Addr).add j)=some v:=by
  intro j v hj;have hadd:(⟨g,0,none⟩:Addr).add j=⟨g,j,none⟩:=by unfold Addr.add; split <;> simp_all
  rw [zM7] at hj;split at hj
  ·rw [hadd]
   show w.cell? _=_;rw [hg.cell,hj]
  ·cases hj
 have hold:=run_firstCells_some (P:=P) w.drew i.size k ⟨g,0,none⟩ k c (cur.take (k*s)) (by rw [zC2,hsz]; omega) hcells
 have hb1:cnt*bytes<=281474976710656:=by
  have:cnt*bytes<=(k+cnt)*bytes:=zL1 _ qH1;omega
 have hr:=Lib.run_append_grow_zeros (P:=P) w t tn o.type e i z .i64 kn E.slice htn hi hz (some ⟨g,0,none⟩) k c (cur.take (k*s)) hold cnt h0 (by rw [hsz]; exact E.pos) hc
  (by simp [maxLen] at h63; omega) (by rw [hby]; exact hb1) (by rw [hby]; exact growslice_fits hc hbytes)
 obtain ⟨hc1,hc2⟩:=JgD w (k+cnt) c e h63;refine Lib.wpList_append_run w hgd sv x t tn ho _ _ hs hx _ _ hr ?_;refine h _ (Builtin.zeroCells z.cells cnt ++ Builtin.zeroCells z.cells (grownCap w (k+cnt) c e - (k+cnt))).toList _ ?_ ?_ hc1 hc2 ⟨rfl,rfl,rfl,by simp,fun j hj _=>heap_alloc_old w.drew _ hj⟩ qI1
 ·have:=heap_alloc_new w.drew (.cells ((cur.take (k*s)).toArray ++ Builtin.zeroCells z.cells cnt ++ Builtin.zeroCells z.cells (grownCap w (k+cnt) c e - (k+cnt))) e)
  unfold Bk;rw [show ((cur.take (k*s) ++ (Builtin.zeroCells z.cells cnt ++ Builtin.zeroCells z.cells (grownCap w (k+cnt) c e - (k+cnt))).toList).toArray:Array Value)=(cur.take (k*s)).toArray ++ Builtin.zeroCells z.cells cnt ++ Builtin.zeroCells z.cells (grownCap w (k+cnt) c e - (k+cnt)) from by apply Array.ext'; simp]
  exact this
 ·simp only [Array.toList_append,zA9,Array.length_toList,size_zeroCells,E.cells]
  rw [<-Nat.add_mul];congr 1;omega
theorem Jfw (w:World) (g:Nat) (cs:Array Value):w.grownBy (w.setRow g cs) (some g):=
 ⟨rfl,rfl,rfl,by simp [World.setRow],fun k hk hne=>setRow_other w g k cs (fun h=>hne (by rw [h]))⟩
theorem Bk.setRow {w:World} {g:Nat} {cur cs:List Value} {t:TypeId} (h:Bk w g cur t):Bk (w.setRow g cs.toArray) g cs t:=setRow_heap w g _ _ t _ h
theorem wp_cp {w:World} {o:Oper} {a:Act} {K:Act->World->Prop} {Q:Exit->Act->World->Prop} (d x:Operand) (dT sT:TypeId)
  (ho:o.op=.call { callee:=.builtin .copy,args:=#[d,x],argTypes:=#[dT,sT] }) {e:TypeId} {z:Value} {s bytes:Nat} (E:El P dT e z s bytes) {g off dLen dCap:Nat} {ad:Addr} {sLen sCap:Nat} {cur:List Value} {t:TypeId} {cs:List Value}
  (hd:a.eval d=.slice (some ⟨g,off,none⟩) dLen dCap) (hx:a.eval x=.slice (some ad) sLen sCap) (hg:Bk w g cur t) (hn:cs.length=Nat.min sLen dLen*s)
  (hsrc:∀ j v,cs[j]?=some v->w.cell? (ad.add j)=some v) (hfit:off+cs.length<=cur.length) (h1:∀ v∈cs,v.oneCell'=true)
  (h:∀ w',Bk w' g (splice cur off cs) t->w.grownBy w' (some g)->w'.heap.size=w.heap.size->K (a.put o.dst (goInt (Nat.min sLen dLen))) w'):o.wp P a w K Q:=by
 have hr:=Ji4 (P:=P) (ty:=o.type) (sT:=sT) (dCap:=dCap) (sCap:=sCap) E.slice (by obtain ⟨i,hi,_,hsz,_⟩:=Jet E.info; rw [hi,<-hsz]; rfl) hg hn hsrc hfit h1
 unfold Oper.wp execOp;simp only [ho,resolve,invoke,builtin,Sem.run_bind,Sem.run_pure,Result.andThen_ok,zQ9,zH8,List.map_nil,hd,hx,hr];exact h _ hg.setRow (Jfw _ _ _) (by simp [World.setRow])
theorem Jb8 {w:World} {ops:Array Oper} {rest:List Oper} {o:Oper} {a:Act} {Q:Exit->Act->World->Prop} (hgd:o.guard=none) (d x:Operand) (dT sT:TypeId)
  (ho:o.op=.call { callee:=.builtin .copy,args:=#[d,x],argTypes:=#[dT,sT] }) {e:TypeId} {z:Value} {s bytes:Nat} (E:El P dT e z s bytes) {g off dLen dCap:Nat} {ad:Addr} {sLen sCap:Nat} {cur:List Value} {t:TypeId} {cs:List Value}
  (hd:a.eval d=.slice (some ⟨g,off,none⟩) dLen dCap) (hx:a.eval x=.slice (some ad) sLen sCap) (hg:Bk w g cur t) (hn:cs.length=Nat.min sLen dLen*s)
  (hsrc:∀ j v,cs[j]?=some v->w.cell? (ad.add j)=some v) (hfit:off+cs.length<=cur.length) (h1:∀ v∈cs,v.oneCell'=true)
  (h:∀ w',Bk w' g (splice cur off cs) t->w.grownBy w' (some g)->w'.heap.size=w.heap.size->wpList P ops Q rest (a.put o.dst (goInt (Nat.min sLen dLen))) w'):wpList P ops Q (o :: rest) a w:=
 wpList_plain hgd fun _ hK=>wp_cp d x dT sT ho E hd hx hg hn hsrc hfit h1 fun w' h2 h3 h4=>hK _ _ (h w' h2 h3 h4)
theorem Jdy {w:World} {ops:Array Oper} {o:Oper} {a:Act} {K:Act->World->Prop} {Q:Exit->Act->World->Prop} {EE:Prop} (hgd:o.guard=none) (d x:Operand) (dT sT:TypeId)
  (ho:o.op=.call { callee:=.builtin .copy,args:=#[d,x],argTypes:=#[dT,sT] }) {e:TypeId} {z:Value} {s bytes:Nat} (E:El P dT e z s bytes) {g off dLen dCap:Nat} {ad:Addr} {sLen sCap:Nat} {cur:List Value} {t:TypeId} {cs:List Value}
  (hd:a.eval d=.slice (some ⟨g,off,none⟩) dLen dCap) (hx:a.eval x=.slice (some ad) sLen sCap) (hg:Bk w g cur t) (hn:cs.length=Nat.min sLen dLen*s)
  (hsrc:∀ j v,cs[j]?=some v->w.cell? (ad.add j)=some v) (hfit:off+cs.length<=cur.length) (h1:∀ v∈cs,v.oneCell'=true)
  (h:∀ w',Bk w' g (splice cur off cs) t->w.grownBy w' (some g)->w'.heap.size=w.heap.size->K (a.put o.dst (goInt (Nat.min sLen dLen))) w'):if Region.wanted o (yielded ops a.tmps)=true then Oper.wp P o a w K Q else EE:=by
 have hw:Region.wanted o (yielded ops a.tmps)=true:=by simp [Region.wanted,hgd]
 rw [if_pos hw];exact wp_cp d x dT sT ho E hd hx hg hn hsrc hfit h1 h
theorem Jbl {ops:Array Oper} {rest:List Oper} {d:Option Tmp} {args:Array Operand} {ts:Array TypeId} {ty:TypeId} {pos:String} {af:Array Edge} {g:Option (Nat × Bool)} {a:Act} {w:World} {Q:Exit->Act->World->Prop}
  (h:wpList P ops Q (⟨d,.call { callee:=.builtin .copy,args:=args,argTypes:=ts },ty,pos,af,g⟩ :: rest) a w):wpList P ops Q (⟨d,.call { callee:=.builtin .copy,args:=args,argTypes:=ts },ty,pos,af,g⟩ :: rest) a w:=h
theorem Bk.shape {w:World} {g:Nat} {cs:List Value} {t:TypeId} (h:Bk w g cs t):w.shape? g=some (t,cs.length):=by unfold Bk at h; simp [World.shape?,h]
theorem Jdi {F : FuncId} {fn : Func} {tS tB e : TypeId} {z : Value} {s bytes : Nat} (E : El P tS e z s bytes) (hf : P.funcs[F]? = some fn) (hname : (fn.name == "runtime.NumGoroutine") = false)
  (hb:fn.body.isNone=true) (hn:Extern.findNext fn=none) (he:Extern.find fn=some (Extern.SlicesOverlaps.overlaps #[tS,tS] #[tB])) {w:World} {g vb:Nat} {xs cur:List Value} {t t':TypeId} (hv:Bk w vb xs t) (hg:Bk w g cur t') (hne:vb≠g) (h0:cur.length≠0)
  (off la ca lb cb:Nat):(callFunc F #[.slice (some ⟨vb,0,none⟩) la ca,.slice (some ⟨g,off,none⟩) lb cb]).run P w=.ok (.value (.bool false)) w:=by
 rw [run_callFunc_extern hf hname hb hn he,Lib.run_overlaps_apart w tS tB e E.slice s (fun w=>by obtain ⟨i,hi,_,hsz,_⟩:=Jet E.info; simp [sizeOf,typeInfo,hi,hsz]) ⟨vb,0,none⟩ ⟨g,off,none⟩ la ca lb cb hne t t' _ _ hv.shape hg.shape h0 (hv.frozen 0) (hv.frozen _)]
 rfl
end
abbrev zI8:=@Jbv
def Jee {α:Type} (f:α->List Value) (s:Nat) (e:TypeId) (B n:Nat) (l:List α) (row:Option Nat) (w:World) (r:Ending) (w':World):Prop:=
 ∃ A c,r=.returned (.slice A n c)/\Ow f s e w' B (.slice A n c) l/\w.grownBy w' row/\((Value.slice A n c).ownBlock=row\/(Value.slice A n c).ownBlock=some w.heap.size)

theorem Ow.is_slice {α:Type} {f:α->List Value} {s:Nat} {e:TypeId} {w:World} {B:Nat} {v:Value} {l:List α} {m:Nat} (h:Ow f s e w B v l) (hm:l.length=m):∃ A c,v=.slice A m c:=by
 obtain ⟨A,c,h,_⟩:=h.form;exact ⟨A,c,by rw [h,hm]⟩
theorem Sl.blk {α:Type} {f:α->List Value} {s:Nat} {w:World} {g:Nat} {x:α} {e:TypeId} (hs:(f x).length=s) (h:Bk w g (f x) e):Sl f s w (.slice (some ⟨g,0,none⟩) 1 1) [x]:=by
 refine ⟨some ⟨g,0,none⟩,1,rfl,zA3 _,by simp [maxLen],by simpa using hs,fun _=>⟨_,_,rfl,h.lt,fun i y hy j u hu=>?_⟩⟩
 cases i with
 | zero=>
  simp at hy;subst hy;rw [show 0+0*s+j=j from by omega,h.cell]
  exact hu
 | succ i=>simp at hy
theorem Ja1 {α:Type} {f:α->List Value} {s:Nat} {l:List α} (hf:∀ x∈l,(f x).length=s) (k:Nat):(l.take k).flatMap f=(l.flatMap f).take (k*s)/\(l.drop k).flatMap f=(l.flatMap f).drop (k*s):=by
 induction l generalizing k with
 | nil=>simp
 | cons y l ih=>
  have hy:(f y).length=s:=hf y qI1;cases k with
  | zero=>simp
  | succ k=>
   have h:=ih (fun z hz=>hf z (by simp [hz])) k
   have e1:(k+1)*s=(f y).length+k*s:=by rw [hy,Nat.succ_mul,Nat.add_comm]
   constructor
   ·rw [zP2,zG2,h.1,zG2,e1,List.take_length_add_append]
   ·rw [List.drop_succ_cons,h.2,zG2,e1,List.drop_length_add_append]
theorem Ow.blk {α:Type} {f:α->List Value} {s:Nat} {e:TypeId} {w:World} {B n c:Nat} {A:Option Addr} {l:List α} (h:Ow f s e w B (.slice A n c) l) (h0:0<n) :
  ∃ g J,A=some ⟨g,0,none⟩/\B<=g/\Bk w g (l.flatMap f ++ J) e/\(l.flatMap f ++ J).length=c*s/\n<=c/\c<=maxLen/\n=l.length:=by
 obtain ⟨_,_,hf1,_⟩:=h.form;injection hf1 with _ e2 _
 rcases h.1.2 with ⟨hn,_⟩ | ⟨g,cap,cur,hv,hB,hg,h1,h2,h3,h4⟩
 ·injection hn with _ e3 _; omega
 ·injection hv with v1 v2 v3
  subst v3;refine ⟨g,cur.toList.drop (l.length*s),v1,hB,?_,?_,by omega,h2,e2⟩
  ·rw [<-h4,zD7]
   unfold Bk;simpa using hg
  ·rw [<-h4,zD7]
   simpa using h3
theorem Ow.of_blk {α:Type} {f:α->List Value} {s:Nat} {e:TypeId} {w:World} {B g c:Nat} {l:List α} {cur J:List Value} (hf:∀ x∈l,(f x).length=s) (hB:B<=g) (hb:Bk w g cur e) (hcur:cur=l.flatMap f ++ J) (hl:cur.length=c*s) (hn:l.length<=c) (hc:c<=maxLen) :
  Ow f s e w B (.slice (some ⟨g,0,none⟩) l.length c) l:=by
 refine ⟨⟨zC5 hf,.inr ⟨g,c,cur.toArray,rfl,hB,hb,hn,hc,by simpa using hl,?_⟩⟩,hf⟩
 rw [<-zC5 hf];simp only [hcur];rw [zH2]

theorem Bk.put {w:World} {g:Nat} {cs:List Value} {t:TypeId} (h:Bk w g cs t) (j:Nat) (v:Value):Bk (w.setCell ⟨g,j,none⟩ v) g (cs.set j v) t:=by
 have hlt:=h.lt;unfold Bk at h ⊢;unfold World.setCell;simp only [zO5,h];simp
theorem JbX (w:World) (g j:Nat) (v:Value):w.grownBy (w.setCell ⟨g,j,none⟩ v) (some g):=by
 refine ⟨rfl,rfl,rfl,by simp [World.setCell],fun k hk hne=>?_⟩
 unfold World.setCell;simp only [zO5];split
 ·rename_i e; subst e; exact absurd rfl hne
 ·rfl
theorem Bk.puts {g:Nat} {t:TypeId}:∀ (vs:List Value) (o:Nat) {w:World} {cs:List Value},Bk w g cs t->o+vs.length<=cs.length->Bk (w.setCells g o vs) g (splice cs o vs) t
 | [],o,w,cs,h,_=>by simpa [World.setCells,splice] using h
 | v :: r,o,w,cs,h,hl=>by
  have:=Bk.puts (t:=t) r (o+1) (h.put o v) (by simp at hl ⊢; omega)
  rw [World.setCells];have e:splice (cs.set o v) (o+1) r=splice cs o (v :: r):=by
   simp only [zD5] at hl;unfold splice;have h1:(cs.set o v).take (o+1)=cs.take o ++ [v]:=by
    rw [zF7,zJ7 qH1,zQ4 qH1];rfl
   rw [h1,zQ5 qH1,zD5,show o+(r.length+1)=o+1+r.length from by omega]
   simp
  rw [<-e];exact this
theorem Jds (g:Nat):∀ (vs:List Value) (o:Nat) (w:World),w.grownBy (w.setCells g o vs) (some g)
 | [],_,_=>World.grownBy.refl _ _
 | v :: r,o,w=>(JbX w g o v).trans (Jds g r (o+1) _)
theorem Jdn {α:Type} {f:α->List Value} {s:Nat} {l:List α} (hf:∀ x∈l,(f x).length=s) {k:Nat} (hk:k<l.length) (x:α) (hx:(f x).length=s) (J:List Value):splice (l.flatMap f ++ J) (k*s) (f x)=(l.set k x).flatMap f ++ J:=by
 have e:l=l.take k ++ l[k] :: l.drop (k+1):=qQE;have hA:((l.take k).flatMap f).length=k*s:=by rw [zC5 (fun y hy=>hf y (zH7 hy)),zC2,zF8 qH1]
 have hm:(f l[k]).length=s:=hf _ (zI1 _);have e2:l.set k x=l.take k ++ x :: l.drop (k+1):=by rw [zR3,if_pos hk]
 rw [e2];have e3:l.flatMap f=(l.take k).flatMap f ++ (f l[k] ++ (l.drop (k+1)).flatMap f):=by
  conv=>lhs; rw [e]
  rw [zF6,zG2]
 rw [e3];unfold splice;rw [zC0,<-hA,zH2,zF6,zG2];have e4:((l.take k).flatMap f ++ (f l[k] ++ (l.drop (k+1)).flatMap f ++ J)).drop (((l.take k).flatMap f).length+(f x).length)=(l.drop (k+1)).flatMap f ++ J:=by
  rw [zC0,<-zJ2,zN0,hx,<-hm,zN0]
 rw [e4];simp
theorem Ow.put {α:Type} {f:α->List Value} {s:Nat} {e:TypeId} {w:World} {B n c g:Nat} {l:List α} {cur J:List Value} (hf:∀ x∈l,(f x).length=s) (hb:Bk w g cur e) (hcur:cur=l.flatMap f ++ J) (hl:cur.length=c*s) (hB:B<=g) (hn:n=l.length) (hc:n<=c) (hcm:c<=maxLen)
  {k:Nat} (hk:k<l.length) (x:α) (hx:(f x).length=s):Ow f s e (w.setCells g (k*s) (f x)) B (.slice (some ⟨g,0,none⟩) n c) (l.set k x):=by
 have hks:k*s+(f x).length<=cur.length:=by
  rw [hl,hx]
  calc k*s+s=(k+1)*s:=(Nat.succ_mul k s).symm
   _<=c*s:=zL1 s qH1
 have h1:=hb.puts (f x) (k*s) hks;rw [hcur,Jdn hf hk x hx J] at h1;have hlen:(l.set k x).length=n:=by rw [zF4,hn]
 rw [<-hlen];refine ⟨⟨zC5 (fun y hy=>?_),.inr ⟨g,c,((l.set k x).flatMap f ++ J).toArray,rfl,hB,h1,by omega,hcm,?_,?_⟩⟩,fun y hy=>?_⟩
 ·rcases zQ7 hy with h | rfl
  ·exact hf y h
  ·exact hx
 ·have h2:=zI8 (l.flatMap f ++ J) (k*s) (f x) (by rw [<-hcur]; exact hks)
  rw [Jdn hf hk x hx J,<-hcur] at h2;simp only [zM9];rw [h2,hl]
 ·rw [<-zC5 (f:=f) (s:=s) (fun y hy=>by rcases zQ7 hy with h | rfl; exact hf y h; exact hx)]
  simp
 ·rcases zQ7 hy with h | rfl
  ·exact hf y h
  ·exact hx
theorem JaA {W w w':World} {row:Option Nat} (hb:Below W.heap.size W w) (hg:w.grownBy w' row) (hrow:∀ k,row=some k->W.heap.size<=k):∃ ext d,w'=grow W ext d:=
 zA2 _ (hb.grown hg hb.size hrow)
theorem Ow.own_in {α:Type} {f:α->List Value} {s:Nat} {e:TypeId} {w:World} {B:Nat} {v:Value} {l:List α} (h:Ow f s e w B v l) {k:Nat} (hk:v.ownBlock=some k):B<=k/\k<w.heap.size:=by
 rcases h.1.2 with ⟨rfl,_⟩ | ⟨g,cap,cur,rfl,hB,hg,_⟩
 ·simp [Value.ownBlock] at hk
 ·obtain rfl:g=k:=by simpa [Value.ownBlock] using hk
  exact ⟨hB,(zL2.1 hg).1⟩
theorem Bk.regrow {W W':World} {ext:Array Obj} {d d' g:Nat} {cs:List Value} {t:TypeId} (h:Bk (grow W ext d) g cs t) (hg:W.heap.size<=g) (hs:W'.heap.size=W.heap.size):Bk (grow W' ext d') g cs t:=by
 unfold Bk grow at h ⊢;simp only [Array.getElem?_append] at h ⊢;rw [if_neg qH1] at h;rw [if_neg qH1,hs];exact h
theorem Bk.cells2 {W:World} {ext:Array Obj} {d g n:Nat} {cs:List Value} {t:TypeId} (h:Bk (grow W ext d) g cs t) (hg:n<=g) (hn:W.heap.size=n) (j:Nat) (v:Value) (hv:cs[j]?=some v) :
  (∀ (W':World) (d':Nat) (e1:Array Obj) (d1:Nat),W'.heap.size=n->(grow (grow W' ext d') e1 d1).cell? ⟨g,j,none⟩=some v)/\(∀ (W':World) (d':Nat) (e1:Array Obj) (d1:Nat),W'.heap.size=n->(grow (grow W' ext d') e1 d1).frozen? ⟨g,j,none⟩=false):=by
 constructor
 ·intro W' d' e1 d1 hs
  have h2:=(h.regrow (W':=W') (d':=d') qH1 qH1).below (Ja8 e1 d1 (zB6 _ _));rw [h2.cell,hv]
 ·intro W' d' e1 d1 hs
  have h2:=(h.regrow (W':=W') (d':=d') qH1 qH1).below (Ja8 e1 d1 (zB6 _ _));exact h2.frozen _
theorem Ow.open3 {α:Type} {f:α->List Value} {e:TypeId} {W:World} {ext:Array Obj} {d B N n c q:Nat} {A:Option Addr} {l:List α} (h:Ow f 3 e (grow W ext d) B (.slice A n c) l) (hB:N<=B) (hN:W.heap.size=N) (hq:q<l.length) :
  ∃ g J,A=some ⟨g,0,none⟩/\N<=g/\Bk (grow W ext d) g (l.flatMap f ++ J) e/\(l.flatMap f ++ J).length=c*3/\n<=c/\c<=maxLen/\n=l.length/\∃ v0 v1 v2,
   (∀ (W':World) (d':Nat) (e1:Array Obj) (d1:Nat),W'.heap.size=N->(grow (grow W' ext d') e1 d1).cell? ⟨g,q*3,none⟩=some v0)/\(∀ (W':World) (d':Nat) (e1:Array Obj) (d1:Nat),W'.heap.size=N->(grow (grow W' ext d') e1 d1).frozen? ⟨g,q*3,none⟩=false)/\
   (∀ (W':World) (d':Nat) (e1:Array Obj) (d1:Nat),W'.heap.size=N->(grow (grow W' ext d') e1 d1).cell? ⟨g,q*3+1,none⟩=some v1)/\(∀ (W':World) (d':Nat) (e1:Array Obj) (d1:Nat),W'.heap.size=N->(grow (grow W' ext d') e1 d1).frozen? ⟨g,q*3+1,none⟩=false)/\
   (∀ (W':World) (d':Nat) (e1:Array Obj) (d1:Nat),W'.heap.size=N->(grow (grow W' ext d') e1 d1).cell? ⟨g,q*3+2,none⟩=some v2)/\(∀ (W':World) (d':Nat) (e1:Array Obj) (d1:Nat),W'.heap.size=N->(grow (grow W' ext d') e1 d1).frozen? ⟨g,q*3+2,none⟩=false):=by
 have hnl:n=l.length:=by obtain ⟨_,_,h1,_⟩:=h.form; injection h1
 obtain ⟨g,J,rfl,hg,hb,hl,h1,h2,h3⟩:=h.blk qH1;obtain ⟨x0,y0⟩:=hb.cells2 (n:=N) qH1 hN (q*3) _ (zA8 (by rw [hl]; omega))
 obtain ⟨x1,y1⟩:=hb.cells2 (n:=N) qH1 hN (q*3+1) _ (zA8 (by rw [hl]; omega))
 obtain ⟨x2,y2⟩:=hb.cells2 (n:=N) qH1 hN (q*3+2) _ (zA8 (by rw [hl]; omega))
 exact ⟨g,J,rfl,by omega,hb,hl,h1,h2,h3,_,_,_,x0,y0,x1,y1,x2,y2⟩
theorem Below.put {w w1:World} {g j:Nat} {v:Value} (h:Below w.heap.size w w1) (hg:w.heap.size<=g):Below w.heap.size w (w1.setCell ⟨g,j,none⟩ v):=
 h.grown (JbX w1 g j v) h.size (by rintro k ⟨⟩; exact hg)
theorem Ow.far {α:Type} {f:α->List Value} {s:Nat} {e:TypeId} {w:World} {B n c g g2 j:Nat} {l:List α} {v:Value} (h:Ow f s e w B (.slice (some ⟨g,0,none⟩) n c) l) (hg:g≠g2):Ow f s e (w.setCell ⟨g2,j,none⟩ v) B (.slice (some ⟨g,0,none⟩) n c) l:=
 h.kept (JbX w g2 j v) (.inr (by simpa [Value.ownBlock] using hg))
theorem Ow.put3 {α:Type} {f:α->List Value} {e:TypeId} {w:World} {B n c g:Nat} {l:List α} {J:List Value} {a0 a1 a2:Value} {L:List α} (hf:∀ x∈l,(f x).length=3) (hb:Bk w g (l.flatMap f ++ J) e) (hl:(l.flatMap f ++ J).length=c*3) (hB:B<=g) (hn:n=l.length) (hc:n<=c) (hcm:c<=maxLen)
  {k:Nat} (hk:k<l.length) (x:α) (hx:f x=[a0,a1,a2]) (hL:L=l.set k x):Ow f 3 e (((w.setCell ⟨g,k*3,none⟩ a0).setCell ⟨g,k*3+1,none⟩ a1).setCell ⟨g,k*3+2,none⟩ a2) B (.slice (some ⟨g,0,none⟩) n c) L:=by
 subst hL;have h:=Ow.put hf hb rfl hl hB hn hc hcm hk x (by rw [hx]; rfl)
 rw [hx] at h;exact h
abbrev zD9:=@JbX
abbrev zI9:=@Jds
section
variable {P:Program}
theorem JiF {z:Value} {s:Nat} (hs:z.cells.size=s) (n:Nat):(Builtin.zeroCells z.cells n).toList.length=n*s:=by simp [size_zeroCells,hs]
theorem JhZ {w:World} {t ty e:TypeId} {z:Value} {s bytes g o n c:Nat} {cur:List Value} {et:TypeId} (E:El P t e z s bytes) (hg:Bk w g cur et) (h1:∀ v∈z.cells,v.oneCell'=true) (hn:0<n) (hfit:o+n*s<=cur.length) :
  (Builtin.clear_ #[t] ty #[.slice (some ⟨g,o,none⟩) n c]).run P w=.ok (.tuple #[]) (w.setRow g (splice cur o (Builtin.zeroCells z.cells n).toList).toArray):=by
 obtain ⟨i,hi,hz,hsz,_⟩:=Jet E.info;obtain ⟨m,rfl⟩:∃ m,n=m+1:=⟨n - 1,by omega⟩
 have hst:=run_storeCells_at P g o et (Builtin.zeroCells z.cells (m+1)).toList 0 cur.toArray w hg (by rw [JiF E.cells]; simpa using hfit) (by
  intro v hv;rw [Array.mem_toList_iff] at hv;simp only [Builtin.zeroCells,Array.mem_map,Array.mem_range] at hv;obtain ⟨k,_,rfl⟩:=hv;have hlt:k % z.cells.size<z.cells.size:=Nat.mod_lt _ (by rw [E.cells]; exact E.pos)
  rw [getElem!_pos z.cells _ hlt];exact h1 _ (Array.getElem_mem _))
 simp [Builtin.clear_,run_underlying E.slice,zeroValue,typeInfo,hi,hz,hst,splice]
theorem Jg2 {w:World} {t ty e:TypeId} {z:Value} {s bytes c:Nat} {A:Option Addr} (E:El P t e z s bytes):(Builtin.clear_ #[t] ty #[.slice A 0 c]).run P w=.ok (.tuple #[]) w:=by
 cases A <;> simp [Builtin.clear_,run_underlying E.slice]
theorem wp_clr {w:World} {o:Oper} {a:Act} {K:Act->World->Prop} {Q:Exit->Act->World->Prop} (d:Operand) (t:TypeId)
  (ho:o.op=.call { callee:=.builtin .clear,args:=#[d],argTypes:=#[t] }) {e:TypeId} {z:Value} {s bytes:Nat} (E:El P t e z s bytes) {g off n c:Nat} {cur:List Value} {et:TypeId}
  (hd:a.eval d=.slice (some ⟨g,off,none⟩) n c) (hg:Bk w g cur et) (h1:∀ v∈z.cells,v.oneCell'=true) (hfit:off+n*s<=cur.length)
  (h:∀ w' cur',Bk w' g cur' et->cur'.length=cur.length->cur'.take off=cur.take off->w.grownBy w' (some g)->w'.heap.size=w.heap.size->K (a.put o.dst (.tuple #[])) w'):o.wp P a w K Q:=by
 rcases zK3 n with rfl | hn
 ·have hr:=Jg2 (P:=P) (w:=w) (ty:=o.type) (c:=c) (A:=some ⟨g,off,none⟩) E
  unfold Oper.wp execOp;simp only [ho,resolve,invoke,builtin,Sem.run_bind,Sem.run_pure,Result.andThen_ok,zQ9,zH8,List.map_nil,hd,hr];exact h _ _ hg rfl rfl ⟨rfl,rfl,rfl,zA3 _,fun _ _ _=>rfl⟩ rfl
 ·have hr:=JhZ (P:=P) (ty:=o.type) (c:=c) E hg h1 hn hfit
  unfold Oper.wp execOp;simp only [ho,resolve,invoke,builtin,Sem.run_bind,Sem.run_pure,Result.andThen_ok,zQ9,zH8,List.map_nil,hd,hr];have hz:=JiF E.cells n;refine h _ _ hg.setRow (zI8 _ _ _ (by rw [hz]; exact hfit)) ?_ (Jfw _ _ _) (by simp [World.setRow])
  unfold splice;rw [zK5 qB1,zN9,Nat.min_self]
theorem Jbu {w:World} {ops:Array Oper} {rest:List Oper} {o:Oper} {a:Act} {Q:Exit->Act->World->Prop} (hgd:o.guard=none) (d:Operand) (t:TypeId)
  (ho:o.op=.call { callee:=.builtin .clear,args:=#[d],argTypes:=#[t] }) {e:TypeId} {z:Value} {s bytes:Nat} (E:El P t e z s bytes) {g off n c:Nat} {cur:List Value} {et:TypeId}
  (hd:a.eval d=.slice (some ⟨g,off,none⟩) n c) (hg:Bk w g cur et) (h1:∀ v∈z.cells,v.oneCell'=true) (hfit:off+n*s<=cur.length)
  (h:∀ w' cur',Bk w' g cur' et->cur'.length=cur.length->cur'.take off=cur.take off->w.grownBy w' (some g)->w'.heap.size=w.heap.size->wpList P ops Q rest (a.put o.dst (.tuple #[])) w'):wpList P ops Q (o :: rest) a w:=
 wpList_plain hgd fun _ hK=>wp_clr d t ho E hd hg h1 hfit fun w' cur' h2 h3 h4 h5 h6=>hK _ _ (h w' cur' h2 h3 h4 h5 h6)
theorem JaZ {ops:Array Oper} {rest:List Oper} {d:Option Tmp} {args:Array Operand} {ts:Array TypeId} {ty:TypeId} {pos:String} {af:Array Edge} {g:Option (Nat × Bool)} {a:Act} {w:World} {Q:Exit->Act->World->Prop}
  (h:wpList P ops Q (⟨d,.call { callee:=.builtin .clear,args:=args,argTypes:=ts },ty,pos,af,g⟩ :: rest) a w):wpList P ops Q (⟨d,.call { callee:=.builtin .clear,args:=args,argTypes:=ts },ty,pos,af,g⟩ :: rest) a w:=h
end
theorem JcB {P:Program} {w:World} {ops:Array Oper} {o:Oper} {a:Act} {K:Act->World->Prop} {Q:Exit->Act->World->Prop} {EE:Prop} (hgd:o.guard=none) (sv x:Operand) (t:TypeId)
  (ho:o.op=.call { callee:=.builtin .append,args:=#[sv,x],argTypes:=#[t,t] }) {e:TypeId} {z:Value} {s bytes:Nat} (E:El P t e z s bytes) {g k c off m cc:Nat} {cur news:List Value} {et:TypeId}
  (hs:a.eval sv=.slice (some ⟨g,0,none⟩) k c) (hx:a.eval x=.slice (some ⟨g,off,none⟩) m cc) (hg:Bk w g cur et) (hn:news.length=m*s) (hsrc:∀ j v,news[j]?=some v->cur[off+j]?=some v)
  (hroom:k+m<=c) (hfit:k*s+news.length<=cur.length) (h1:∀ v∈news,v.oneCell'=true)
  (h:∀ w',Bk w' g (splice cur (k*s) news) et->w.grownBy w' (some g)->w'.heap.size=w.heap.size->K (a.put o.dst (.slice (some ⟨g,0,none⟩) (k+m) c)) w'):if Region.wanted o (yielded ops a.tmps)=true then Oper.wp P o a w K Q else EE:=by
 obtain ⟨i,hi,_,hsz,_⟩:=Jet E.info;refine step_append_room hgd sv x t ho e i s E.slice hi hsz g 0 k c hs ⟨g,off,none⟩ m cc news hx hn (fun j u hu=>?_) h1 hroom (fun j hj=>?_) ?_
 ·rw [Addr.add_lit,hg.cell]
  exact hsrc j u hu
 ·rw [zG3,hg.cell,hg.frozen]
  refine ⟨?_,rfl⟩;rw [zA8 qH1];rfl
 ·rw [zG3]
  refine h _ (hg.puts news (k*s) hfit) (zI9 g news (k*s) w) ?_;have key:∀ (vs:List Value) (o:Nat) (w:World),(w.setCells g o vs).heap.size=w.heap.size:=by
   intro vs
   induction vs with
   | nil=>intro o w; rfl
   | cons v r ih=>intro o w; rw [World.setCells,ih]; simp [World.setCell]
  exact key _ _ _
theorem Je9 {α:Type} {f:α->List Value} {s:Nat} {l:List α} (hf:∀ x∈l,(f x).length=s) (k:Nat):(l.flatMap f).drop (k*s)=(l.drop k).flatMap f:=by
 rcases zD1 l.length k with h | h
 ·rw [zO9 (by rw [zC5 hf]; exact zL1 s qH1),zO9 qH1]
  rfl
 ·have e:l.flatMap f=(l.take k).flatMap f ++ (l.drop k).flatMap f:=by rw [<-zF6,zD7]
  rw [e,<-show ((l.take k).flatMap f).length=k*s from by rw [zC5 (fun x hx=>hf x (zH7 hx)),zC2,zF8 h],zN0]
theorem JdT {α:Type} {f:α->List Value} {s:Nat} {l:List α} (hf:∀ x∈l,(f x).length=s) {k:Nat} (h:k<=l.length) (J:List Value):(l.flatMap f ++ J).take (k*s)=(l.take k).flatMap f:=by
 have e:l.flatMap f=(l.take k).flatMap f ++ (l.drop k).flatMap f:=by rw [<-zF6,zD7]
 rw [e,zC0,<-show ((l.take k).flatMap f).length=k*s from by rw [zC5 (fun x hx=>hf x (zH7 hx)),zC2,zF8 h],zH2]
theorem Jit (g n c k j m q:Nat) (cur news:List Value) (w:World) (hb:Bk w g cur 83) (hnews:news.length=m*3) (hsrc:∀ (i:Nat) (v:Value),news[i]?=some v->cur[j*3+i]?=some v)
  (hone:∀ v∈news,v.oneCell'=true) (hlen:cur.length=c*3) (hj:j=k+1) (hm:k+m=q) (hn:n=q+1) (hnc:n<=c) (hc:c<=9223372036854775807) :
  Calls Tryz.prog 155 #[.slice (some ⟨g,0,none⟩) n c,.int .i64 k,.int .i64 j] w fun e w'=>e=.returned (.slice (some ⟨g,0,none⟩) q c)/\
   Hid (∃ cur',Bk w' g cur' 83/\cur'.length=cur.length/\cur'.take (q*3)=(splice cur (k*3) news).take (q*3)/\w.grownBy w' (some g)):=by
 have HB:=zA0 hb;have HO:=zA0 hone;have HN:=zA0 hnews;have HS:=zA0 hsrc;have HL:=zA0 hlen;have hkc:(k:Int)<=(c:Int):=qCE;have hjn:(j:Int)<=(n:Int):=qCE;have hnci:(n:Int)<=(c:Int):=qCE;have hqn:(q:Int)<=(n:Int):=qCE;have hqc:(q:Int)<=(c:Int):=qCE;have hkj:(k:Int)<=(j:Int):=qCE;have hkk:((k:Int) == (j:Int))=false:=zB7.2 qH1;have hnq:n - q=1:=qCE;have HQ:=zA0 hn;have HJ:=zA0 hj;have HBD:Hid (Bk w.drew g cur 83):=HB;clear hb hone hnews hsrc hlen
 by_cases hcj:c=j
 ·have hm0:m=0:=by omega
  subst hm0;rw [zH9] at hm;subst hm;have hn0:news=[]:=zK2 (by simpa using HN.out)
  have HN0:=zA0 hn0;have hnj:n=j:=qCE;subst hnj;subst hcj;clear hn hj hn0;go_enter Tryz.func155,Tryz.ntmps155
  go_wp2_with fail;go_region_law (first | (refine JcB rfl (.tmp 22) (.tmp 25) _ rfl Jb3 (g:=g) (k:=k) (c:=c) (off:=0) (m:=0) (cc:=0) (news:=news) qi0 qi0 HBD.out (by rw [HN0.out]; rfl) (by rw [HN0.out]; simp) qH1 qZ0 HO.out ?_; intro w2 hb2 hg2 hz2; have HB2:=zA0 hb2; have HG2:=zA0 hg2; have HZ2:=zA0 hz2; clear hb2 hg2 hz2))
  have hsl:(splice cur (k*3) news).length=c*3:=qLE;have HSL:=zA0 hsl;clear hsl;go_wp2_with (first | (with_reducible refine JaZ ?_); (refine Jbu rfl (.tmp 31) _ rfl Jb3 (off:=k*3) (n:=1) rfl HB2.out qG1 (by rw [HSL.out]; omega) ?_; intro w3 cur3 hb3 hl3 ht3 hg3 _; have HB3:=zA0 hb3; have HL3:=zA0 hl3; have HT3:=zA0 ht3; have HG3:=zA0 hg3; clear hb3 hl3 ht3 hg3))
  refine zA1 (v:=.slice (some ⟨g,0,none⟩) k c) (by simp [results,Tryz.results155,go_sem]) rfl ⟨rfl,zA0 ⟨cur3,HB3.out,by rw [HL3.out,HSL.out,HL.out],HT3.out,?_⟩⟩
  exact (show w.grownBy w2 (some g) from ⟨HG2.out.os,HG2.out.tape,HG2.out.output,HG2.out.size,HG2.out.block⟩).trans HG3.out
 ·clear hn hj
  go_enter Tryz.func155,Tryz.ntmps155
  go_wp2_with fail;go_region_law (first | (refine JcB rfl (.tmp 22) (.tmp 25) _ rfl Jb3 (g:=g) (k:=k) (c:=c) (off:=j*3) (m:=m) (cc:=c - j) (news:=news) qi0 qH0 HBD.out HN.out HS.out (by have:=HQ.out; omega) qO0 HO.out ?_; intro w2 hb2 hg2 hz2; have HB2:=zA0 hb2; have HG2:=zA0 hg2; have HZ2:=zA0 hz2; clear hb2 hg2 hz2))
  have hsl:(splice cur (k*3) news).length=c*3:=qJE;have HSL:=zA0 hsl;clear hsl;go_wp2_with (first | (with_reducible refine JaZ ?_); (refine Jbu rfl (.tmp 31) _ rfl Jb3 (off:=q*3) (n:=1) rfl HB2.out qG1 qV0 ?_; intro w3 cur3 hb3 hl3 ht3 hg3 _; have HB3:=zA0 hb3; have HL3:=zA0 hl3; have HT3:=zA0 ht3; have HG3:=zA0 hg3; clear hb3 hl3 ht3 hg3));refine zA1 (v:=.slice (some ⟨g,0,none⟩) q c) (by simp [results,Tryz.results155,go_sem]) rfl ⟨rfl,zA0 ⟨cur3,HB3.out,by rw [HL3.out,HSL.out,HL.out],HT3.out,?_⟩⟩
  exact (show w.grownBy w2 (some g) from ⟨HG2.out.os,HG2.out.tape,HG2.out.output,HG2.out.size,HG2.out.block⟩).trans HG3.out
theorem delEntry (A:Option Addr) (n c k:Nat) (l:List Entry) (w:World) (B:Nat) (hown:Ow Jae 3 83 w B (.slice A n c) l) (hk:k<l.length) (hc:c<=9223372036854775807) :
  Calls Tryz.prog 155 #[.slice A n c,.int .i64 k,.int .i64 (k+1)] w fun e w'=>e=.returned (.slice A (n - 1) c)/\Hid (Ow Jae 3 83 w' B (.slice A (n - 1) c) (l.take k ++ l.drop (k+1))/\w.grownBy w' (Value.slice A n c).ownBlock):=by
 have hnl:n=l.length:=qZE;obtain ⟨g,J,rfl,hBg,hbk,hbl,hnc,hcm,_⟩:=hown.blk qH1;have hf:∀ x∈l,(Jae x).length=3:=fun _ _=>rfl
 have hsp:=Je9 hf (k+1);have hnews:((l.drop (k+1)).flatMap Jae).length=(n - (k+1))*3:=by rw [zC5 (f:=Jae) (s:=3) (fun _ _=>rfl),zE5,hnl]
 have hsrc:∀ (i:Nat) (v:Value),((l.drop (k+1)).flatMap Jae)[i]?=some v->(l.flatMap Jae ++ J)[(k+1)*3+i]?=some v:=by
  intro i v hj;rw [<-hsp,zF3] at hj;rw [zF1 (zB3.1 hj).1];exact hj
 have hone:∀ v∈(l.drop (k+1)).flatMap Jae,v.oneCell'=true:=qSE;have htake:=JdT hf (zG5 hk) J;have hlen:(l.take k ++ l.drop (k+1)).length=n - 1:=qME;rw [show (k:Int)+1=((k+1:Nat):Int) from by omega]
 refine (Jit g n c k (k+1) (n - (k+1)) (n - 1) _ _ w hbk hnews hsrc hone hbl rfl qH1 qH1 hnc hc).mono ?_;rintro e w' ⟨rfl,h⟩;obtain ⟨cur',hb',hl',ht',hg'⟩:=h.out;refine ⟨rfl,zA0 ⟨?_,hg'⟩⟩;have hlt:((l.take k).flatMap Jae).length=k*3:=by rw [zC5 (f:=Jae) (s:=3) (fun _ _=>rfl),zC2,zF8 qH1]
 have hpre:cur'.take ((n - 1)*3)=(l.take k ++ l.drop (k+1)).flatMap Jae:=by
  rw [ht'];unfold splice;rw [htake,zF6];have e:(n - 1)*3=((l.take k).flatMap Jae ++ (l.drop (k+1)).flatMap Jae).length:=qcE;rw [e,<-zC0,zH2]
 have hcur:cur'=(l.take k ++ l.drop (k+1)).flatMap Jae ++ cur'.drop ((n - 1)*3):=by rw [<-hpre,zD7]
 have:=Ow.of_blk (f:=Jae) (s:=3) (B:=B) (fun _ _=>rfl) hBg hb' hcur (by rw [hl']; exact hbl) qw0 hcm
 rw [hlen] at this;exact this
theorem Jjv (A:Option Addr) (n c:Nat) (l:List Entry) (x:Entry) (w:World) (B vb:Nat) (hown:Ow Jae 3 83 w B (.slice A n c) l) (hl:n=l.length) (hv:Bk w vb (Jae x) 83)
  (hB:B<=w.heap.size) (hn:(n+1)*40<=140737488355328) :
  Calls Tryz.prog 109 #[.slice A n c,.int .i64 n,.slice (some ⟨vb,0,none⟩) 1 1] w (Jee Jae 3 83 B (n+1) (l ++ [x]) (Value.slice A n c).ownBlock w):=by
 have H:=zA0 hown;obtain ⟨A',c',hf1,hf2,hf3,hf4,hf5⟩:=hown.form;injection hf1 with e1 e2 e3
 subst e1; subst e3;have HL:=zA0 hl;rw [<-hl] at hf2;have HN:=zA0 hf4;clear hl e2 hown hf4 hf5
 by_cases hcn:c=n
 ·subst hcn
  go_enter Tryz.func109,Tryz.ntmps109
  go_wp2_with (at_builtin; refine Jaf _ rfl (.tmp 23) (.tmp 24) _ rfl Jb3 (l:=l) (m:=[x]) rfl rfl H.out (Sl.blk rfl hv) Jct qU0 qe0 hB ?_; intro v' w1 hown1 hg1 hat1; obtain ⟨A1,c1,rfl⟩:=Ow.is_slice (m:=c+1) hown1 ql0; have HO:=zA0 hown1; have HG:=zA0 hg1; have HT:=zA0 hat1; clear hown1 hg1 hat1);go_ret;exact ⟨A1,c1,rfl,HO.out,HG.out,HT.out⟩
 ·go_enter Tryz.func109,Tryz.ntmps109
  go_wp2_with (at_builtin; refine Jaf _ rfl (.tmp 23) (.tmp 24) _ rfl Jb3 (l:=l) (m:=[x]) rfl rfl H.out (Sl.blk rfl hv) Jct qU0 qe0 hB ?_; intro v' w1 hown1 hg1 hat1; obtain ⟨A1,c1,rfl⟩:=Ow.is_slice (m:=n+1) hown1 ql0; have HO:=zA0 hown1; have HG:=zA0 hg1; have HT:=zA0 hat1; clear hown1 hg1 hat1);go_ret;exact ⟨A1,c1,rfl,HO.out,HG.out,HT.out⟩
theorem Jig (A:Option Addr) (n k:Nat) (l:List Entry) (x:Entry) (w:World) (B vb:Nat) (hown:Ow Jae 3 83 w B (.slice A n n) l) (hk:k<n) (hv:Bk w vb (Jae x) 83)
  (hB:B<=w.heap.size) (hn:(n+1)*40<=140737488355328) :
  Calls Tryz.prog 109 #[.slice A n n,.int .i64 k,.slice (some ⟨vb,0,none⟩) 1 1] w (Jee Jae 3 83 B (n+1) (l.take k ++ x :: l.drop k) (Value.slice A n n).ownBlock w):=by
 obtain ⟨g,J,rfl,hBg,hbk,hbl,_,hcm,hnl⟩:=hown.blk qH1;have H2:=zA0 hown.2;generalize hcur:l.flatMap Jae ++ J=cur at hbk hbl;have HC:=zA0 hcur;have HL:=zA0 hnl;have HBL:=zA0 hbl;clear hcur hown hnl hbl;have ecnt:=zA0 (show (((n+1 - k:Nat):Nat):Int)=(n:Int)+1 - (k:Int) by omega)
 have hne:((k:Int) == (n:Int))=false:=qXE;have F1:=zA0 (Ja1 H2.out k);go_enter Tryz.func109,Tryz.ntmps109
 have hkc:k+(n+1 - k)=n+1:=qCE;have hvg:g<w.heap.size:=hbk.lt;have hvv:vb<w.heap.size:=hv.lt;go_wp2_with (first | (with_reducible refine Jbl ?_); go_loud (refine Jb8 rfl (.tmp 43) (.tmp 44) _ _ rfl Jb3 (cs:=Jae x) rfl rfl hb1 qA0 (fun j v hj=>by show w1.cell? _=_; rw [Addr.add_lit,zG3,(hv.grown hg1 qI1).cell]; exact hj) (by have:=HBL.out; simp [hz1,Jae]; omega) (Jct x) ?_; intro w2 hb2 hg2 hs2) | at_builtin; go_loud (refine Jdd rfl (.tmp 34) (.tmp 39) _ _ rfl Jb3 Tryz.underlying3 (k:=k) (c:=n) (cnt:=n+1 - k) rfl qS0 hbk qn0 qH1 qH1 qs0 qH1 ?_; intro w1 Z cap hb1 hz1 hc1 hc2 hg1 hs1))
 have e1:IntKind.i64.wrap ((k:Int)+1)=(k:Int)+1:=qGE;have e2:((k:Int)+1).toNat=k+1:=qCE;have e3:(0:Int)<=(k:Int)+1:=qCE;have e4:(k:Int)+1<=(n:Int)+1:=qCE;have e5:¬ cap=k+1:=qCE;have e6:¬ n=k:=qCE;have e7:k<=n:=qCE;have hcsl:((l.drop k).flatMap Jae).length=(n - k)*3:=qEE;have hcs1:∀ v∈(l.drop k).flatMap Jae,v.oneCell'=true:=qSE;have hlt:(cur.take (k*3)).length=k*3:=qiE;have hsl:(splice (cur.take (k*3) ++ Z) (k*3) (Jae x)).length=k*3+(cap - k)*3:=qPE;have hgs:Bk w2 g cur 83:=(hbk.grown hg1 qI1).grown hg2 qB1;have hsrc:∀ (j:Nat) (v:Value),((l.drop k).flatMap Jae)[j]?=some v->cur[k*3+j]?=some v:=by
  intro j v hj;rw [F1.out.2,zF3] at hj;rw [<-HC.out,zF1 (zB3.1 hj).1];exact hj
 have HS:=zA0 hsl;have HSR:=zA0 hsrc;have HCL:=zA0 hcsl;clear hsl hsrc hcsl;have hb2d:Bk w2.drew w.heap.size (splice (cur.take (k*3) ++ Z) (k*3) (Jae x)) 83:=hb2;go_region_law (go_loud (refine Jdy rfl _ _ _ _ rfl Jb3 (cs:=(l.drop k).flatMap Jae) (off:=(k+1)*3) (dLen:=n+1 - (k+1)) (dCap:=cap - (k+1)) (ad:=⟨g,k*3,none⟩) (sLen:=n - k) (sCap:=n - k) qi0 qi0 hb2d qB0 (fun j v hj=>by show w2.cell? _=_; rw [Addr.add_lit,hgs.cell]; exact HSR.out j v hj) qf0 hcs1 ?_; intro w3 hb3 hg3 hs3))
 go_wp2;go_ret;refine ⟨some ⟨w.heap.size,0,none⟩,cap,rfl,?_,((hg1.but _).andThen hg2 qI1).andThen (show w2.grownBy w3 (some w.heap.size) from ⟨hg3.os,hg3.tape,hg3.output,hg3.size,hg3.block⟩) qI1,.inr rfl⟩
 have hta:cur.take (k*3)=(l.take k).flatMap Jae:=by rw [F1.out.1,<-HC.out,zK5 (by rw [zC5 H2.out,<-HL.out]; omega)]
 have hall:∀ y∈l.take k ++ x :: l.drop k,(Jae y).length=3:=fun y _=>rfl
 have hlen:(l.take k ++ x :: l.drop k).length=n+1:=by rw [zA9,zC2,zD5,zE5,<-HL.out]; omega
 have:=Ow.of_blk (B:=B) (g:=w.heap.size) (c:=cap) (J:=Z.drop (3+((l.drop k).flatMap Jae).length)) hall hB hb3 (by
  have h:=ins2 (cur.take (k*3)) Z ((l.drop k).flatMap Jae) (Jae x);rw [hlt] at h;rw [show (k+1)*3=k*3+(Jae x).length from by show _=k*3+3; omega,h,hta,zF6,zG2]
  simp only [zC0];rfl) qE0 qw0 hc2
 rw [hlen] at this;exact this
theorem Jif (A:Option Addr) (n k c:Nat) (l:List Entry) (x:Entry) (w:World) (B vb:Nat) (hown:Ow Jae 3 83 w B (.slice A n c) l) (hk:k<n) (hc:n<c) (hv:Bk w vb (Jae x) 83) (hvA:(Value.slice A n c).ownBlock≠some vb) :
  Calls Tryz.prog 109 #[.slice A n c,.int .i64 k,.slice (some ⟨vb,0,none⟩) 1 1] w (Jee Jae 3 83 B (n+1) (l.take k ++ x :: l.drop k) (Value.slice A n c).ownBlock w):=by
 obtain ⟨g,J,rfl,hBg,hbk,hbl,_,hcm,hnl⟩:=hown.blk qH1;have H2:=zA0 hown.2;have hvg:vb≠g:=qlE;generalize hcur:l.flatMap Jae ++ J=cur at hbk hbl;have HC:=zA0 hcur;have HL:=zA0 hnl;have HBL:=zA0 hbl;clear hcur hown hnl hbl;have hne:((k:Int) == (n:Int))=false:=qXE;have F1:=zA0 (Ja1 H2.out k);have d1:IntKind.i64.wrap ((n:Int)+1)=(n:Int)+1:=qGE;have d2:((n:Int)+1).toNat=n+1:=qCE;have d3:(0:Int)<=(n:Int)+1:=qCE;have d4:(n:Int)+1<=(c:Int):=qCE;have d5:¬ (c:Int)<(n:Int)+1:=qCE;have e1:IntKind.i64.wrap ((k:Int)+1)=(k:Int)+1:=qGE;have e2:((k:Int)+1).toNat=k+1:=qCE;have e3:(0:Int)<=(k:Int)+1:=qCE;have e4:(k:Int)+1<=(n:Int)+1:=qCE;have e5:¬ c=k+1:=qCE;have e6:¬ c=k:=qCE;have e7:(k:Int)<=(n:Int)+1:=qCE;have e8:k<=n:=qCE;have hov:=fun (off lb cb:Nat)=>Jdi Jb3 Tryz.func146 qE1 qE1 qE1 (tB:=4) qE1 hv hbk hvg qn0 off 1 1 lb cb
 go_enter Tryz.func109,Tryz.ntmps109
 go_wp2_with (simp only [hov]);have hcsl:((l.drop k).flatMap Jae).length=(n - k)*3:=qEE;have hcs1:∀ v∈(l.drop k).flatMap Jae,v.oneCell'=true:=qSE;have hsl:(splice cur ((k+1)*3) ((l.drop k).flatMap Jae)).length=c*3:=qOE;have hsrc:∀ (j:Nat) (v:Value),((l.drop k).flatMap Jae)[j]?=some v->cur[k*3+j]?=some v:=by
  intro j v hj;rw [F1.out.2,zF3] at hj;rw [<-HC.out,zF1 (zB3.1 hj).1];exact hj
 have HS:=zA0 hsl;have HSR:=zA0 hsrc;have HCL:=zA0 hcsl;clear hsl hsrc hcsl;have hbd:Bk w.drew g cur 83:=hbk;have hvd:Bk w.drew vb (Jae x) 83:=hv;go_region_law (go_loud (refine Jdy rfl _ _ _ _ rfl Jb3 (cs:=(l.drop k).flatMap Jae) (off:=(k+1)*3) (dLen:=n - k) (dCap:=c - (k+1)) (ad:=⟨g,k*3,none⟩) (sLen:=n+1 - k) (sCap:=c - k) qi0 qi0 hbd qD0 (fun j v hj=>by rw [Addr.add_lit,hbd.cell]; exact HSR.out j v hj) qc0 hcs1 ?_; intro w3 hb3 hg3 hs3))
 go_wp2_with (first | (with_reducible refine Jbl ?_); go_loud (refine Jb8 rfl (.tmp 80) (.tmp 81) _ _ rfl Jb3 (cs:=Jae x) (off:=k*3) (dLen:=n+1 - k) (dCap:=c - k) rfl rfl hb3 qA0 (fun j v hj=>by rw [Addr.add_lit,zG3,(hvd.grown hg3 (by simp; exact hvg)).cell]; exact hj) qR0 (Jct x) ?_; intro w4 hb4 hg4 hs4))
 go_ret;refine ⟨some ⟨g,0,none⟩,c,rfl,?_,(show w.grownBy w3 (some g) from ⟨hg3.os,hg3.tape,hg3.output,hg3.size,hg3.block⟩).trans hg4,.inl rfl⟩
 have hta:cur=(l.take k).flatMap Jae ++ (l.drop k).flatMap Jae ++ J:=by rw [<-zF6,zD7,HC.out]
 have hlt:((l.take k).flatMap Jae).length=k*3:=by rw [zC5 (fun y hy=>H2.out y (zH7 hy)),zC2,<-HL.out,zF8 qH1]
 have hJ:(Jae x).length<=J.length:=by
  have h:=HBL.out;rw [hta,zA9,zA9,hlt,HCL.out] at h;show 3<=_;omega
 have hall:∀ y∈l.take k ++ x :: l.drop k,(Jae y).length=3:=fun y _=>rfl
 have hlen:(l.take k ++ x :: l.drop k).length=n+1:=by rw [zA9,zC2,zD5,zE5,<-HL.out]; omega
 have:=Ow.of_blk (B:=B) (g:=g) (c:=c) (J:=J.drop (Jae x).length) hall hBg hb4 (by
  have h:=ins1 ((l.take k).flatMap Jae) ((l.drop k).flatMap Jae) J (Jae x) hJ;rw [hlt,<-hta] at h;rw [show (k+1)*3=k*3+(Jae x).length from by show _=k*3+3; omega,h,zF6,zG2]
  simp only [zC0]) (by rw [zI8 _ _ _ qR0,HS.out]) qw0 hcm
 rw [hlen] at this;exact this
theorem insEntry (v:Value) (k:Nat) (l:List Entry) (x:Entry) (w:World) (B vb:Nat) (hown:Ow Jae 3 83 w B v l) (hk:k<=l.length) (hv:Bk w vb (Jae x) 83) (hvA:v.ownBlock≠some vb)
  (hB:B<=w.heap.size) (hn:(l.length+1)*40<=140737488355328) :
  Calls Tryz.prog 109 #[v,.int .i64 k,.slice (some ⟨vb,0,none⟩) 1 1] w (Jee Jae 3 83 B (l.length+1) (l.take k ++ x :: l.drop k) v.ownBlock w):=by
 obtain ⟨A,c,rfl,h2⟩:=hown.form;rcases zD1 k l.length with h | h
 ·obtain ⟨g,J,rfl,_,_,_,hnc,_,_⟩:=hown.blk qH1
  by_cases hc:c=l.length
  ·subst hc
   exact Jig _ _ k l x w B vb hown h hv hB hn
  ·exact Jif _ _ k c l x w B vb hown h qH1 hv hvA
 ·obtain rfl:k=l.length:=by omega
  rw [zG1,zO8];exact Jjv _ _ c l x w B vb hown rfl hv hB hn
end
end Go.Proofs.YtjnooagaghdkdaaGreatDoor
namespace Go.Proofs
open Go.Shelf
def Tryz.lays106_ren:Go.Shelf.Ren:=⟨fun | 106=>61 | 213=>89 | 265=>118 | n=>n,fun | 9=>9 | 3=>3 | n=>n,fun | n=>n⟩
theorem Tryz.lays106:Go.Proofs.Lays.n106 Tryz.prog Tryz.lays106_ren:={
 mixed:=by kernel_rfl
 f106:=Tryz.func61.trans (congrArg some (by kernel_rfl))
 f213:=Tryz.func89.trans (congrArg some (by kernel_rfl))
 f265:=Tryz.func118.trans (congrArg some (by kernel_rfl))
 t3:=Tryz.underlying3
 a3:=Tryz.isAgg3
 z3:=Tryz.sizeOf3
 v3:=Tryz.zeroValue3
 t9:=Tryz.underlying9
 a9:=Tryz.isAgg9
 z9:=Tryz.sizeOf9
 v9:=Tryz.zeroValue9 }
open Go.RowKit in
theorem Tryz.strings_Compare (a b:ByteArray) (w:World) :
  Calls Tryz.prog 61 #[.string a,.string b] w fun e w'=>e=.returned (.int .i64 (Lib.compareBytes a.data.toList b.data.toList))/\w'=w:=Any.strings_Compare Tryz.lays106 a b w
def Tryz.laysM171_ren:Go.Shelf.Ren:=⟨fun | 171=>174 | 243=>185 | 246=>188 | 283=>190 | 284=>191 | 285=>192 | 286=>193 | 129=>195 | 317=>194 | 318=>196 | 319=>197 | 320=>198 | 337=>199 | 338=>200 | n=>n,fun | 3=>3 | 9=>9 | 2=>2 | 4=>4 | 171=>260 | 0=>0 | 53=>261 | 37=>193 | 5=>5 | 173=>264 | 212=>267 | 51=>237 | 20=>20 | 213=>268 | 46=>98 | 232=>271 | 233=>272 | n=>n,fun | 17=>3 | 18=>4 | 19=>5 | n=>n⟩
theorem Tryz.laysM171:Go.Proofs.LaysM.n171 Tryz.prog Tryz.laysM171_ren:={
 mixed:=by kernel_rfl
 f129:=Tryz.func195.trans (congrArg some (by kernel_rfl))
 f171:=Tryz.func174.trans (congrArg some (by kernel_rfl))
 f243:=Tryz.func185.trans (congrArg some (by kernel_rfl))
 f246:=Tryz.func188.trans (congrArg some (by kernel_rfl))
 f283:=Tryz.func190.trans (congrArg some (by kernel_rfl))
 f284:=Tryz.func191.trans (congrArg some (by kernel_rfl))
 f285:=Tryz.func192.trans (congrArg some (by kernel_rfl))
 f286:=Tryz.func193.trans (congrArg some (by kernel_rfl))
 f317:=Tryz.func194.trans (congrArg some (by kernel_rfl))
 f318:=Tryz.func196.trans (congrArg some (by kernel_rfl))
 f319:=Tryz.func197.trans (congrArg some (by kernel_rfl))
 f320:=Tryz.func198.trans (congrArg some (by kernel_rfl))
 f337:=Tryz.func199.trans (congrArg some (by kernel_rfl))
 f338:=Tryz.func200.trans (congrArg some (by kernel_rfl))
 t0:=Tryz.underlying0
 a0:=Tryz.isAgg0
 z0:=Tryz.sizeOf0
 v0:=Tryz.zeroValue0
 t2:=Tryz.underlying2
 a2:=Tryz.isAgg2
 z2:=Tryz.sizeOf2
 v2:=Tryz.zeroValue2
 t3:=Tryz.underlying3
 a3:=Tryz.isAgg3
 z3:=Tryz.sizeOf3
 v3:=Tryz.zeroValue3
 t4:=Tryz.underlying4
 a4:=Tryz.isAgg4
 z4:=Tryz.sizeOf4
 v4:=Tryz.zeroValue4
 t5:=Tryz.underlying5
 a5:=Tryz.isAgg5
 z5:=Tryz.sizeOf5
 v5:=Tryz.zeroValue5
 t9:=Tryz.underlying9
 a9:=Tryz.isAgg9
 z9:=Tryz.sizeOf9
 v9:=Tryz.zeroValue9
 t20:=Tryz.underlying20
 a20:=Tryz.isAgg20
 z20:=Tryz.sizeOf20
 v20:=Tryz.zeroValue20
 t37:=Tryz.underlying193
 a37:=Tryz.isAgg193
 z37:=Tryz.sizeOf193
 v37:=Tryz.zeroValue193
 t46:=Tryz.underlying98
 a46:=Tryz.isAgg98
 z46:=Tryz.sizeOf98
 v46:=Tryz.zeroValue98
 t51:=Tryz.underlying237
 a51:=Tryz.isAgg237
 z51:=Tryz.sizeOf237
 v51:=Tryz.zeroValue237
 t53:=Tryz.underlying261
 a53:=Tryz.isAgg261
 z53:=Tryz.sizeOf261
 v53:=Tryz.zeroValue261
 t171:=Tryz.underlying260
 a171:=Tryz.isAgg260
 z171:=Tryz.sizeOf260
 v171:=Tryz.zeroValue260
 t173:=Tryz.underlying264
 a173:=Tryz.isAgg264
 z173:=Tryz.sizeOf264
 v173:=Tryz.zeroValue264
 t212:=Tryz.underlying267
 a212:=Tryz.isAgg267
 z212:=Tryz.sizeOf267
 v212:=Tryz.zeroValue267
 t213:=Tryz.underlying268
 a213:=Tryz.isAgg268
 z213:=Tryz.sizeOf268
 t232:=Tryz.underlying271
 a232:=Tryz.isAgg271
 z232:=Tryz.sizeOf271
 v232:=Tryz.zeroValue271
 t233:=Tryz.underlying272
 a233:=Tryz.isAgg272
 z233:=Tryz.sizeOf272
 v233:=Tryz.zeroValue272
 g17:=by kernel_rfl
 g18:=by kernel_rfl
 g19:=by kernel_rfl
 i0:=by kernel_rfl
 i2:=by kernel_rfl
 i3:=by kernel_rfl
 i4:=by kernel_rfl
 i5:=by kernel_rfl
 i9:=by kernel_rfl
 i20:=by kernel_rfl
 i37:=by kernel_rfl
 i46:=by kernel_rfl
 i51:=by kernel_rfl
 i53:=by kernel_rfl
 i171:=by kernel_rfl
 i173:=by kernel_rfl
 i212:=by kernel_rfl
 i232:=by kernel_rfl
 i233:=by kernel_rfl
 m17:=by kernel_rfl
 m18:=by kernel_rfl
 m19:=by kernel_rfl }
open Go.RowKit Go.Sort Go.Lib in
theorem Tryz.strconv_Itoa (n : Int) (h0 : -9223372036854775808 ≤ n) (h1 : n ≤ 9223372036854775807) (w : World) (htab : Lib.TabIs Tryz.prog w "internal/strconv.uint64pow10" .u64 Lib.pow10Tab) :
  Calls Tryz.prog 174 #[.int .i64 n] w fun e w'=>e=.returned (.string ⟨(Lib.itoa n).toArray⟩)/\∃ k os,w'=grow (w.drewN k) os:=Any.strconv_Itoa Tryz.laysM171 n h0 h1 w htab
def Tryz.lays219_ren:Go.Shelf.Ren:=⟨fun | 219=>117 | 217=>156 | 225=>157 | 224=>158 | 267=>159 | 266=>177 | 314=>178 | n=>n,fun | 9=>9 | 3=>3 | 4=>4 | 5=>5 | 46=>98 | 146=>250 | 51=>237 | n=>n,fun | 1=>0 | n=>n⟩
theorem Tryz.lays219:Go.Proofs.Lays.n219 Tryz.prog Tryz.lays219_ren:={
 mixed:=by kernel_rfl
 f217:=Tryz.func156.trans (congrArg some (by kernel_rfl))
 f219:=Tryz.func117.trans (congrArg some (by kernel_rfl))
 f224:=Tryz.func158.trans (congrArg some (by kernel_rfl))
 f225:=Tryz.func157.trans (congrArg some (by kernel_rfl))
 f266:=Tryz.func177.trans (congrArg some (by kernel_rfl))
 f267:=Tryz.func159.trans (congrArg some (by kernel_rfl))
 f314:=Tryz.func178.trans (congrArg some (by kernel_rfl))
 t3:=Tryz.underlying3
 a3:=Tryz.isAgg3
 z3:=Tryz.sizeOf3
 v3:=Tryz.zeroValue3
 t4:=Tryz.underlying4
 a4:=Tryz.isAgg4
 z4:=Tryz.sizeOf4
 v4:=Tryz.zeroValue4
 t5:=Tryz.underlying5
 a5:=Tryz.isAgg5
 z5:=Tryz.sizeOf5
 v5:=Tryz.zeroValue5
 t9:=Tryz.underlying9
 a9:=Tryz.isAgg9
 z9:=Tryz.sizeOf9
 v9:=Tryz.zeroValue9
 t46:=Tryz.underlying98
 a46:=Tryz.isAgg98
 z46:=Tryz.sizeOf98
 v46:=Tryz.zeroValue98
 t51:=Tryz.underlying237
 a51:=Tryz.isAgg237
 z51:=Tryz.sizeOf237
 v51:=Tryz.zeroValue237
 t146:=Tryz.underlying250
 a146:=Tryz.isAgg250
 z146:=Tryz.sizeOf250
 v146:=Tryz.zeroValue250
 g1:=by kernel_rfl }
open Go.RowKit Go.Lib in
theorem Tryz.stringslite_Index_one (s:ByteArray) (c:UInt8) (w:World) :
  Calls Tryz.prog 117 #[.string s,.string ⟨#[c]⟩] w fun e w'=>e=.returned (.int .i64 (Lib.indexByte s.data.toList c))/\w'=w:=Any.stringslite_Index_one Tryz.lays219 s c w
def Tryz.lays143_ren:Go.Shelf.Ren:=⟨fun | 143=>88 | 219=>117 | 217=>156 | 225=>157 | 224=>158 | 267=>159 | 266=>177 | 314=>178 | n=>n,fun | 9=>9 | 3=>3 | 4=>4 | 5=>5 | 46=>98 | 146=>250 | 51=>237 | n=>n,fun | 1=>0 | n=>n⟩
theorem Tryz.lays143:Go.Proofs.Lays.n143 Tryz.prog Tryz.lays143_ren:={
 mixed:=by kernel_rfl
 f143:=Tryz.func88.trans (congrArg some (by kernel_rfl))
 f217:=Tryz.func156.trans (congrArg some (by kernel_rfl))
 f219:=Tryz.func117.trans (congrArg some (by kernel_rfl))
 f224:=Tryz.func158.trans (congrArg some (by kernel_rfl))
 f225:=Tryz.func157.trans (congrArg some (by kernel_rfl))
 f266:=Tryz.func177.trans (congrArg some (by kernel_rfl))
 f267:=Tryz.func159.trans (congrArg some (by kernel_rfl))
 f314:=Tryz.func178.trans (congrArg some (by kernel_rfl))
 t3:=Tryz.underlying3
 a3:=Tryz.isAgg3
 z3:=Tryz.sizeOf3
 v3:=Tryz.zeroValue3
 t4:=Tryz.underlying4
 a4:=Tryz.isAgg4
 z4:=Tryz.sizeOf4
 v4:=Tryz.zeroValue4
 t5:=Tryz.underlying5
 a5:=Tryz.isAgg5
 z5:=Tryz.sizeOf5
 v5:=Tryz.zeroValue5
 t9:=Tryz.underlying9
 a9:=Tryz.isAgg9
 z9:=Tryz.sizeOf9
 v9:=Tryz.zeroValue9
 t46:=Tryz.underlying98
 a46:=Tryz.isAgg98
 z46:=Tryz.sizeOf98
 v46:=Tryz.zeroValue98
 t51:=Tryz.underlying237
 a51:=Tryz.isAgg237
 z51:=Tryz.sizeOf237
 v51:=Tryz.zeroValue237
 t146:=Tryz.underlying250
 a146:=Tryz.isAgg250
 z146:=Tryz.sizeOf250
 v146:=Tryz.zeroValue250
 g1:=by kernel_rfl }
open Go.RowKit Go.Lib in
theorem Tryz.strings_Index_one (s:ByteArray) (c:UInt8) (w:World) :
  Calls Tryz.prog 88 #[.string s,.string ⟨#[c]⟩] w fun e w'=>e=.returned (.int .i64 (Lib.indexByte s.data.toList c))/\w'=w:=Any.strings_Index_one Tryz.lays143 s c w
def Tryz.lays149_ren:Go.Shelf.Ren:=⟨fun | 149=>161 | 222=>180 | n=>n,fun | 9=>9 | 5=>5 | 3=>3 | 4=>4 | n=>n,fun | n=>n⟩
theorem Tryz.lays149:Go.Proofs.Lays.n149 Tryz.prog Tryz.lays149_ren:={
 mixed:=by kernel_rfl
 f149:=Tryz.func161.trans (congrArg some (by kernel_rfl))
 f222:=Tryz.func180.trans (congrArg some (by kernel_rfl))
 t3:=Tryz.underlying3
 a3:=Tryz.isAgg3
 z3:=Tryz.sizeOf3
 v3:=Tryz.zeroValue3
 t4:=Tryz.underlying4
 a4:=Tryz.isAgg4
 z4:=Tryz.sizeOf4
 v4:=Tryz.zeroValue4
 t5:=Tryz.underlying5
 a5:=Tryz.isAgg5
 z5:=Tryz.sizeOf5
 v5:=Tryz.zeroValue5
 t9:=Tryz.underlying9
 a9:=Tryz.isAgg9
 z9:=Tryz.sizeOf9
 v9:=Tryz.zeroValue9 }
open Go.RowKit Go.Lib in
theorem Tryz.strings_LastIndexByte (s:ByteArray) (c:Int) (hs:s.size<4611686018427387904) (w:World) :
  Calls Tryz.prog 161 #[.string s,.int .u8 c] w fun e w'=>e=.returned (.int .i64 (Lib.lastIndexByte s c))/\w'=w:=Any.strings_LastIndexByte Tryz.lays149 s c hs w
def Tryz.lays99_ren:Go.Shelf.Ren:=⟨fun | 99=>41 | 206=>57 | n=>n,fun | 9=>9 | 4=>4 | 3=>3 | n=>n,fun | n=>n⟩
theorem Tryz.lays99:Go.Proofs.Lays.n99 Tryz.prog Tryz.lays99_ren:={
 mixed:=by kernel_rfl
 f99:=Tryz.func41.trans (congrArg some (by kernel_rfl))
 f206:=Tryz.func57.trans (congrArg some (by kernel_rfl))
 t3:=Tryz.underlying3
 a3:=Tryz.isAgg3
 z3:=Tryz.sizeOf3
 v3:=Tryz.zeroValue3
 t4:=Tryz.underlying4
 a4:=Tryz.isAgg4
 z4:=Tryz.sizeOf4
 v4:=Tryz.zeroValue4
 t9:=Tryz.underlying9
 a9:=Tryz.isAgg9
 z9:=Tryz.sizeOf9
 v9:=Tryz.zeroValue9 }
open Go.RowKit Go.Lib in
theorem Tryz.strings_HasPrefix (s p:ByteArray) (w:World) :
  Calls Tryz.prog 41 #[.string s,.string p] w fun e w'=>e=.returned (.bool (Lib.hasPrefix s.data.toList p.data.toList))/\w'=w:=Any.strings_HasPrefix Tryz.lays99 s p w
def Tryz.laysNm232_ren:Go.Shelf.Ren:=⟨fun | 32=>56 | n=>n,fun | 3=>3 | 4=>4 | n=>n,fun | n=>n⟩
theorem Tryz.laysNm232:Go.Proofs.Lays2.n32 Tryz.prog Tryz.laysNm232_ren:={
 mixed:=by kernel_rfl
 f32:=Tryz.func56.trans (congrArg some (by kernel_rfl))
 t3:=Tryz.underlying3
 a3:=Tryz.isAgg3
 z3:=Tryz.sizeOf3
 v3:=Tryz.zeroValue3
 t4:=Tryz.underlying4
 a4:=Tryz.isAgg4
 z4:=Tryz.sizeOf4
 v4:=Tryz.zeroValue4 }
open Go.RowKit Go.Lib in
theorem Tryz.slices_isNaN_int2 (x:Int) (w:World) :
  Calls Tryz.prog 56 #[.int .i64 x] w fun e w'=>e=.returned (.bool false)/\w'=w:=Any.slices_isNaN_int2 Tryz.laysNm232 x w
def Tryz.laysNm231_ren:Go.Shelf.Ren:=⟨fun | 31=>55 | 37=>85 | n=>n,fun | 3=>3 | 4=>4 | n=>n,fun | n=>n⟩
theorem Tryz.laysNm231:Go.Proofs.Lays2.n31 Tryz.prog Tryz.laysNm231_ren:={
 mixed:=by kernel_rfl
 f31:=Tryz.func55.trans (congrArg some (by kernel_rfl))
 f37:=Tryz.func85.trans (congrArg some (by kernel_rfl))
 t3:=Tryz.underlying3
 a3:=Tryz.isAgg3
 z3:=Tryz.sizeOf3
 v3:=Tryz.zeroValue3
 t4:=Tryz.underlying4
 a4:=Tryz.isAgg4
 z4:=Tryz.sizeOf4
 v4:=Tryz.zeroValue4 }
open Go.RowKit Go.Lib in
theorem Tryz.cmp_Less_int2 (x y:Int) (w:World) :
  Calls Tryz.prog 55 #[.int .i64 x,.int .i64 y] w fun e w'=>e=.returned (.bool (decide (x<y)))/\w'=w:=Any.cmp_Less_int2 Tryz.laysNm231 x y w
end Go.Proofs
namespace Go.Proofs.YtjnooagaghdkdaaGreatDoor
section
open Go.RowKit
def bsF (lt:Nat->Bool):Nat->Nat->Nat->Nat
 | 0,i,_=>i
 | f+1,i,j=>if i<j then (if lt ((i+j) / 2) then bsF lt f ((i+j) / 2+1) j else bsF lt f i ((i+j) / 2)) else i
theorem JfQ (lt:Nat->Bool):∀ (f g i j:Nat),j - i<=f->j - i<=g->bsF lt f i j=bsF lt g i j
 | 0,0,i,j,_,_=>rfl
 | 0,g+1,i,j,h,_=>by
  have:¬ i<j:=qCE;simp [bsF,this]
 | f+1,0,i,j,_,h=>by
  have:¬ i<j:=qCE;simp [bsF,this]
 | f+1,g+1,i,j,h,h'=>by
  simp only [bsF];split
  ·split
   ·exact JfQ lt f g _ _ qH1 qH1
   ·exact JfQ lt f g _ _ qH1 qH1
  ·rfl
def bsr (lt:Nat->Bool) (i j:Nat):Nat:=bsF lt (j - i) i j
theorem JdO (lt:Nat->Bool) (i j:Nat) (h:¬ i<j):bsr lt i j=i:=by
 unfold bsr;rw [show j - i=0 from by omega]
 rfl
theorem JhL (lt:Nat->Bool) (i j:Nat) (h:i<j) (hl:lt ((i+j) / 2)=true):bsr lt i j=bsr lt ((i+j) / 2+1) j:=by
 unfold bsr;obtain ⟨f,hf⟩:∃ f,j - i=f+1:=⟨j - i - 1,by omega⟩
 rw [hf];simp only [bsF,h,hl,if_true];exact JfQ lt _ _ _ _ qH1 qH1
theorem Jd6 (lt:Nat->Bool) (i j:Nat) (h:i<j) (hl:lt ((i+j) / 2)=false):bsr lt i j=bsr lt i ((i+j) / 2):=by
 unfold bsr;obtain ⟨f,hf⟩:∃ f,j - i=f+1:=⟨j - i - 1,by omega⟩
 rw [hf];simp only [bsF,h,hl,if_true,zC7,if_false];exact JfQ lt _ _ _ _ qH1 qH1
theorem JgY (lt:Nat->Bool):∀ (f i j:Nat),j - i<=f->i<=j->i<=bsr lt i j/\bsr lt i j<=j
 | 0,i,j,h,hij=>by rw [JdO lt i j qH1]; omega
 | f+1,i,j,h,hij=>by
  by_cases hlt:i<j
  ·cases hl:lt ((i+j) / 2)
   ·rw [Jd6 lt i j hlt hl]
    have:=JgY lt f i ((i+j) / 2) qH1 qH1;omega
   ·rw [JhL lt i j hlt hl]
    have:=JgY lt f ((i+j) / 2+1) j qH1 qH1;omega
  ·rw [JdO lt i j hlt]; omega
theorem JlU (lt:Nat->Bool) (n:Nat):bsr lt 0 n<=n:=(JgY lt n 0 n qH1 qH1).2
theorem Jdb (lt:Nat->Bool) (m:Nat):∀ (f i j:Nat),j - i<=f->i<=m->m<=j->(∀ k,k<m->lt k=true)->(∀ k,m<=k->k<j->lt k=false)->bsr lt i j=m
 | 0,i,j,h,h1,h2,_,_=>by rw [JdO lt i j qH1]; omega
 | f+1,i,j,h,h1,h2,hl,hg=>by
  by_cases hlt:i<j
  ·cases hx:lt ((i+j) / 2)
   ·rw [Jd6 lt i j hlt hx]
    have:m<=(i+j) / 2:=by
     rcases zD1 ((i+j) / 2) m with h3 | h3
     ·rw [hl _ h3] at hx; cases hx
     ·exact h3
    exact Jdb lt m f i _ qH1 h1 this hl (fun k hk hk'=>hg k hk qH1)
   ·rw [JhL lt i j hlt hx]
    have:(i+j) / 2+1<=m:=by
     rcases zD1 ((i+j) / 2) m with h3 | h3
     ·omega
     ·rw [hg _ h3 qH1] at hx; cases hx
    exact Jdb lt m f _ j qH1 this h2 hl hg
  ·rw [JdO lt i j hlt]; omega
def bs3 (s:ByteArray):List UInt8:=s.data.toList
def cmpB (a b:ByteArray):Int:=Lib.compareBytes a.data.toList b.data.toList
def ltK (ks:List ByteArray) (p:ByteArray) (k:Nat):Bool:=decide (cmpB (ks.getD k ByteArray.empty) p<0)
def posK (ks:List ByteArray) (p:ByteArray):Nat:=bsr (ltK ks p) 0 ks.length
def isK (ks:List ByteArray) (p:ByteArray):Bool:=decide (posK ks p<ks.length) && decide (cmpB (ks.getD (posK ks p) ByteArray.empty) p=0)

theorem JlR (x:Entry) (p:ByteArray) (w:World) :
  Calls Tryz.prog 60 #[.agg #[.string x.path,.string x.data,.bool x.there_],.string p] w fun e w'=>e=.returned (.int .i64 (cmpB x.path p))/\Below w.heap.size w w':=by
 go_enter Tryz.func60,Tryz.ntmps60
 go_wp2_with (go_at_call 61; refine (Tryz.strings_Compare _ _ _).mono ?_; rintro e w1 ⟨rfl,rfl⟩);go_ret;exact ⟨rfl,zL⟩

theorem Jjj {α:Type} {g:α->ByteArray} {l:List α} {k:Nat} {x:α} (h:l[k]?=some x) (p:ByteArray):ltK (l.map g) p k=decide (cmpB (g x) p<0):=by
 unfold ltK;rw [zE6,zI0,h];rfl
theorem Je1 {α:Type} {g:α->ByteArray} {l:List α} {p:ByteArray} {k:Nat} {x:α} (hp:posK (l.map g) p=k) (h:l[k]?=some x):isK (l.map g) p=(cmpB (g x) p == 0):=by
 have hk:k<l.length:=(zB3.1 h).1;unfold isK;rw [hp,zE6,zI0,h];simp [hk];rfl
theorem Jgz {α:Type} {g:α->ByteArray} {l:List α} {p:ByteArray} {k:Nat} (hp:posK (l.map g) p=k) (h:¬ k<l.length):isK (l.map g) p=false:=by
 unfold isK;rw [hp];simp;omega
theorem bsfEntry (v:Value) (l:List Entry) (p:ByteArray) (w:World) (h:Sl Jae 3 w v l) (hn:l.length<=140737488355328) :
  Calls Tryz.prog 59 #[v,.string p,.func (.func 60) #[] #[]] w fun e w'=>e=.returned (.tuple #[.int .i64 (posK (l.map Entry.path) p),.bool (isK (l.map Entry.path) p)])/\Below w.heap.size w w':=by
 obtain ⟨A,c,rfl,hc1,hc2⟩:=h.form;have H:=zA0 h;clear h;go_enter Tryz.func59,Tryz.ntmps59
 go_wp2;go_loopw [9,10] (fun i j wr=>∃ (a b:Nat),a<=b/\b<=l.length/\i=.int .i64 a/\j=.int .i64 b/\Hid (bsr (ltK (l.map Entry.path) p) a b=posK (l.map Entry.path) p)/\Below w.heap.size w wr) (fun i j _=>(intOf j - intOf i).toNat)
 case atStart=>exact ⟨0,l.length,zB9 _,zA3 _,rfl,rfl,(by simp [posK]:bsr (ltK (l.map Entry.path) p) 0 l.length=posK (l.map Entry.path) p),zB6 _ _⟩
 case round=>
  obtain ⟨a,b,hab,hbl,rfl,rfl,hr,hb⟩:=hrel
  by_cases hlt:a<b
  ·have hx:l[(a+b) / 2]?=some (l[(a+b) / 2]'qH1):=zA8 _
   obtain ⟨bk,off,rfl,hbw,c0,c1,c2⟩:=(H.out.below hb).Entry_at hx;generalize hxe:l[(a+b) / 2]'qH1=x at hx c0 c1 c2;have HX:=zA0 hx;clear hx hxe;go_wp2_with (go_at_call 60; refine (JlR _ _ _).mono ?_; rintro e w1 ⟨rfl,hb1⟩; obtain ⟨ext1,d1,rfl⟩:=zA2 _ hb1)
   all_goals
    have hcmp:=Jjj (g:=Entry.path) HX.out p;go_roundw
   case rel=>
    have hlt2:cmpB x.path p<0:=by assumption
    exact ⟨(a+b) / 2+1,b,by omega,by omega,by go_num,rfl,Eq.trans (JhL _ _ _ hlt (by rw [hcmp]; simpa using hlt2)).symm hr.out,zL⟩
   case measure=>simp [intOf]; omega
   case rel=>
    have hge2:0<=cmpB x.path p:=by assumption
    exact ⟨a,(a+b) / 2,by omega,by omega,rfl,by go_num,Eq.trans (Jd6 _ _ _ hlt (by rw [hcmp]; simpa using hge2)).symm hr.out,zL⟩
   case measure=>simp [intOf]; omega
  ·obtain rfl:a=b:=by omega
   have hpos:posK (l.map Entry.path) p=a:=by rw [<-hr.out]; exact JdO _ _ _ hlt
   have HP:=zA0 hpos;clear hpos hr
   by_cases han:a<l.length
   ·have hx:l[a]?=some (l[a]'qH1):=zA8 _
    obtain ⟨bk,off,rfl,hbw,c0,c1,c2⟩:=(H.out.below hb).Entry_at hx;generalize hxe:l[a]'qH1=x at hx c0 c1 c2;have HX:=zA0 hx;clear hx hxe;go_wp2_with (go_at_call 60; refine (JlR _ _ _).mono ?_; rintro e w1 ⟨rfl,hb1⟩; obtain ⟨ext1,d1,rfl⟩:=zA2 _ hb1);go_ret2;refine ⟨?_,zL⟩;rw [Je1 HP.out HX.out,HP.out];rfl
   ·go_wp2
    go_ret2;refine ⟨?_,zL⟩;rw [Jgz HP.out han,HP.out];rfl
theorem JmR (v:Value) (l:List Watch) (w:World) (h:Sl Jal 3 w v l) (hn:l.length*32<=140737488355328) (hm:l.length<=maxLen) :
  Calls Tryz.prog 150 #[v] w (Owned Jal 3 148 l w):=by
 have qT:∀ (w:World) (a:Option Addr) (n c n' c':Nat),(binOp .eql 69 (.slice a n c) (.slice none n' c')).run Tryz.prog w=.ok (.bool a.isNone) w:=fun w a n c n' c'=>Lib.run_eql_slice_nil w _ _ a n c n' c' Tryz.underlying69
 obtain ⟨A,c,rfl,h1,h2⟩:=h.form;cases A with
 | none=>
  obtain rfl:=h.none_nil;clear h;go_enter Tryz.func150,Tryz.ntmps150
  go_wp2;go_ret;exact Owned.mk (Ow.nil _ _ _ _ _) (zB6 _ _)
 | some a=>
  have H:=zA0 h;clear h;go_enter Tryz.func150,Tryz.ntmps150
  go_wp2_with (at_builtin; refine Jaf _ rfl (.tmp 5) (.tmp 6) _ rfl Jbq rfl rfl (Jgp _ _ _ _) (H.out.alloc _) Jbd (by simpa using hm) qz0 qI1 ?_; intro v' w1 hown hg hat)
  go_ret;exact Owned.mk hown (((zB6 _ _).alloc (zA3 _) _).grown hg qI1 qL0)
theorem JmS (v:Value) (l:List Entry) (w:World) (h:Sl Jae 3 w v l) (hn:l.length*40<=140737488355328) (hm:l.length<=maxLen) :
  Calls Tryz.prog 142 #[v] w (Owned Jae 3 83 l w):=by
 have qT:∀ (w:World) (a:Option Addr) (n c n' c':Nat),(binOp .eql 49 (.slice a n c) (.slice none n' c')).run Tryz.prog w=.ok (.bool a.isNone) w:=fun w a n c n' c'=>Lib.run_eql_slice_nil w _ _ a n c n' c' Tryz.underlying49
 obtain ⟨A,c,rfl,h1,h2⟩:=h.form;cases A with
 | none=>
  obtain rfl:=h.none_nil;clear h;go_enter Tryz.func142,Tryz.ntmps142
  go_wp2;go_ret;exact Owned.mk (Ow.nil _ _ _ _ _) (zB6 _ _)
 | some a=>
  have H:=zA0 h;clear h;go_enter Tryz.func142,Tryz.ntmps142
  go_wp2_with (at_builtin; refine Jaf _ rfl (.tmp 5) (.tmp 6) _ rfl Jb3 rfl rfl (Jgp _ _ _ _) (H.out.alloc _) Jct (by simpa using hm) qz0 qI1 ?_; intro v' w1 hown hg hat)
  go_ret;exact Owned.mk hown (((zB6 _ _).alloc (zA3 _) _).grown hg qI1 qL0)
theorem Jo7 (v:Value) (l:List File) (w:World) (h:Sl Jaa 3 w v l) (hn:l.length*48<=140737488355328) (hm:l.length<=maxLen) :
  Calls Tryz.prog 90 #[v] w (Owned Jaa 3 128 l w):=by
 have qT:∀ (w:World) (a:Option Addr) (n c n' c':Nat),(binOp .eql 63 (.slice a n c) (.slice none n' c')).run Tryz.prog w=.ok (.bool a.isNone) w:=fun w a n c n' c'=>Lib.run_eql_slice_nil w _ _ a n c n' c' Tryz.underlying63
 obtain ⟨A,c,rfl,h1,h2⟩:=h.form;cases A with
 | none=>
  obtain rfl:=h.none_nil;clear h;go_enter Tryz.func90,Tryz.ntmps90
  go_wp2;go_ret;exact Owned.mk (Ow.nil _ _ _ _ _) (zB6 _ _)
 | some a=>
  have H:=zA0 h;clear h;go_enter Tryz.func90,Tryz.ntmps90
  go_wp2_with (at_builtin; refine Jaf _ rfl (.tmp 5) (.tmp 6) _ rfl Jc5 rfl rfl (Jgp _ _ _ _) (H.out.alloc _) Jc9 (by simpa using hm) qz0 qI1 ?_; intro v' w1 hown hg hat)
  go_ret;exact Owned.mk hown (((zB6 _ _).alloc (zA3 _) _).grown hg qI1 qL0)
theorem Jo5 (v:Value) (l:List Node) (w:World) (h:Sl Jab 9 w v l) (hn:l.length*88<=140737488355328) (hm:l.length<=maxLen) :
  Calls Tryz.prog 163 #[v] w (Owned Jab 9 75 l w):=by
 have qT:∀ (w:World) (a:Option Addr) (n c n' c':Nat),(binOp .eql 66 (.slice a n c) (.slice none n' c')).run Tryz.prog w=.ok (.bool a.isNone) w:=fun w a n c n' c'=>Lib.run_eql_slice_nil w _ _ a n c n' c' Tryz.underlying66
 obtain ⟨A,c,rfl,h1,h2⟩:=h.form;cases A with
 | none=>
  obtain rfl:=h.none_nil;clear h;go_enter Tryz.func163,Tryz.ntmps163
  go_wp2;go_ret;exact Owned.mk (Ow.nil _ _ _ _ _) (zB6 _ _)
 | some a=>
  have H:=zA0 h;clear h;go_enter Tryz.func163,Tryz.ntmps163
  go_wp2_with (at_builtin; refine Jaf _ rfl (.tmp 5) (.tmp 6) _ rfl Jc4 rfl rfl (Jgp _ _ _ _) (H.out.alloc _) Jc8 (by simpa using hm) qz0 qI1 ?_; intro v' w1 hown hg hat)
  go_ret;exact Owned.mk hown (((zB6 _ _).alloc (zA3 _) _).grown hg qI1 qL0)
theorem Jo6 (v:Value) (l:List Int) (w:World) (h:Sl cInt 1 w v l) (hn:l.length*8<=140737488355328) (hm:l.length<=maxLen) :
  Calls Tryz.prog 164 #[v] w (Owned cInt 1 3 l w):=by
 have qT:∀ (w:World) (a:Option Addr) (n c n' c':Nat),(binOp .eql 43 (.slice a n c) (.slice none n' c')).run Tryz.prog w=.ok (.bool a.isNone) w:=fun w a n c n' c'=>Lib.run_eql_slice_nil w _ _ a n c n' c' Tryz.underlying43
 obtain ⟨A,c,rfl,h1,h2⟩:=h.form;cases A with
 | none=>
  obtain rfl:=h.none_nil;clear h;go_enter Tryz.func164,Tryz.ntmps164
  go_wp2;go_ret;exact Owned.mk (Ow.nil _ _ _ _ _) (zB6 _ _)
 | some a=>
  have H:=zA0 h;clear h;go_enter Tryz.func164,Tryz.ntmps164
  go_wp2_with (at_builtin; refine Jaf _ rfl (.tmp 5) (.tmp 6) _ rfl Je6 rfl rfl (Jgp _ _ _ _) (H.out.alloc _) Jd4 (by simpa using hm) qz0 qI1 ?_; intro v' w1 hown hg hat)
  go_ret;exact Owned.mk hown (((zB6 _ _).alloc (zA3 _) _).grown hg qI1 qL0)
def ClIs (s n:Int) (l:List Entry) (w:World) (e:Ending) (w':World):Prop:=∃ A c,e=.returned (.agg #[.int .i64 s,.int .i64 n,.slice A l.length c])/\Ow Jae 3 83 w' w.heap.size (.slice A l.length c) l/\Below w.heap.size w w'
theorem clNew_ok (s:Int) (w:World) (h0:1<=s) (h1:s<=2147483647) :
  Calls Tryz.prog 49 #[.int .i64 s] w fun e w'=>e=.returned (.tuple #[.agg #[.int .i64 s,.int .i64 0,.slice none 0 0],.int .i64 0])/\Below w.heap.size w w':=by
 go_enter Tryz.func49,Tryz.ntmps49
 go_wp2;exact zA1 (v:=.tuple #[.agg #[.int .i64 s,.int .i64 0,.slice none 0 0],.int .i64 0]) (by simp [results,Tryz.results49,go_sem]) rfl ⟨rfl,(zB6 _ _).alloc (zA3 _) _⟩
theorem Jd3 (s n:Int) (v:Value) (l:List Entry) (w:World) (h:Sl Jae 3 w v l) (hn:l.length*40<=140737488355328) (hm:l.length<=maxLen) :
  Calls Tryz.prog 106 #[.agg #[.int .i64 s,.int .i64 n,v]] w (ClIs s n l w):=by
 obtain ⟨A,c,rfl,h1,h2⟩:=h.form;have H:=zA0 h;clear h;go_enter Tryz.func106,Tryz.ntmps106
 go_wp2_with (go_at_call 142; refine (JmS _ _ _ ((H.out.alloc _).alloc _) hn hm).mono ?_; rintro e w1 ⟨A',c',rfl,hown,hb⟩; obtain ⟨ext,d,rfl⟩:=zA2 _ hb);refine zA1 (v:=.agg #[.int .i64 s,.int .i64 n,.slice A' l.length c']) (by simp [results,Tryz.results106,go_sem]) rfl ⟨A',c',rfl,?_,?_⟩
 ·exact (hown.regrow (zA3 _) qI1).mono qB1
 ·exact zL
/- See: an end behind an answer that is not older -/
theorem clSee_no (s n z:Int) (w:World) (A:Option Addr) (k c:Nat) (hzn:z<n) :
  Calls Tryz.prog 76 #[.agg #[.int .i64 s,.int .i64 n,.slice A k c],.int .i64 z] w fun e w'=>e=.returned (.tuple #[.agg #[.int .i64 0,.int .i64 0,.slice none 0 0],.int .i64 15])/\Below w.heap.size w w':=by
 go_enter Tryz.func76,Tryz.ntmps76
 go_wp2;exact zA1 (v:=.tuple #[.agg #[.int .i64 0,.int .i64 0,.slice none 0 0],.int .i64 15]) (by simp [results,Tryz.results76,go_sem]) rfl ⟨rfl,zL⟩

theorem JeO {a b:Bool} (h:a=b):Ending.returned (.bool a)=Ending.returned (.bool b):=by rw [h]
def okc (c:UInt8):Bool:=decide ((97<=c.toNat/\c.toNat<=122)\/(48<=c.toNat/\c.toNat<=57)\/c.toNat=45\/c.toNat=95)
def JaK (l:List UInt8):Bool:=l.all okc && decide (0<l.length) && decide (l.length<=40)
def bs (s:ByteArray):List UInt8:=s.data.toList
@[simp] theorem Jgw (s:ByteArray):(bs s).length=s.size:=by
 show s.data.toList.length=s.data.size;simp
theorem bs_get (s:ByteArray) (k:Nat) (h:k<s.size):(bs s)[k]'qA1=s[k]:=rfl

theorem JiD (s:ByteArray) (k:Nat) (h:k<s.size):((bs s).take (k+1)).all okc=(((bs s).take k).all okc && okc s[k]):=by
 rw [List.take_succ_eq_append_getElem qA1,zN4,bs_get s k h];simp
theorem Jjg {s:ByteArray} {k:Nat} (h:k<s.size) (hk:okc s[k]=false):JaK (bs s)=false:=by
 have:(bs s).all okc=false:=by
  rw [zM2];exact ⟨(bs s)[k]'qA1,zI1 _,by rw [bs_get s k h,hk]; simp⟩
 simp [JaK,this]
theorem Jkz {k:Nat} {s:ByteArray} (h:k<s.size) (hall:((bs s).take k).all okc=true) (hk:okc s[k]=true):((bs s).take (k+1)).all okc=true:=by
 rw [JiD s k h,hall,hk]; rfl
theorem Jn5 {k:Nat} {s:ByteArray} (h:¬ k<s.size) (hk:k<=s.size) (hall:((bs s).take k).all okc=true):(!s.toList.isEmpty && decide ((s.size:Int)<=40))=JaK (bs s):=by
 obtain rfl:k=s.size:=qCE;rw [zG4 qI1] at hall;have h1:(!s.toList.isEmpty)=decide (0<(bs s).length):=by
  rw [zE4];show (!(bs s).isEmpty)=_;cases bs s <;> simp
 have h2:decide ((s.size:Int)<=40)=decide ((bs s).length<=40):=by rw [Jgw]; simp; omega
 rw [JaK,hall,h1,h2];simp
theorem Jc0 (s:ByteArray) (w:World) (hs:s.size<=9223372036854775807) :
  Calls Tryz.prog 43 #[.string s] w fun e w'=>e=.returned (.bool (JaK (bs s)))/\w=w':=by
 go_enter Tryz.func43,Tryz.ntmps43
 go_wp2;go_loop [3] (fun i=>∃ k:Nat,k<=s.size/\i=.int .i64 k/\Hid (((bs s).take k).all okc=true)) (fun i=>s.size - (intOf i).toNat)
 case atStart=>exact ⟨0,zB9 _,rfl,rfl⟩
 case round=>
  obtain ⟨k,hk,rfl,hall⟩:=hrel
  by_cases hlt:k<s.size
  ·by_cases hok:okc s[k]=true
   ·have hok':(97<=s[k].toNat/\s[k].toNat<=122)\/(48<=s[k].toNat/\s[k].toNat<=57)\/s[k].toNat=45\/s[k].toNat=95:=of_decide_eq_true hok
    have H:=zA0 (Jkz hlt hall.out hok);clear hok hall;rcases hok' with ⟨h1,h2⟩ | ⟨h1,h2⟩ | h1 | h1
    ·have g1:(97:Int)<=(s[k].toNat:Int):=by omega
     have g2:(s[k].toNat:Int)<=122:=qCE;clear h1 h2;go_wp2;go_round
     case rel=>exact ⟨k+1,by omega,by go_num,H.out⟩
     case measure=>simp [intOf]; omega
    ·have g0:(s[k].toNat:Int)<97:=by omega
     have g1:(48:Int)<=(s[k].toNat:Int):=qCE;have g2:(s[k].toNat:Int)<=57:=qCE;clear h1 h2;go_wp2;go_round
     case rel=>exact ⟨k+1,by omega,by go_num,H.out⟩
     case measure=>simp [intOf]; omega
    ·have g0:(s[k].toNat:Int)<48:=by omega
     have g1:((s[k].toNat:Int) != 45)=false:=qXE;clear h1;go_wp2;go_round
     case rel=>exact ⟨k+1,by omega,by go_num,H.out⟩
     case measure=>simp [intOf]; omega
    ·have g0:(s[k].toNat:Int)<97:=by omega
     have g3:(57:Int)<(s[k].toNat:Int):=qCE;have g1:((s[k].toNat:Int) != 45)=true:=qXE;have g2:((s[k].toNat:Int) != 95)=false:=qXE;clear h1;go_wp2;go_round
     case rel=>exact ⟨k+1,by omega,by go_num,H.out⟩
     case measure=>simp [intOf]; omega
   ·have hok':¬ ((97<=s[k].toNat/\s[k].toNat<=122)\/(48<=s[k].toNat/\s[k].toNat<=57)\/s[k].toNat=45\/s[k].toNat=95):=fun h=>hok (zB0 h)
    have H:=zA0 (Jjg hlt (by simpa using hok))
    clear hok hall;have g1:((s[k].toNat:Int) != 45)=true:=qXE;have g2:((s[k].toNat:Int) != 95)=true:=qXE;rcases (by omega:s[k].toNat<48\/(57<s[k].toNat/\s[k].toNat<97)\/122<s[k].toNat) with h1 | ⟨h1,h2⟩ | h1
    ·have g3:(s[k].toNat:Int)<48:=by omega
     clear hok' h1;go_wp2;go_ret;exact ⟨JeO H.out.symm,rfl⟩
    ·have g3:(57:Int)<(s[k].toNat:Int):=by omega
     have g4:(s[k].toNat:Int)<97:=qCE;clear hok' h1 h2;go_wp2;go_ret;exact ⟨JeO H.out.symm,rfl⟩
    ·have g3:(122:Int)<(s[k].toNat:Int):=by omega
     clear hok' h1;go_wp2;go_ret;exact ⟨JeO H.out.symm,rfl⟩
  ·have H:=zA0 (Jn5 hlt hk hall.out)
   clear hall;go_wp2
   all_goals
    go_ret;refine ⟨JeO (Eq.trans ?_ H.out),rfl⟩
    first | rfl | simp [*]
def digs:Nat->Nat->List UInt8
 | 0,_=>[]
 | k+1,n=>digs k (n / 10) ++ [UInt8.ofNat (48+n % 10)]
theorem JbL (k n:Nat):(digs k n).length=k:=by
 induction k generalizing n with
 | zero=>rfl
 | succ k ih=>simp [digs,ih]
theorem JjR (k:Nat):∀ n:Nat,digs (k+1) n=UInt8.ofNat (48+n / 10 ^ k % 10) :: digs k n:=by
 induction k with
 | zero=>intro n; simp [digs]
 | succ k ih=>
  intro n;rw [digs,ih (n / 10)];rw [digs,zF9,zR1,zI4,zL8 10]
theorem digs_pad (k j n:Nat) (h:n / 10 ^ j=0):digs (j+k) n=List.replicate k 48 ++ digs j n:=by
 induction k with
 | zero=>simp
 | succ k ih=>
  rw [show j+(k+1)=(j+k)+1 from by omega,JjR,ih,List.replicate_succ,zF9]
  have:n / 10 ^ (j+k)=0:=by rw [Nat.pow_add,<-zR1,h,Nat.zero_div]
  rw [this];rfl
def part (j n:Nat):List UInt8:=List.replicate (10 - j) 48 ++ digs j n
theorem Jgv (j n:Nat) (h:j<=10):(part j n).length=10:=by simp [part,JbL]; omega
theorem part_end (j n:Nat) (hj:j<=10) (h:n / 10 ^ j=0):part j n=digs 10 n:=by
 rw [part,<-digs_pad (10 - j) j n h,show j+(10 - j)=10 from by omega]
theorem part_set (j n:Nat) (hj:j<10):(part j n).set (9 - j) (UInt8.ofNat (48+n / 10 ^ j % 10))=part (j+1) n:=by
 unfold part;rw [JjR,show 10 - j=(9 - j)+1 from by omega,List.replicate_succ',zC0,zM3 _ _ qI1,show 10 - (j+1)=9 - j from by omega]
 simp
theorem lt_ten {n j:Nat} (hn:n<=2147483647) (h:0<n / 10 ^ j):j<10:=by
 rcases zD1 j 10 with h1 | h1
 ·exact h1
 ·have h2:10 ^ 10<=10 ^ j:=zO0 qH1 h1
  have:n / 10 ^ j=0:=Nat.div_eq_of_lt qH1;omega
abbrev zC1:=@Jgw
theorem JeM {w:World} {b j k:Nat} {v:Value} (h:k≠b):(w.setCell ⟨b,j,none⟩ v).heap[k]?=w.heap[k]?:=by
 unfold World.setCell;simp only [zO5];rw [if_neg (fun e=>h e.symm)]
def JlY {α:Type} (F:Fence) (n:Nat) (P:Program) (g:Nat) (lb:Array Value) (encs:α->Array Value) (b n₀:Nat) (S:List α) (w:World):Prop:=
 ∀ (l:Nat) (J Jx:List α->World->Prop) (W:World),Below n₀ w W->(∀ s A v,J s A->J s (A.setCell ⟨b,0,none⟩ v))->
  (∀ pre x W1,J pre W1->(pre ++ [x]) <+: S->YieldAt F (n - 1) P l (encs x) W1 fun e W'=>
   (e=.returned (.bool true)/\J (pre ++ [x]) W'/\Below n₀ W1 W')\/(e=.returned (.bool false)/\Jx (pre ++ [x]) W'))->
  J [] W->
  CallsIn F n P g (#[.func (.yield l) #[] #[]] ++ lb) W fun e W'=>(∃ v,e=.returned v)/\(J S W'\/∃ pre,Jx pre W')
variable {F:Fence} {n:Nat} {P:Program}
theorem JfC {α:Type} {g:Operand} {ps:Array Tmp} {assign body:Code} {Q:Exit->Act->World->Prop} {a:Act} {w:World}
  (hro:F.round=none) (h1:1<=n) {gf:Nat} {lb:Array Value} (hg:a.eval g=.func (.func gf) #[] lb) (hFg:F.fn gf) (eg:∀ args w,(callFunc gf args).run P w=.ok (.enter gf args) w)
  {encs:α->Array Value} {b:Nat} {S:List α} (hb:b<w.heap.size) (hseq:JlY F (n - 1) P gf lb encs b w.heap.size S w) (hps:∀ x,(encs x).size=ps.size)
  (I:List α->World->Prop) (Ix:Code->List α->World->Prop) (hI:OwnFrom w.heap.size I) (hIx:∀ c,OwnFrom w.heap.size (Ix c)) (hIs:∀ s A v,I s A->I s (A.setCell ⟨b,0,none⟩ v)) (h0:I [] w) (a₁:α->Act)
  (hassign:∀ (l:Nat) (x:α) (W:World) (K:Act->World->Prop),K (a₁ x) W->
   assign.wpIn (F.inRound l) (n - 1 - 1) P (Exit.then K (fun _ _ _=>False)) { tmps:=(ps.zip (encs x)).foldl (fun t (p,v)=>t.setIfInBounds p v) a.tmps,defers:=[] } W)
  (hbody:∀ (l:Nat) (pre:List α) (x:α) (W:World),I pre W->(pre ++ [x]) <+: S->body.wpIn (F.inRound l) (n - 1 - 1) P (ownPostK (Below w.heap.size) I Ix (pre ++ [x]) W) (a₁ x) W)
  (hdone:∀ (D:Nat) (W:World),w.heap.size<=D->I S W->W.heap[D]?=some (.deferred (some []))->Q .normal { a with defers:={ target:=.collected D,args:=#[] } :: a.defers } W)
  (hstop:∀ (D:Nat) (c:Code) (pre:List α) (W:World),w.heap.size<=D->Ix c pre W->W.heap[D]?=some (.deferred (some []))->c.wpIn F n P Q { a with defers:={ target:=.collected D,args:=#[] } :: a.defers } W) :
  (Code.rangeFunc g ps assign body).wpIn F n P Q a w:=by
 have hKt:∀ {A B C:World},Below w.heap.size A B->Below w.heap.size B C->Below w.heap.size A C:=fun h k=>h.trans k
 have hKb:∀ (W:World) (l:Nat) (o o':Obj),w.heap.size<=l->W.heap[l]?=some o->o.isCells=false->o.isWalk=false->Below w.heap.size W (W.putObj l o'):=belowK_b (zA3 _);refine wpIn_rangeFunc ?_;intro fn hfn;rw [hro];obtain ⟨rec,hrec⟩:∃ rec:LoopState->Option Code->Loop,rec=fun st pe=>{ state:=st,pending:=pe,fn,tmps:=a.tmps,params:=ps,assign,body,defers:=w.heap.size }:=⟨_,rfl⟩
 obtain ⟨W1,hW1⟩:∃ W1,(w.alloc (.deferred (some []))).alloc (.loop (rec .ready none))=W1:=⟨_,rfl⟩;have hL1:W1.heap[w.heap.size+1]?=some (.loop (rec .ready none)):=by
  rw [<-hW1]; have:=World.alloc_heap_new (w.alloc (.deferred (some []))) (.loop (rec .ready none)); rwa [World.size_alloc] at this
 have hK1:W1.heap[w.heap.size]?=some (.deferred (some [])):=by
  rw [<-hW1]; exact (Below.heap_alloc _ _ _ qI1).trans (World.alloc_heap_new w _)
 have hI1:I [] W1:=by rw [<-hW1]; exact hI.alloc _ (hI.alloc _ h0)
 have hb1:Below w.heap.size w W1:=by
  rw [<-hW1]; exact ((zB6 _ w).alloc (zA3 _) _).alloc qI1 _
 refine ⟨w.heap.size+1,[{ target:=.collected w.heap.size,args:=#[] }],W1,{ target:=.fn (.func gf) lb,args:=#[.func (.yield (w.heap.size+1)) #[] #[]] },W1,gf,
  #[.func (.yield (w.heap.size+1)) #[] #[]] ++ lb,W1,?_,?_,?_,?_,fun _=>h1,?_⟩
 ·rw [<-hW1,hrec]; exact run_enterLoop_outer _ _ _ _ _
 ·simp only [resolve,hg]
  simp [go_sem]
 ·intro f' hf'; simp [Target.leads] at hf'; subst hf'; exact hFg
 ·simp [invoke,go_sem,eg]
 ·refine (hseq (w.heap.size+1)
   (fun pre W=>I pre W/\W.heap[w.heap.size+1]?=some (.loop (rec .ready none))/\W.heap[w.heap.size]?=some (.deferred (some [])))
   (fun pre W=>∃ c,Ix c pre W/\W.heap[w.heap.size+1]?=some (.loop (rec .done (some c)))/\W.heap[w.heap.size]?=some (.deferred (some [])))
   W1 hb1
   (fun s A v hs=>⟨hIs s A v hs.1,(JeM qH1).trans hs.2.1,(JeM qH1).trans hs.2.2⟩)
   ?_ ⟨hI1,hL1,hK1⟩).mono ?_
  ·rintro pre x W ⟨hi,hl,hk⟩ hlen
   have hlt:w.heap.size+1<W.heap.size:=(zL2.1 hl).1;have hy:=run_yield (P:=P) (args:=encs x) hl (by rw [hrec]; exact hps x)
   rw [hrec] at hy;refine ⟨fn,_,assign,body,hy,roundIn_of_wpIn hfn (hassign _ x W _ ⟨_,run_beginRound hl (by rw [hrec]),?_⟩)⟩
   have hl2:(W.putObj (w.heap.size+1) (.loop { rec .ready none with state:=.busy })).heap[w.heap.size+1]?=some (.loop { rec .ready none with state:=.busy }):=World.putObj_heap_same hlt
   have hk2:(W.putObj (w.heap.size+1) (.loop { rec .ready none with state:=.busy })).heap[w.heap.size]?=some (.deferred (some [])):=(World.putObj_heap_other qH1).trans hk
   have hw2:Below w.heap.size W (W.putObj (w.heap.size+1) (.loop { rec .ready none with state:=.busy })):=hKb _ _ _ _ qH1 hl rfl rfl
   refine wpIn_mono (hbody _ pre x _ (hI.putObj _ hi qH1 hl rfl) hlen) ?_;have fin:∀ (jump:Option Code) (W3:World),KeepsOthers (W.putObj (w.heap.size+1) (.loop { rec .ready none with state:=.busy })) W3->
     (Instr.endRound (w.heap.size+1) jump).run P W3=.ok (.bool jump.isNone) (W3.putObj (w.heap.size+1) (.loop (rec (if jump.isNone then .ready else .done) jump)))/\
     W3.heap[w.heap.size+1]?=some (.loop { rec .ready none with state:=.busy })/\
     (W3.putObj (w.heap.size+1) (.loop (rec (if jump.isNone then .ready else .done) jump))).heap[w.heap.size+1]?=some (.loop (rec (if jump.isNone then .ready else .done) jump))/\
     (W3.putObj (w.heap.size+1) (.loop (rec (if jump.isNone then .ready else .done) jump))).heap[w.heap.size]?=some (.deferred (some [])):=fun jump W3 hk3=>by
    have hl3:=hk3.same _ _ hl2 rfl;have:=run_endRound (P:=P) jump hl3;rw [hrec] at this ⊢;exact ⟨this,by rw [hrec] at hl3; exact hl3,World.putObj_heap_same (zL2.1 hl3).1,(World.putObj_heap_other qH1).trans (hk3.same _ _ hk2 rfl)⟩
   rintro e a3 W3 hp;cases e with
   | normal=>
    obtain ⟨hk3,hkp3,hi3⟩:=hp;obtain ⟨hr,hl3,hl4,hk4⟩:=fin none W3 hk3;exact ⟨_,_,hr,.inl ⟨rfl,⟨hI.putObj _ hi3 qH1 hl3 rfl,hl4,hk4⟩,hKt (hKt hw2 hkp3) (hKb _ _ _ _ qH1 hl3 rfl rfl)⟩⟩
   | ret=>
    obtain ⟨hk3,hi3⟩:=hp;obtain ⟨hr,hl3,hl4,hk4⟩:=fin (some .ret) W3 hk3;exact ⟨_,_,hr,.inr ⟨rfl,.ret,(hIx _).putObj _ hi3 qH1 hl3 rfl,hl4,hk4⟩⟩
   | exit id=>
    obtain ⟨hk3,hi3⟩:=hp;obtain ⟨hr,hl3,hl4,hk4⟩:=fin (some (.exit id)) W3 hk3;exact ⟨_,_,hr,.inr ⟨rfl,.exit id,(hIx _).putObj _ hi3 qH1 hl3 rfl,hl4,hk4⟩⟩
   | goto t=>
    obtain ⟨hk3,hi3⟩:=hp;obtain ⟨hr,hl3,hl4,hk4⟩:=fin (some (.goto t)) W3 hk3;exact ⟨_,_,hr,.inr ⟨rfl,.goto t,(hIx _).putObj _ hi3 qH1 hl3 rfl,hl4,hk4⟩⟩
   | panic ch=>exact hp.elim
   | outgrown=>exact hp.elim
  ·rintro e W2 ⟨⟨v,rfl⟩,(⟨hi,hl,hk⟩ | ⟨pre,c,hi,hl,hk⟩)⟩
   ·exact ⟨none,_,by have:=run_endLoop (P:=P) hl (by rw [hrec]; simp); rw [hrec] at this; exact this,hdone _ _ (zA3 _) (hI.putObj _ hi qH1 hl rfl) ((World.putObj_heap_other qH1).trans hk)⟩
   ·exact ⟨some c,_,by have:=run_endLoop (P:=P) hl (by rw [hrec]; simp); rw [hrec] at this; exact this,hstop _ c pre _ (zA3 _) ((hIx c).putObj _ hi qH1 hl rfl) ((World.putObj_heap_other qH1).trans hk)⟩
end
section
open Go.RowKit Go.Shelf
attribute [local go_sem] Oper.semAt_some
def Jba (s:ByteArray):List ByteArray:=
 if h:0<=Lib.indexByte s.data.toList 47/\(Lib.indexByte s.data.toList 47).toNat<s.size then s.extract 0 (Lib.indexByte s.data.toList 47).toNat :: Jba (s.extract ((Lib.indexByte s.data.toList 47).toNat+1) s.size) else [s]
termination_by s.size
decreasing_by rw [zH5]; omega
theorem JfL {s:ByteArray} {o:Nat} (h:Lib.indexByte s.data.toList 47=o):o<s.size:=by
 have:=(Lib.indexByte_some h).1;have h2:=(zB3.1 this).1;simpa using h2
theorem Jf5 {s:ByteArray} (h:Lib.indexByte s.data.toList 47<0):Jba s=[s]:=by
 rw [Jba,dif_neg (fun k=>by omega)]
theorem Jfk {s:ByteArray} {o:Nat} (h:Lib.indexByte s.data.toList 47=o):Jba s=s.extract 0 o :: Jba (s.extract (o+1) s.size):=by
 have:=JfL h;rw [Jba,dif_pos ⟨by omega,by omega⟩,h]
 rfl
def leftS (b:Nat) (w:World):Nat:=match w.cell? ⟨b,0,none⟩ with
 | some (.string r)=>r.size
 | _=>0
theorem Jls {b:Nat} {w:World} {r:ByteArray} (h:w.cell? ⟨b,0,none⟩=some (.string r)):leftS b w=r.size:=by unfold leftS; rw [h]
theorem Jkj (n:Nat) (hn:1<=n) (w:World) (b b1 b2:Nat) (s:ByteArray) (c0:w.cell? ⟨b,0,none⟩=some (.string s)) (f0:w.frozen? ⟨b,0,none⟩=false) (c1:w.cell? ⟨b1,0,none⟩=some (.string ⟨#[47]⟩)) (c2:w.cell? ⟨b2,0,none⟩=some (.int .i64 0)) (n1:b1≠b) (n2:b2≠b) (hs:s.size<=4611686018427387904) :
  JlY Fence.wide n Tryz.prog 86 #[.pointer (some ⟨b1,0,none⟩),.pointer (some ⟨b,0,none⟩),.pointer (some ⟨b2,0,none⟩)] (fun x:ByteArray=>#[.string x]) b w.heap.size (Jba s) w:=by
 intro l J Jx W hW hJs hY h0;have hb:b<w.heap.size:=World.block_lt_of_cell? w _ c0;have hb1:b1<w.heap.size:=World.block_lt_of_cell? w _ c1;have hb2:b2<w.heap.size:=World.block_lt_of_cell? w _ c2;have C0:=(hW.cell (p:=⟨b,0,none⟩) hb).trans c0;have C1:=(hW.cell (p:=⟨b1,0,none⟩) hb1).trans c1;have C2:=(hW.cell (p:=⟨b2,0,none⟩) hb2).trans c2;have F0:=(World.frozen?_of_block (a:=⟨b,0,none⟩) (hW.block b hb)).trans f0;refine callsIn_of_wp Tryz.func86 rfl trivial ?_ rfl
 simp only [Tryz.ntmps86,zM9,zD5,zG6,Nat.reduceAdd,Nat.reduceSub,Array.replicate_succ,Array.replicate_zero,List.push_toArray,List.append_toArray,zE0,zF9]
 gi_wp2
 gi_loopw [7] (fun i wr=>∃ (k:Int) (pre:List ByteArray) (r:ByteArray),(i=.int .i64 k\/i=undef)/\Hid (pre ++ Jba r=Jba s)/\J pre wr/\wr.cell? ⟨b,0,none⟩=some (.string r)/\wr.cell? ⟨b1,0,none⟩=some (.string ⟨#[47]⟩)/\wr.cell? ⟨b2,0,none⟩=some (.int .i64 0)/\wr.frozen? ⟨b,0,none⟩=false/\r.size<=s.size) (fun _ wr=>leftS b wr)
 case atStart=>exact ⟨0,[],s,.inr rfl,zA0 rfl,h0,C0,C1,C2,F0,zA3 _⟩
 case round=>
  obtain ⟨k,pre,r,_,hst,hJ,d0,d1,d2,df,hrs⟩:=hrel;clear C0 C1 C2 F0 c0 c1 c2 f0;have hm:=Jls d0;have hge:=Lib.indexByte_ge r.data.toList 47;rcases zK8 (Lib.indexByte r.data.toList 47) 0 with hi | hi
  ·have hlast:=Jf5 hi
   have hi1:Lib.indexByte r.data.toList 47 = -1:=qCE;obtain ⟨fn,tmps,assign,body,hy,hR⟩:=hY pre r wr hJ (by rw [<-hst.out,hlast]; exact zH4 _)
   have HST:=zA0 (show pre ++ [r]=Jba s by rw [<-hst.out,hlast])
   clear hst hlast hY
   gi_wp2_with (refine ⟨trivial,?_⟩; gi_at_call 88; refine (callsIn_wide.2 (Tryz.strings_Index_one _ _ _)).mono ?_; rintro e w' ⟨rfl,rfl⟩; rw [hi1])
   refine hR.mono ?_;rintro e W3 (⟨rfl,hJ3,hk3⟩ | ⟨rfl,hJx3⟩)
   ·gi_wp2
    go_end0;exact ⟨⟨_,rfl⟩,.inl (by rw [<-HST.out]; exact hJ3)⟩
   ·gi_wp2
    go_end0;exact ⟨⟨_,rfl⟩,.inr ⟨_,hJx3⟩⟩
  ·obtain ⟨o,ho⟩:=zG8 hi
   have hlt:=JfL ho;have hyes:=Jfk ho;obtain ⟨fn,tmps,assign,body,hy,hR⟩:=hY pre (r.extract 0 o) wr hJ (by rw [<-hst.out,hyes]; exact ⟨Jba (r.extract (o+1) r.size),by simp⟩)
   have HST:=zA0 (show (pre ++ [r.extract 0 o]) ++ Jba (r.extract (o+1) r.size)=Jba s by rw [<-hst.out,hyes,zC0]; rfl)
   clear hst hyes hY
   gi_wp2_with (refine ⟨trivial,?_⟩; gi_at_call 88; refine (callsIn_wide.2 (Tryz.strings_Index_one _ _ _)).mono ?_; rintro e w' ⟨rfl,rfl⟩; rw [ho])
   refine hR.mono ?_;rintro e W3 (⟨rfl,hJ3,hk3⟩ | ⟨rfl,hJx3⟩)
   ·have e0:=(hk3.cell (p:=⟨b,0,none⟩) hb).trans d0
    have e1:=(hk3.cell (p:=⟨b1,0,none⟩) hb1).trans d1;have e2:=(hk3.cell (p:=⟨b2,0,none⟩) hb2).trans d2;have ef:=(World.frozen?_of_block (a:=⟨b,0,none⟩) (hk3.block b hb)).trans df;clear d0 d1 d2 df
    gi_wp2
    have g0:(W3.setCell ⟨b,0,none⟩ (.string (r.extract (o+1) r.size))).cell? ⟨b,0,none⟩=some (.string (r.extract (o+1) r.size)):=World.cell?_setCell_same' _ _ _ (by rw [e0]; rfl)
    have hsz:(r.extract (o+1) r.size).size=r.size - (o+1):=by rw [zH5]; omega
    go_roundw
    case rel=>exact ⟨_,_,_,.inl rfl,HST,hJs _ _ _ hJ3,g0,(World.cell?_setCell_other _ _ _ _ (fun h=>n1 (by injection h with h; exact h.symm))).trans e1,(World.cell?_setCell_other _ _ _ _ (fun h=>n2 (by injection h with h; exact h.symm))).trans e2,by rw [World.frozen?_setCell]; exact ef,by omega⟩
    case measure=>rw [Jls g0,hm,hsz]; omega
   ·gi_wp2
    refine zA1 (results_none rfl _ _ _) rfl ?_;exact ⟨⟨_,rfl⟩,.inr ⟨_,hJx3⟩⟩
end
section
open Go.RowKit

theorem ret_int {k:IntKind} {a b:Int} (h:a=b):Ending.returned (.int k a)=Ending.returned (.int k b):=by rw [h]
theorem Jle {a b:Bool} (h:a=b):Ending.returned (.bool a)=Ending.returned (.bool b):=by rw [h]
theorem ret_ii {k k':IntKind} {a b c d:Int} (h:a=b) (h':c=d):Ending.returned (.tuple #[.int k a,.int k' c])=Ending.returned (.tuple #[.int k b,.int k' d]):=by rw [h,h']

theorem JlT (a:Nat) (ha:a<9223372036854775808):(BitVec.ofInt 64 (a:Int)).toNat=a:=by
 rw [BitVec.ofInt_natCast,BitVec.toNat_ofNat];exact zN1 qH1
theorem Jpg (a:Int) (h0:0<=a) (h1:a<4611686018427387904):bits .and .i64 a 2147483647=a % 2147483648:=by
 obtain ⟨n,rfl⟩:=zG8 h0;have hx:n &&& 2147483647=n % 2147483648:=Nat.and_two_pow_sub_one_eq_mod n 31;show IntKind.i64.wrap ((BitVec.ofInt 64 (n:Int) &&& BitVec.ofInt 64 ((2147483647:Nat):Int)).toNat:Int)=_;rw [BitVec.toNat_and,JlT n qH1,JlT 2147483647 qH1,hx,zP8];omega
theorem Jph (a b:Int) (h0:0<=a) (h1:a<=2147483647) (h2:0<=b) (h3:b<=2147483647):bits .or .i64 (a*2147483648) b=a*2147483648+b:=by
 obtain ⟨n,rfl⟩:=zG8 h0;obtain ⟨m,rfl⟩:=zG8 h2;have hx:n*2147483648 ||| m=n*2147483648+m:=by
  have:=Nat.shiftLeft_add_eq_or_of_lt (b:=m) (i:=31) qH1 n;rw [Nat.shiftLeft_eq] at this;exact this.symm
 show IntKind.i64.wrap ((BitVec.ofInt 64 (((n*2147483648:Nat):Int)) ||| BitVec.ofInt 64 (m:Int)).toNat:Int)=_;rw [BitVec.toNat_or,JlT _ qH1,JlT m qH1,hx,zP8];omega

def Zx (a:Int):Prop:=0<=a/\a<4611686018427387904
def Half (a:Int):Prop:=0<=a/\a<=2147483647

theorem JhP (a b:Int) (w:World) (ha:Half a) (hb:Half b) :
  Calls Tryz.prog 94 #[.int .i64 a,.int .i64 b] w fun e w'=>e=.returned (.tuple #[.int .i64 (a*2147483648+b),.int .i64 0])/\w=w':=by
 obtain ⟨h0,h1⟩:=ha;obtain ⟨h2,h3⟩:=hb;go_enter Tryz.func94,Tryz.ntmps94
 go_wp2;go_ret2;exact ⟨ret_ii (Jph a b h0 h1 h2 h3) rfl,rfl⟩
theorem Jk1 (a b:Int) (w:World) (h:¬ (Half a/\Half b)) :
  Calls Tryz.prog 94 #[.int .i64 a,.int .i64 b] w fun e w'=>e=.returned (.tuple #[.int .i64 0,.int .i64 3])/\w=w':=by
 have h':a<0\/2147483647<a\/b<0\/2147483647<b:=by unfold Half at h; omega
 clear h;go_enter Tryz.func94,Tryz.ntmps94
 go_wp2
 all_goals
  go_ret2;exact ⟨rfl,rfl⟩
theorem Ja4 (a:Int) (w:World) (h:Zx a) :
  Calls Tryz.prog 95 #[.int .i64 a] w fun e w'=>e=.returned (.bool true)/\w=w':=by
 obtain ⟨ha,ha'⟩:=h;go_enter Tryz.func95,Tryz.ntmps95
 go_wp2;go_ret;exact ⟨rfl,rfl⟩
theorem JeA (a:Int) (w:World) (h:¬ Zx a) :
  Calls Tryz.prog 95 #[.int .i64 a] w fun e w'=>e=.returned (.bool false)/\w=w':=by
 have ha:a<0\/(0<=a/\¬ a<4611686018427387904):=by unfold Zx at h; omega
 clear h;rcases ha with ha | ⟨h0,ha⟩
 ·go_enter Tryz.func95,Tryz.ntmps95
  go_wp2;go_ret;exact ⟨rfl,rfl⟩
 ·go_enter Tryz.func95,Tryz.ntmps95
  go_wp2;go_ret;exact ⟨Jle qI1,rfl⟩
theorem JiG (a:Int) (w:World) (h:Zx a) :
  Calls Tryz.prog 66 #[.int .i64 a] w fun e w'=>e=.returned (.int .i64 (a / 2147483648))/\w=w':=by
 have ha:=h.1;have ha':=h.2;go_enter Tryz.func66,Tryz.ntmps66
 go_wp2_with (go_at_call 95; refine (Ja4 _ _ h).mono ?_; rintro e w' ⟨rfl,rfl⟩);go_ret;exact ⟨rfl,rfl⟩
theorem Jm4 (a:Int) (w:World) (h:¬ Zx a) :
  Calls Tryz.prog 66 #[.int .i64 a] w fun e w'=>e=.returned (.int .i64 0)/\w=w':=by
 have H:=zA0 h;clear h;go_enter Tryz.func66,Tryz.ntmps66
 go_wp2_with (go_at_call 95; refine (JeA _ _ H.out).mono ?_; rintro e w' ⟨rfl,rfl⟩);go_ret;exact ⟨rfl,rfl⟩
theorem JfT (a:Int) (w:World) (h:Zx a) :
  Calls Tryz.prog 128 #[.int .i64 a] w fun e w'=>e=.returned (.int .i64 (a % 2147483648))/\w=w':=by
 have ha:=h.1;have ha':=h.2;go_enter Tryz.func128,Tryz.ntmps128
 go_wp2_with (go_at_call 95; refine (Ja4 _ _ h).mono ?_; rintro e w' ⟨rfl,rfl⟩);go_ret;exact ⟨ret_int (Jpg a ha ha'),rfl⟩
theorem znext_ok (a:Int) (w:World) (h:Zx a) (hc:a % 2147483648<2147483647) :
  Calls Tryz.prog 100 #[.int .i64 a] w fun e w'=>e=.returned (.tuple #[.int .i64 (a+1),.int .i64 0])/\w=w':=by
 have ha:=h.1;have ha':=h.2;go_enter Tryz.func100,Tryz.ntmps100
 go_wp2_with (first | (go_at_call 95; refine (Ja4 _ _ h).mono ?_; rintro e w' ⟨rfl,rfl⟩) | (go_at_call 128; refine (JfT _ _ h).mono ?_; rintro e w' ⟨rfl,rfl⟩));go_ret2;exact ⟨rfl,rfl⟩
theorem Jl0 (a:Int) (w:World) (h:Zx a) (hc:¬ a % 2147483648<2147483647) :
  Calls Tryz.prog 100 #[.int .i64 a] w fun e w'=>e=.returned (.tuple #[.int .i64 0,.int .i64 6])/\w=w':=by
 have ha:=h.1;have ha':=h.2;go_enter Tryz.func100,Tryz.ntmps100
 go_wp2_with (first | (go_at_call 95; refine (Ja4 _ _ h).mono ?_; rintro e w' ⟨rfl,rfl⟩) | (go_at_call 128; refine (JfT _ _ h).mono ?_; rintro e w' ⟨rfl,rfl⟩));go_ret2;exact ⟨rfl,rfl⟩
theorem znext_no (a:Int) (w:World) (h:¬ Zx a) :
  Calls Tryz.prog 100 #[.int .i64 a] w fun e w'=>e=.returned (.tuple #[.int .i64 0,.int .i64 3])/\w=w':=by
 have H:=zA0 h;clear h;go_enter Tryz.func100,Tryz.ntmps100
 go_wp2_with (go_at_call 95; refine (JeA _ _ H.out).mono ?_; rintro e w' ⟨rfl,rfl⟩);go_ret2;exact ⟨rfl,rfl⟩
end
end Go.Proofs.YtjnooagaghdkdaaGreatDoor
namespace Go.Proofs.YtjnooagaghdkdaaGreatDoor
def Jao (l:List Txn):Int:=match l.getLast? with | some t=>t.zxid | none=>0
theorem Jcb:Jao []=0:=rfl
theorem Jlu {l:List Txn} {m:Nat} {t:Txn} (hm:l.length=m+1) (ht:l[m]?=some t):Jao l=t.zxid:=by
 unfold Jao;rw [List.getLast?_eq_getElem?,hm,Nat.add_sub_cancel,ht]
end Go.Proofs.YtjnooagaghdkdaaGreatDoor
namespace Go.Proofs.YtjnooagaghdkdaaGreatDoor
section
open Go.RowKit Go.ChangeShapes Go.WideShapes Go.ChangeAt
theorem Jel (v:Value) (l:List Txn) (w:World) (h:Sl cTxn 7 w v l) :
  Calls Tryz.prog 84 #[v] w fun e w'=>e=.returned (.int .i64 (Jao l))/\w=w':=by
 obtain ⟨A,c,rfl,hc1,hc2⟩:=h.form;rcases zK3 l.length with h0 | h0
 ·obtain rfl:=zK2 h0
  rw [Jcb];simp only [zG6];clear h h0;go_enter Tryz.func84,Tryz.ntmps84
  go_wp2;go_ret;exact ⟨rfl,rfl⟩
 ·obtain ⟨m,hm⟩:∃ m,l.length=m+1:=⟨l.length - 1,by omega⟩
  have hx:l[m]?=some (l[m]'qH1):=zA8 _;obtain ⟨b,off,rfl,hbw,c0,_⟩:=h.Txn_at hx;rw [Jlu hm hx];generalize l[m]'qH1=x at c0;rw [hm] at hc1 ⊢;have hm2:m+1<=9223372036854775807:=zB5 hc1 (zB5 hc2 qG1);clear h h0 hx;go_enter Tryz.func84,Tryz.ntmps84
  go_wp2;go_ret;exact ⟨rfl,rfl⟩
end
section
open Go.RowKit Go.ChangeShapes Go.WideShapes Go.Deep
set_option linter.unusedVariables false
section
variable {H:Type} {enc:TypeId × Value->H} {P:Program} {w:World} {spare:Nat->Bool} {held:Bool}
end
section
variable {P:Program} {w:World} {n:Nat} {t:TypeId} {cs:List Value}
end
end
section
open Go.RowKit Go.ChangeShapes Go.WideShapes Go.ChangeAt
def Jbp (a:Int):Int:=if 0<=a/\a<4611686018427387904 then a / 2147483648 else 0
theorem JdR (a:Int) (w:World) :
  Calls Tryz.prog 66 #[.int .i64 a] w fun e w'=>e=.returned (.int .i64 (Jbp a))/\w=w':=by
 unfold Jbp
 by_cases h:0<=a/\a<4611686018427387904
 ·rw [if_pos h]; exact JiG a w h
 ·rw [if_neg h]; exact Jm4 a w h
@[go_sem] theorem bytes_beq (a b:ByteArray):(a.toList == b.toList)=decide (a=b):=by
 rw [zE4,zE4]
 by_cases h:a=b
 ·subst h; simp
 ·rw [zA7 h,zB7]
  intro e;exact h (ByteArray.ext (zN7.mp e))
theorem Ji7 {a b:Bool} (h:a=b):Ending.returned (.bool a)=Ending.returned (.bool b):=by rw [h]
def Jbm (x:Watch) (e:Event):Bool:=if x.path=e.path then (if x.kind=2 then (e.kind == 4 || e.kind == 2) else (e.kind == 1 || e.kind == 2 || e.kind == 3)) else false
theorem Jl5 (x:Watch) (ev:Event) (w:World) :
  Calls Tryz.prog 153 #[.agg #[.int .i64 x.session,.int .i64 x.kind,.string x.path],.agg #[.int .i64 ev.kind,.string ev.path]] w fun e w'=>e=.returned (.bool (Jbm x ev))/\Below w.heap.size w w':=by
 unfold Jbm;obtain ⟨s,k,p⟩:=x;obtain ⟨ek,ep⟩:=ev;simp only
 by_cases hp:p=ep
 ·subst hp
  rw [if_pos rfl]
  by_cases hk:k=2
  ·subst hk
   rw [if_pos rfl];go_enter Tryz.func153,Tryz.ntmps153
   go_wp2
   all_goals
    go_ret;exact ⟨Ji7 (by first | rfl | simp_all),zL⟩
  ·rw [if_neg hk]
   go_enter Tryz.func153,Tryz.ntmps153
   go_wp2
   all_goals
    go_ret;exact ⟨Ji7 (by first | rfl | simp_all),zL⟩
 ·rw [if_neg hp]
  go_enter Tryz.func153,Tryz.ntmps153
  go_wp2;go_ret;exact ⟨rfl,zL⟩
/-! ### the state that Fire's closure works on: the notes' variable, and blocks that it leaves as they are -/
def FSat (w W:World) (bn:Nat) (notes:List Note) (bs:List (Nat × List Value × TypeId)) (A:Option Addr) (c:Nat):Prop:=
 Below w.heap.size w W/\w.heap.size<=bn/\Bk W bn [.slice A notes.length c] 33/\Ow JbZ 3 80 W w.heap.size (.slice A notes.length c) notes/\(Value.slice A notes.length c).ownBlock≠some bn/\
  ∀ b∈bs,Bk W b.1 b.2.1 b.2.2/\b.1≠bn/\(Value.slice A notes.length c).ownBlock≠some b.1
def FS (w W:World) (bn:Nat) (notes:List Note) (bs:List (Nat × List Value × TypeId)):Prop:=∃ A c,FSat w W bn notes bs A c
section
variable {w W W':World} {bn:Nat} {notes:List Note} {bs bs':List (Nat × List Value × TypeId)}
theorem FS.below (h:FS w W bn notes bs) (hb:Below W.heap.size W W'):FS w W' bn notes bs:=by
 obtain ⟨A,c,h1,h2,h3,h4,h5,h6⟩:=h;exact ⟨A,c,zB8 h1 hb,h2,h3.below hb,h4.below hb,h5,fun b hm=>⟨(h6 b hm).1.below hb,(h6 b hm).2⟩⟩
theorem FS.sub (h:FS w W bn notes bs) (hs:∀ b∈bs',b∈bs):FS w W bn notes bs':=by
 obtain ⟨A,c,h1,h2,h3,h4,h5,h6⟩:=h;exact ⟨A,c,h1,h2,h3,h4,h5,fun b hm=>h6 b (hs b hm)⟩
theorem FS.base (h:FS w W bn notes bs):Below w.heap.size w W:=h.choose_spec.choose_spec.1
theorem FS.bk (h:FS w W bn notes bs) {g:Nat} {cs:List Value} {t:TypeId} (hm:(g,cs,t)∈bs):Bk W g cs t:=(h.choose_spec.choose_spec.2.2.2.2.2 _ hm).1
theorem FS.push (h:FS w W bn notes bs) (cs:List Value) (t:TypeId):FS w (W.alloc (.cells cs.toArray t)) bn notes ((W.heap.size,cs,t) :: bs):=by
 have h':=h.below (W':=W.alloc (.cells cs.toArray t)) (Jbt _ (zB6 _ _));obtain ⟨A,c,h1,h2,h3,h4,h5,h6⟩:=h;obtain ⟨_,_,h1',h2',_,_,_,h6'⟩:=h';have hb:Below W.heap.size W (W.alloc (.cells cs.toArray t)):=Jbt _ (zB6 _ _);refine ⟨A,c,zB8 h1 hb,h2,h3.below hb,h4.below hb,h5,fun b hm=>?_⟩
 rcases zE2.1 hm with rfl | hm
 ·refine ⟨by unfold Bk; show (W.heap.push _)[W.heap.size]?=_; simp,by have:=h3.lt; omega,fun e=>?_⟩
  have:=(h4.own_in e).2;omega
 ·exact ⟨(h6 b hm).1.below hb,(h6 b hm).2⟩
theorem FS.put {g:Nat} {cs:List Value} {t:TypeId} (h:FS w W bn notes ((g,cs,t) :: bs)) (hg:w.heap.size<=g) (hne:∀ b∈bs,b.1≠g) (j:Nat) (v:Value):FS w (W.setCell ⟨g,j,none⟩ v) bn notes ((g,cs.set j v,t) :: bs):=by
 obtain ⟨A,c,h1,h2,h3,h4,h5,h6⟩:=h;obtain ⟨k1,k2,k3⟩:=h6 _ zF5;have hgr:=zD9 W g j v;refine ⟨A,c,Below.put h1 hg,h2,h3.grown hgr (by simpa using Ne.symm k2),h4.kept hgr (.inr k3),h5,fun b hm=>?_⟩
 rcases zE2.1 hm with rfl | hm
 ·exact ⟨k1.put j v,k2,k3⟩
 ·obtain ⟨q1,q2,q3⟩:=h6 b (zF2 _ hm)
  exact ⟨q1.grown hgr (by simpa using hne b hm),q2,q3⟩
theorem FSat.note {W4 w5:World} {A A':Option Addr} {c c':Nat} {x:Note} (h:FSat w W bn notes bs A c) (hb:Below W.heap.size W W4) (hown:Ow JbZ 3 80 w5 w.heap.size (.slice A' (notes ++ [x]).length c') (notes ++ [x]))
  (hg:W4.grownBy w5 (Value.slice A notes.length c).ownBlock) (hat:(Value.slice A' (notes ++ [x]).length c').ownBlock=(Value.slice A notes.length c).ownBlock\/(Value.slice A' (notes ++ [x]).length c').ownBlock=some W4.heap.size) :
  FS w (w5.setCell ⟨bn,0,none⟩ (.slice A' (notes ++ [x]).length c')) bn (notes ++ [x]) bs:=by
 obtain ⟨h1,h2,h3,h4,h5,h6⟩:=h;have hlt:=h3.lt;have hsz:=hb.size;have hne:(Value.slice A' (notes ++ [x]).length c').ownBlock≠some bn:=by
  rcases hat with e | e
  ·rw [e]; exact h5
  ·rw [e]; intro e'; injection e' with e'; omega
 have hbase:Below w.heap.size w w5:=(zB8 h1 hb).grown hg (by have:=h1.size; omega) (fun k hk=>(h4.own_in hk).1)
 have hgr:=zD9 w5 bn 0 (.slice A' (notes ++ [x]).length c');refine ⟨A',c',Below.put hbase h2,h2,?_,hown.kept hgr (.inr hne),hne,fun b hm=>?_⟩
 ·exact ((h3.below hb).grown hg (fun e=>h5 e.symm)).put 0 _
 ·obtain ⟨q1,q2,q3⟩:=h6 b hm
  refine ⟨((q1.below hb).grown hg (fun e=>q3 e.symm)).grown hgr (by simpa using q2),q2,?_⟩
  rcases hat with e | e
  ·rw [e]; exact q3
  ·rw [e]; intro e'; injection e' with e'; have:=q1.lt; omega
end
def Jhl (ev:Event) (x:Watch):Note:=⟨x.session,ev.kind,ev.path⟩
def JaI (ev:Event) (l:List Watch):List Note:=(l.filter (fun x=>Jbm x ev)).map (Jhl ev)
theorem JgP (x:Watch) (ev:Event) (w W:World) (bn be:Nat) (notes:List Note) (bs:List (Nat × List Value × TypeId)) (h:FS w W bn notes bs) (he:(be,JaG ev,78)∈bs) (hn:(notes.length+1)*32<=140737488355328) :
  Calls Tryz.prog 152 #[.agg #[.int .i64 x.session,.int .i64 x.kind,.string x.path],.pointer (some ⟨be,0,none⟩),.pointer (some ⟨bn,0,none⟩)] W
   fun e W'=>e=.returned (.bool (Jbm x ev))/\FS w W' bn (notes ++ JaI ev [x]) bs:=by
 have HF:=zA0 h;obtain ⟨A,c,hat0⟩:=h;have HA0:=zA0 hat0;obtain ⟨h1,h2,h3,h4,h5,h6⟩:=hat0;have HT:=zA0 (fun (W':World)=>Jl5 x ev W')
 have e0:W.cell? ⟨be,0,none⟩=some (.int .i64 ev.kind):=(h6 _ he).1.cell 0;have e1:W.cell? ⟨be,1,none⟩=some (.string ev.path):=(h6 _ he).1.cell 1;have n0:W.cell? ⟨bn,0,none⟩=some (.slice A notes.length c):=h3.cell 0;have H3:=zA0 h3;have H4:=zA0 h4;have H5:=zA0 h5;have hbW:w.heap.size<=W.heap.size:=h1.size;have hxn:JaI ev [x]=if Jbm x ev then [Jhl ev x] else []:=by
  unfold JaI;cases hh:Jbm x ev <;> simp [hh]
 rw [hxn];clear h1 h2 h3 h4 h5 h6 hxn;generalize Jbm x ev=tb at *;cases tb with
 | false=>
  simp only [zC7,if_false,zE9];go_enter Tryz.func152,Tryz.ntmps152
  go_wp2_with (first | (go_at_call 153; refine zc (HT.out _) (fun ext d=>?_)))
  go_ret;exact ⟨rfl,HF.out.below zL⟩
 | true=>
  simp only [if_true];go_enter Tryz.func152,Tryz.ntmps152
  go_wp2_with (first | (go_at_call 153; refine zc (HT.out _) (fun ext d=>?_)) | (at_builtin; refine Jaf _ rfl (.tmp 10) (.tmp 15) _ rfl JlE (B:=w.heap.size) (l:=notes) (m:=[Jhl ev x]) rfl rfl (H4.out.below zL) (Sl.one_at JbZ 3 _ _ _ rfl _ rfl qH1 qI1) Jfc qs0 qB1 qB1 ?_; intro v2 w2 hown2 hg2 hat2; obtain ⟨A2,c2,rfl,_⟩:=hown2.form; have HO2:=zA0 hown2; have HG2:Hid (World.grownBy _ w2 (Value.slice A notes.length c).ownBlock):=zA0 hg2; have HA2:Hid (_=(Value.slice A notes.length c).ownBlock\/_=some _):=zA0 hat2; have hb2:=(H3.out.below zL).grown HG2.out (fun e=>H5.out e.symm); have cN:w2.cell? ⟨bn,0,none⟩=some (.slice A notes.length c):=hb2.cell 0; have fN:w2.frozen? ⟨bn,0,none⟩=false:=hb2.frozen 0; clear hown2 hg2 hat2 hb2))
  go_ret;have hf:=HA0.out.note zL HO2.out HG2.out HA2.out;rw [zA9,zM4] at hf;exact ⟨rfl,hf⟩
theorem JiA {W:World} {g k:Nat} {l:List Watch} {J:List Value} {t:TypeId} {x:Watch} (h:Bk W g (l.flatMap Jal ++ J) t) (hx:l[k]?=some x) :
  W.cell? ⟨g,k*3,none⟩=some (.int .i64 x.session)/\W.cell? ⟨g,k*3+1,none⟩=some (.int .i64 x.kind)/\W.cell? ⟨g,k*3+2,none⟩=some (.string x.path):=by
 have key:∀ j u,(Jal x)[j]?=some u->W.cell? ⟨g,k*3+j,none⟩=some u:=by
  intro j u hu;have h0:(l.flatMap Jal)[k*3+j]?=some u:=JbN (f:=Jal) (s:=3) (fun y _=>rfl) hx hu
  rw [h.cell,zF1 (zB3.1 h0).1,h0]
 exact ⟨key 0 _ rfl,key 1 _ rfl,key 2 _ rfl⟩
theorem Jgq (ev:Event) (x:Watch):JaI ev [x]=if Jbm x ev then [Jhl ev x] else []:=by
 unfold JaI;cases hh:Jbm x ev <;> simp [hh]
theorem Jeg (ev:Event) (a b:List Watch):JaI ev (a ++ b)=JaI ev a ++ JaI ev b:=by unfold JaI; simp
def IdxIs (ev:Event) (w:World) (bn:Nat) (notes:List Note) (bs:List (Nat × List Value × TypeId)) (l:List Watch) (e:Ending) (W':World):Prop:=
 ((∀ x∈l,Jbm x ev=false)/\e=.returned (.int .i64 (-1))/\FS w W' bn notes bs)\/
 (∃ (i:Nat) (x:Watch),(∀ x∈l.take i,Jbm x ev=false)/\l[i]?=some x/\Jbm x ev=true/\e=.returned (.int .i64 i)/\FS w W' bn (notes ++ [Jhl ev x]) bs)
theorem Jok (ev:Event) (w W:World) (bn be gL c:Nat) (l:List Watch) (J:List Value) (notes:List Note) (bs:List (Nat × List Value × TypeId)) (h:FS w W bn notes bs) (he:(be,JaG ev,78)∈bs) (hl:(gL,l.flatMap Jal ++ J,148)∈bs)
  (hn:(notes.length+1)*32<=140737488355328) (hm:l.length<=140737488355328) :
  Calls Tryz.prog 176 #[.slice (some ⟨gL,0,none⟩) l.length c,.func (.func 152) #[] #[.pointer (some ⟨be,0,none⟩),.pointer (some ⟨bn,0,none⟩)]] W (IdxIs ev w bn notes bs l):=by
 have HF:=zA0 h;have HLm:=zA0 hl;have HC:=zA0 (fun (x:Watch) (W':World) (hf:FS w W' bn notes bs)=>JgP x ev w W' bn be notes bs hf he hn)
 clear h hl he;go_enter Tryz.func176,Tryz.ntmps176
 go_wp2_with fail;go_loopw [8] (fun i wr=>∃ (k:Nat),k<=l.length/\i=.int .i64 k/\Hid (FS w wr bn notes bs)/\Hid (∀ x∈l.take k,Jbm x ev=false)) (fun i _=>l.length - (intOf i).toNat)
 case atStart=>exact ⟨0,zB9 _,rfl,HF,zA0 qI1⟩
 case round=>
  obtain ⟨k,hk,rfl,hf,hno⟩:=hrel
  by_cases hlt:k<l.length
  ·have hx:l[k]?=some (l[k]'hlt):=zA8 _
   obtain ⟨c0,c1,c2⟩:=JiA (hf.out.bk HLm.out) hx;generalize hxe:l[k]'hlt=x at hx c0 c1 c2;have HCX:=zA0 (HC.out x _ hf.out);rw [Jgq] at HCX;cases htb:Jbm x ev with
   | true=>
    rw [htb] at HCX;simp only [if_true] at HCX;have HTB:=zA0 htb;clear htb;go_wp2_with (first | (go_at_call 152; refine (HCX.out).mono ?_; rintro e w1 ⟨rfl,hf1⟩; have HF1:=zA0 hf1; clear hf1));go_ret;exact .inr ⟨k,x,hno.out,hx,HTB.out,rfl,HF1.out⟩
   | false=>
    rw [htb] at HCX;simp only [zC7,if_false,zE9] at HCX;have HTB:=zA0 htb;clear htb;go_wp2_with (first | (go_at_call 152; refine (HCX.out).mono ?_; rintro e w1 ⟨rfl,hf1⟩; have HF1:=zA0 hf1; clear hf1));go_roundw
    case rel=>exact ⟨k+1,by omega,by go_num,HF1,zA0 (fun y hy=>by
     rw [zF7,hx,zE7] at hy;rcases hy with hy | hy
     ·exact hno.out y hy
     ·obtain rfl:=zE3.1 hy
      exact HTB.out)⟩
    case measure=>simp [intOf]; omega
  ·have hk':k=l.length:=by omega
   subst hk';go_wp2_with fail;go_ret;refine .inl ⟨fun x hx=>hno.out x (by rw [zG1]; exact hx),rfl,hf.out⟩
theorem Jme (cs:List Value) (o:Nat):splice cs o []=cs:=by simp [splice]
theorem Jep (cs:List Value) (o:Nat) (v:Value) (r:List Value) (hl:o+(r.length+1)<=cs.length):splice (cs.set o v) (o+1) r=splice cs o (v :: r):=by
 unfold splice;have h1:(cs.set o v).take (o+1)=cs.take o ++ [v]:=by
  rw [zF7,zJ7 qH1,zQ4 qH1];rfl
 rw [h1,zQ5 qH1,zD5,show o+(r.length+1)=o+1+r.length from by omega]
 simp
theorem set3 {l:List Watch} {J:List Value} {a:Nat} (ha:a<l.length) (x:Watch) :
  ((((l.flatMap Jal ++ J).set (a*3) (.int .i64 x.session)).set (a*3+1) (.int .i64 x.kind)).set (a*3+2) (.string x.path))=(l.set a x).flatMap Jal ++ J:=by
 have hlen:(l.flatMap Jal).length=l.length*3:=zC5 (fun y _=>rfl)
 have hle:a*3+3<=(l.flatMap Jal ++ J).length:=by rw [zA9,hlen]; omega
 rw [<-Jdn (f:=Jal) (s:=3) (fun y _=>rfl) ha x rfl J]
 show _=splice _ (a*3) [Value.int .i64 x.session,Value.int .i64 x.kind,Value.string x.path];rw [<-Jep _ _ _ _ (by simpa using hle),<-Jep _ _ _ _ (by rw [zF4]; simpa using hle),<-Jep _ _ _ _ (by rw [zF4,zF4]; simpa using hle),Jme]
theorem FS.clr {w W W':World} {bn g:Nat} {notes:List Note} {bs:List (Nat × List Value × TypeId)} {cs cs':List Value} {t:TypeId} (h:FS w W bn notes ((g,cs,t) :: bs)) (hg:w.heap.size<=g) (hne:∀ b∈bs,b.1≠g) (hb:Bk W' g cs' t) (hgr:W.grownBy W' (some g)):FS w W' bn notes ((g,cs',t) :: bs):=by
 obtain ⟨A,c,h1,h2,h3,h4,h5,h6⟩:=h;obtain ⟨k1,k2,k3⟩:=h6 _ zF5;refine ⟨A,c,h1.grown hgr h1.size (by rintro k ⟨⟩; exact hg),h2,h3.grown hgr (by simpa using Ne.symm k2),h4.kept hgr (.inr k3),h5,fun b hm=>?_⟩
 rcases zE2.1 hm with rfl | hm
 ·exact ⟨hb,k2,k3⟩
 ·obtain ⟨q1,q2,q3⟩:=h6 b (zF2 _ hm)
  exact ⟨q1.grown hgr (by simpa using hne b hm),q2,q3⟩
def Jbb (ev:Event) (l:List Watch):List Watch:=l.filter (fun x=>!Jbm x ev)
theorem Jgy {ev:Event} {l:List Watch} (h:∀ x∈l,Jbm x ev=false):Jbb ev l=l/\JaI ev l=[]:=by
 constructor
 ·exact List.filter_eq_self.2 (fun x hx=>by simp [h x hx])
 ·unfold JaI
  rw [List.filter_eq_nil_iff.2 (fun x hx=>by simp [h x hx])]
  rfl
theorem Jdj (ev:Event) (a b:List Watch):Jbb ev (a ++ b)=Jbb ev a ++ Jbb ev b:=by unfold Jbb; simp
def DelIs (ev:Event) (w:World) (bn gL c:Nat) (notes:List Note) (bs:List (Nat × List Value × TypeId)) (l:List Watch) (N:Nat) (e:Ending) (W':World):Prop:=
 ∃ J',e=.returned (.slice (some ⟨gL,0,none⟩) (Jbb ev l).length c)/\FS w W' bn (notes ++ JaI ev l) ((gL,(Jbb ev l).flatMap Jal ++ J',148) :: bs)/\((Jbb ev l).flatMap Jal ++ J').length=N
def Mid (ev:Event) (l cur:List Watch) (a j:Nat):Prop:=a<j/\j<=l.length/\cur.length=l.length/\cur.take a=Jbb ev (l.take j)/\cur.drop j=l.drop j
theorem Mid.first {ev:Event} {l:List Watch} {i:Nat} {x:Watch} (h:∀ x∈l.take i,Jbm x ev=false) (hx:l[i]?=some x) (ht:Jbm x ev=true):Mid ev l l i (i+1)/\JaI ev (l.take (i+1))=[Jhl ev x]:=by
 have hi:i<l.length:=(zB3.1 hx).1;have e:l.take (i+1)=l.take i ++ [x]:=qdE;refine ⟨⟨by omega,hi,rfl,?_,rfl⟩,?_⟩
 ·rw [e,Jdj,(Jgy h).1]; simp [Jbb,ht]
 ·rw [e,Jeg,(Jgy h).2,Jgq,ht]; rfl
theorem Mid.at_ {ev:Event} {l cur:List Watch} {a j:Nat} (h:Mid ev l cur a j) (_hj:j<l.length):cur[j]?=l[j]?:=by
 have:=congrArg (fun q=>q[0]?) h.2.2.2.2
 simpa using this
theorem Mid.hit {ev:Event} {l cur:List Watch} {a j:Nat} {x:Watch} (h:Mid ev l cur a j) (hx:l[j]?=some x) (ht:Jbm x ev=true):Mid ev l cur a (j+1):=by
 obtain ⟨h1,h2,h3,h4,h5⟩:=h;have hj:j<l.length:=(zB3.1 hx).1;refine ⟨by omega,hj,h3,?_,?_⟩
 ·rw [zF7,hx,Jdj,<-h4]; simp [Jbb,ht]
 ·rw [<-zJ2,h5,zJ2]
theorem Mid.miss {ev:Event} {l cur:List Watch} {a j:Nat} {x:Watch} (h:Mid ev l cur a j) (hx:l[j]?=some x) (ht:Jbm x ev=false):Mid ev l (cur.set a x) (a+1) (j+1):=by
 obtain ⟨h1,h2,h3,h4,h5⟩:=h;have hj:j<l.length:=(zB3.1 hx).1;refine ⟨by omega,hj,by rw [zF4]; exact h3,?_,?_⟩
 ·rw [zF7,zJ7 qH1,zQ4 qH1,zF7,hx,Jdj,<-h4]; simp [Jbb,ht]
 ·rw [zQ5 qH1,<-zJ2,h5,zJ2]
structure Peer where
 id:Int
 epoch:Int
 la:Option Addr
 lc:Nat
 log:List Txn
 done_:Int
def JjY (x:Peer):List Value:=[.int .i64 x.id,.int .i64 x.epoch,.slice x.la x.log.length x.lc,.int .i64 x.done_]
theorem Jpc:∀ x:Peer,∀ u∈JjY x,u.oneCell'=true:=by
 intro x u hu;simp [JjY] at hu;rcases hu with rfl | rfl | rfl | rfl <;> rfl
theorem elPeer:El Tryz.prog 152 62 (.agg #[.int .i64 0,.int .i64 0,.slice none 0 0,.int .i64 0]) 4 48:=⟨Tryz.underlying152,by kernel_rfl,rfl,by decide⟩
def Peer.In (w:World) (p:Peer):Prop:=Sl cTxn 7 w (.slice p.la p.log.length p.lc) p.log/\p.log.length*72<=140737488351232
theorem Peer.In.below {w w':World} {p:Peer} (h:p.In w) (hb:Below w.heap.size w w'):p.In w':=⟨h.1.below hb,h.2⟩
theorem Peer.In.alloc {w:World} {p:Peer} (h:p.In w) (o:Obj):p.In (w.alloc o):=⟨h.1.alloc o,h.2⟩
theorem Sl.Peer_at {w:World} {A:Option Addr} {n c:Nat} {l:List Peer} (h:Sl JjY 4 w (.slice A n c) l) {i:Nat} {x:Peer} (hx:l[i]?=some x):∃ b off,A=some ⟨b,off,none⟩/\b<w.heap.size/\w.cell? ⟨b,off+i*4,none⟩=some (.int .i64 x.id)/\w.cell? ⟨b,off+i*4+1,none⟩=some (.int .i64 x.epoch)/\w.cell? ⟨b,off+i*4+2,none⟩=some (.slice x.la x.log.length x.lc)/\w.cell? ⟨b,off+i*4+3,none⟩=some (.int .i64 x.done_):=by
 obtain ⟨b,off,rfl,hb,hc⟩:=h.at_ hx;exact ⟨b,off,rfl,hb,hc 0 _ rfl,hc 1 _ rfl,hc 2 _ rfl,hc 3 _ rfl⟩
def JbK (a b:Peer):Bool:=decide (Jao b.log<Jao a.log) || (decide (Jao a.log=Jao b.log) && decide (b.id<a.id))
theorem zabAhead (a b:Peer) (w:World) (ha:a.In w) (hb:b.In w) :
  Calls Tryz.prog 110 #[.agg #[.int .i64 a.id,.int .i64 a.epoch,.slice a.la a.log.length a.lc,.int .i64 a.done_],.agg #[.int .i64 b.id,.int .i64 b.epoch,.slice b.la b.log.length b.lc,.int .i64 b.done_]] w
   fun e w'=>e=.returned (.bool (JbK a b))/\Below w.heap.size w w':=by
 have HA:=zA0 ha;have HB:=zA0 hb;unfold JbK;generalize hza:Jao a.log=za;generalize hzb:Jao b.log=zb;have HZA:=zA0 hza;have HZB:=zA0 hzb;clear ha hb hza hzb;obtain ⟨ai,ae,aa,ac,al,ad⟩:=a;obtain ⟨bi,be,ba,bc,bl,bd⟩:=b;simp only at HZA HZB ⊢;have HA1:Hid (Sl cTxn 7 w (.slice aa al.length ac) al):=zA0 HA.out.1;have HB1:Hid (Sl cTxn 7 w (.slice ba bl.length bc) bl):=zA0 HB.out.1;go_enter Tryz.func110,Tryz.ntmps110
 go_wp2_with fail;go_quiet (first | (go_at_call 84; with_reducible refine Calls.quiet_of_same ((Jel (.slice aa al.length ac) al _ ?_).mono fun e w' h=>⟨h.1,h.2.symm⟩); exact ((HA1.out.alloc _).alloc _).drewN _) | (go_at_call 84; with_reducible refine Calls.quiet_of_same ((Jel (.slice ba bl.length bc) bl _ ?_).mono fun e w' h=>⟨h.1,h.2.symm⟩); exact ((HB1.out.alloc _).alloc _).drewN _))
 rw [HZA.out,HZB.out];go_wp2_with fail
 all_goals
  go_ret;exact ⟨Jle (by first | rfl | (simp [*]; done) | grind),zL⟩
def topE (l:List Peer):Int:=l.foldl (fun m p=>max m (max p.epoch (Jbp (Jao p.log)))) 0
def Fine (p:Peer):Prop:=0<=p.id/\p.id<3/\0<=p.epoch/\p.epoch<=2147483647
def Jj5 (l:List Peer) (i:Nat):Prop:=∀ (k:Nat) (x y:Peer),k<i->l[k]?=some x->l[i]?=some y->x.id≠y.id
def Sound (l:List Peer):Prop:=(∀ p∈l,Fine p)/\(∀ i,Jj5 l i)/\2<=l.length/\topE l<2147483647
def Best (l:List Peer) (b:Nat):Prop:=∀ (i:Nat) (x y:Peer),i≠b->l[b]?=some x->l[i]?=some y->JbK x y=true
def JlZ (l:List Peer) (e:Ending):Prop:=(∃ c:Int,c≠0/\¬ Sound l/\((∀ p∈l,Fine p)->(∀ i,Jj5 l i)->l.length<2->c=14)/\e=.returned (.tuple #[.int .i64 0,.int .i64 0,.int .i64 c]))\/(Sound l/\∃ k:Nat,k<l.length/\Best l k/\e=.returned (.tuple #[.int .i64 k,.int .i64 (topE l+1),.int .i64 0]))
def Jm2 (l:List Peer) (k b:Nat):Prop:=(b<k\/(k=0/\b=0))/\∀ (i:Nat) (x y:Peer),i<k->i≠b->l[b]?=some x->l[i]?=some y->JbK x y=true
theorem JkY {a b c:Peer} (h:JbK a b=true) (h':JbK b c=true):JbK a c=true:=by
 unfold JbK at *;simp only [zJ0,zE1,decide_eq_true_eq] at *;omega
theorem JkZ {a b:Peer} (h:JbK a b=false) (hne:a.id≠b.id):JbK b a=true:=by
 unfold JbK at *;simp only [zN5,zN6,decide_eq_false_iff_not,zJ0,zE1,decide_eq_true_eq] at *;omega
theorem JiS {l:List Peer} {k:Nat} {x:Peer} (hx:l[k]?=some x):topE (l.take (k+1))=if (if topE (l.take k)<x.epoch then x.epoch else topE (l.take k))<Jbp (Jao x.log) then Jbp (Jao x.log) else if topE (l.take k)<x.epoch then x.epoch else topE (l.take k):=by
 unfold topE;rw [zF7,hx];simp only [zP9,zI2,zJ3,List.foldl_nil];split <;> split <;> omega
theorem Jke (l:List Peer):0<=topE l:=by
 have key:∀ (l:List Peer) (m:Int),0<=m->0<=l.foldl (fun m p=>max m (max p.epoch (Jbp (Jao p.log)))) m:=by
  intro l
  induction l with
  | nil=>intro m hm; exact hm
  | cons x l ih=>intro m hm; exact ih _ (by show 0<=max m (max x.epoch (Jbp (Jao x.log))); omega)
 exact key l 0 qH1
theorem JlX {l:List Peer} {k b:Nat} {x y:Peer} (h:Jm2 l k b) (hx:l[k]?=some x) (hy:l[b]?=some y) (ha:JbK x y=true):Jm2 l (k+1) k:=by
 refine ⟨.inl qH1,fun i x' y' hi hne hx' hy'=>?_⟩
 rw [hx] at hx';cases hx'
 by_cases hib:i=b
 ·subst hib
  rw [hy] at hy';cases hy';exact ha
 ·exact JkY ha (h.2 i y y' qH1 hib hy hy')
theorem Jpl {l:List Peer} {k b:Nat} {x y:Peer} (h:Jm2 l k b) (hx:l[k]?=some x) (hy:l[b]?=some y) (ha:JbK x y=false) (hd:∀ i,Jj5 l i):Jm2 l (k+1) b:=by
 refine ⟨.inl (by rcases h.1 with h | h <;> omega),fun i x' y' hi hne hx' hy'=>?_⟩
 rw [hy] at hx';cases hx';rcases zD1 i k with h' | h'
 ·exact h.2 i y y' h' hne hy hy'
 ·obtain rfl:i=k:=by omega
  rw [hx] at hy';cases hy';exact JkZ ha (fun e=>hd i b y x (by rcases h.1 with h | h <;> omega) hy hx e.symm)
theorem JeB (w:World):Calls Tryz.prog 73 #[] w fun e w'=>e=.returned (.int .i64 2)/\w'=w:=by
 go_enter Tryz.func73,Tryz.ntmps73
 go_wp2;go_ret;exact ⟨rfl,rfl⟩
theorem Jm5 (v:Value) (l:List Peer) (w:World) (h:Sl JjY 4 w v l) (hin:∀ p∈l,p.In w) (hn:l.length<=140737488355328) :
    Calls Tryz.prog 80 #[v] w fun e w'=>JlZ l e/\Below w.heap.size w w':=by
  obtain ⟨A,c,rfl,hc1,hc2⟩:=h.form
  have H:=zA0 h
  have HI:=zA0 hin
  clear h hin
  go_enter Tryz.func80,Tryz.ntmps80
  go_wp2_with fail
  go_loopw [14] (fun i wr=>∃ (k:Nat) (ext:Array Obj) (d:Nat),k<=l.length/\i=.int .i64 k/\wr=grow w ext d/\Hid (∀ j,j<k->Jj5 l j/\∀ p,l[j]?=some p->Fine p)) (fun i _=>l.length - (intOf i).toNat)
  case atStart=>exact ⟨0,_,_,zB9 _,rfl,Jav zL,zA0 (fun j hj=>absurd hj qH1)⟩
  case round=>
    obtain ⟨k,ext,d,hk,rfl,rfl,hgood⟩:=hrel
    by_cases hlt:k<l.length
    · have hx:l[k]?=some (l[k]'hlt):=zA8 _
      obtain ⟨b,off,rfl,hbw,c0,c1,c2,c3⟩:=H.out.Peer_at hx
      generalize hxe:l[k]'hlt=x at hx c0 c1 c2 c3
      go_wp2_with fail
      go_loopw [20] (fun i wr=>∃ (j:Nat) (ext2:Array Obj) (d2:Nat),j<=k/\i=.int .i64 j/\wr=grow ((grow w ext d).alloc (.cells #[.int .i64 x.id,.int .i64 x.epoch,.slice x.la x.log.length x.lc,.int .i64 x.done_] 62)) ext2 d2/\Hid (∀ (m:Nat) (y:Peer),m<j->l[m]?=some y->y.id≠x.id)) (fun i _=>k - (intOf i).toNat)
      case atStart=>exact ⟨0,_,_,zB9 _,rfl,Jav zL,zA0 (fun m y hm=>absurd hm qH1)⟩
      case round=>
        obtain ⟨j,ext2,d2,hj,rfl,rfl,hne⟩:=hrel
        by_cases hlt2:j<k
        · have hy:l[j]?=some (l[j]'qH1):=zA8 _
          obtain ⟨b2,off2,hA2,_,y0,_⟩:=H.out.Peer_at hy
          injection hA2 with hA2
          injection hA2 with e1 e2 _
          subst e1
          subst e2
          generalize hye:l[j]'qH1=y at hy y0
          go_wp2_with fail
          go_quiet (fail)
          by_cases heq:y.id=x.id
          · go_wp2_with fail
            refine zA1 (v:=.tuple #[.int .i64 0,.int .i64 0,.int .i64 8]) (by simp [results,Tryz.results80,go_sem]) rfl ⟨.inl ⟨8,by decide,fun hs=>?_,fun _ ha _=>absurd heq (ha k j y x hlt2 hy hx),rfl⟩,zL⟩
            exact hs.2.1 k j y x hlt2 hy hx heq
          · go_wp2_with fail
            go_roundw
            case rel=>exact ⟨j+1,_,_,by omega,by go_num,Jav zL,zA0 (fun m z hm hz=>by
              rcases zD1 m j with h | h
              · exact hne.out m z h hz
              · obtain rfl:m=j:=by omega
                rw [hy] at hz
                cases hz
                exact heq)⟩
            case measure=>simp [intOf]; omega
        · by_cases hf:Fine x
          · have HF:=zA0 hf
            unfold Fine at hf
            obtain ⟨f1,f2,f3,f4⟩:=hf
            go_wp2_with fail
            go_roundw
            case rel=>exact ⟨k+1,_,_,by omega,by go_num,Jav zL,zA0 (fun m hm=>by
              rcases zD1 m k with h | h
              · exact hgood.out m h
              · obtain rfl:m=k:=by omega
                refine ⟨fun m a b hm ha hb=>?_,fun p hp=>?_⟩
                · rw [hx] at hb
                  cases hb
                  exact hne.out m a qH1 ha
                · rw [hx] at hp
                  cases hp
                  exact HF.out)⟩
            case measure=>simp [intOf]; omega
          · have HF:=zA0 hf
            clear hf
            go_wp2_with fail
            all_goals
              first
              | (refine zA1 (v:=.tuple #[.int .i64 0,.int .i64 0,.int .i64 3]) (by simp [results,Tryz.results80,go_sem]) rfl ⟨.inl ⟨3,by decide,fun hs=>?_,fun hf _ _=>absurd (hf x (zD3 hx)) HF.out,rfl⟩,zL⟩
                 exact HF.out (hs.1 x (zD3 hx)))
              | (exfalso
                 apply HF.out
                 unfold Fine
                 omega)
    · have HG:Hid ((∀ p∈l,Fine p)/\∀ i,Jj5 l i):=zA0 ⟨fun p hp=>by
          obtain ⟨m,hm,rfl⟩:=List.mem_iff_getElem.1 hp
          exact (hgood.out m qH1).2 _ (zA8 _),fun m=>by
          rcases zD1 m l.length with h | h
          · exact (hgood.out m qH1).1
          · intro a b c _ _ hc
            rw [zM0 h] at hc
            cases hc⟩
      clear hgood
      by_cases h2:2<=l.length
      · go_wp2_with (first | (go_at_call 73; refine (JeB _).mono ?_; rintro e w1 ⟨rfl,rfl⟩; skip))
        go_loopw [8,9,57] (fun b e i wr=>∃ (k bb:Nat) (ext:Array Obj) (d:Nat),k<=l.length/\i=.int .i64 k/\b=.int .i64 bb/\bb<l.length/\e=.int .i64 (topE (l.take k))/\wr=grow w ext d/\Hid (Jm2 l k bb)) (fun _ _ i _=>l.length - (intOf i).toNat)
        case atStart=>exact ⟨0,0,_,_,zB9 _,rfl,rfl,by omega,rfl,Jav zL,zA0 ⟨.inr ⟨rfl,rfl⟩,fun i x y hi=>absurd hi qH1⟩⟩
        case round=>
          obtain ⟨k,bb,ext,d,hk,rfl,rfl,hbb,rfl,rfl,hbest⟩:=hrel
          by_cases hlt:k<l.length
          · have hx:l[k]?=some (l[k]'hlt):=zA8 _
            have hy:l[bb]?=some (l[bb]'hbb):=zA8 _
            have HX:=zA0 (HI.out _ (zD3 hx))
            have HY:=zA0 (HI.out _ (zD3 hy))
            obtain ⟨b,off,rfl,hbw,c0,c1,c2,c3⟩:=H.out.Peer_at hx
            obtain ⟨b2,off2,hA2,_,y0,y1,y2,y3⟩:=H.out.Peer_at hy
            injection hA2 with hA2
            injection hA2 with e1 e2 _
            subst e1
            subst e2
            generalize hxe:l[k]'hlt=x at hx c0 c1 c2 c3 HX
            generalize hye:l[bb]'hbb=y at hy y0 y1 y2 y3 HY
            have HAB:=zA0 (fun (W':World) (hb:Below w.heap.size w W')=>zabAhead x y W' (HX.out.below hb) (HY.out.below hb))
            generalize hab:JbK x y=ab at HAB
            have HEQ:=zA0 hab
            clear hab
            go_wp2_with fail
            go_region_held3 (fun w'=>w'.cell? ⟨w.heap.size+ext.size,0,none⟩=some (.int .i64 x.id)/\w'.cell? ⟨w.heap.size+ext.size,1,none⟩=some (.int .i64 x.epoch)/\w'.cell? ⟨w.heap.size+ext.size,2,none⟩=some (.slice x.la x.log.length x.lc)/\w'.cell? ⟨w.heap.size+ext.size,3,none⟩=some (.int .i64 x.done_)/\w'.cell? ⟨b,off+bb*4,none⟩=some (.int .i64 y.id)/\w'.cell? ⟨b,off+bb*4+1,none⟩=some (.int .i64 y.epoch)/\w'.cell? ⟨b,off+bb*4+2,none⟩=some (.slice y.la y.log.length y.lc)/\w'.cell? ⟨b,off+bb*4+3,none⟩=some (.int .i64 y.done_)) (refine ⟨?_,?_,?_,?_,?_,?_,?_,?_⟩ <;> go_simp) (first | (go_at_call 110; refine zc (HAB.out _ zL) (fun ext3 d3=>?_)))
            have HL:=zA0 (fun (W':World) (hb:Below w.heap.size w W')=>Jel _ _ _ (HX.out.below hb).1)
            cases ab with
            | true=>
              go_wp2_with fail
              go_region_held3 (fun w'=>w'.cell? ⟨w.heap.size+ext.size,1,none⟩=some (.int .i64 x.epoch)/\w'.cell? ⟨w.heap.size+ext.size,2,none⟩=some (.slice x.la x.log.length x.lc)) (refine ⟨?_,?_⟩ <;> go_simp) (first | (go_at_call 84; refine (HL.out _ zL).mono ?_; rintro e w1 ⟨rfl,rfl⟩; skip) | (go_at_call 66; refine (JdR _ _).mono ?_; rintro e w1 ⟨rfl,rfl⟩; skip))
              all_goals
                go_wp2_with fail
                go_roundw
                case rel=>exact ⟨k+1,k,_,_,by omega,by go_num,rfl,by omega,by rw [JiS hx],Jav zL,zA0 (JlX hbest.out hx hy HEQ.out)⟩
                case measure=>simp [intOf]; omega
            | false=>
              go_wp2_with fail
              go_region_held3 (fun w'=>w'.cell? ⟨w.heap.size+ext.size,1,none⟩=some (.int .i64 x.epoch)/\w'.cell? ⟨w.heap.size+ext.size,2,none⟩=some (.slice x.la x.log.length x.lc)) (refine ⟨?_,?_⟩ <;> go_simp) (first | (go_at_call 84; refine (HL.out _ zL).mono ?_; rintro e w1 ⟨rfl,rfl⟩; skip) | (go_at_call 66; refine (JdR _ _).mono ?_; rintro e w1 ⟨rfl,rfl⟩; skip))
              all_goals
                go_wp2_with fail
                go_roundw
                case rel=>exact ⟨k+1,bb,_,_,by omega,by go_num,rfl,by omega,by rw [JiS hx],Jav zL,zA0 (Jpl hbest.out hx hy HEQ.out HG.out.2)⟩
                case measure=>simp [intOf]; omega
          · have hk':k=l.length:=by omega
            subst hk'
            rw [zG1]
            by_cases ht:topE l<2147483647
            · have ht0:=Jke l
              have hS:Sound l:=⟨HG.out.1,HG.out.2,h2,ht⟩
              go_wp2_with fail
              refine zA1 (v:=.tuple #[.int .i64 bb,.int .i64 (topE l+1),.int .i64 0]) (by simp [results,Tryz.results80,go_sem]) rfl ⟨.inr ⟨hS,bb,hbb,fun i x y hi hx hy=>hbest.out.2 i x y ?_ hi hx hy,rfl⟩,zL⟩
              exact (zB3.1 hy).1
            · go_wp2_with fail
              refine zA1 (v:=.tuple #[.int .i64 0,.int .i64 0,.int .i64 6]) (by simp [results,Tryz.results80,go_sem]) rfl ⟨.inl ⟨6,by decide,fun hs=>by have:=hs.2.2.2; omega,fun _ _ h=>absurd h2 qH1,rfl⟩,zL⟩
      · go_wp2_with (first | (go_at_call 73; refine (JeB _).mono ?_; rintro e w1 ⟨rfl,rfl⟩; skip))
        refine zA1 (v:=.tuple #[.int .i64 0,.int .i64 0,.int .i64 14]) (by simp [results,Tryz.results80,go_sem]) rfl ⟨.inl ⟨14,by decide,fun hs=>?_,fun _ _ _=>rfl,rfl⟩,zL⟩
        exact h2 hs.2.2.1
end
end Go.Proofs.YtjnooagaghdkdaaGreatDoor
