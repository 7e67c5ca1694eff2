/- Lemmas for the statement: Types, PathA, Good, Path, PathB, PathC, Copy, Own, Put, PutB, Zxid, Small, Cursor, Number, SnapC, Bs, T3, T4, Clone, Client, Cache, Cache2, Caching. -/
import Derived.Lib.ConvBytes
import Derived.Laws.IdiomStrings
import Derived.Lib.LastIndexByte
import Derived.Laws.CopyOwn
import Derived.Lib.AppendZerosOnto
import Derived.Lib.AppendZeros
import Derived.Lib.Overlaps
import Derived.Laws.Externs
import Derived.Deep.RegionLaw
import Derived.Laws.BitsAllLaws
import Derived.Laws.BitsLemmas
import Derived.Deep.RegionHeld3
import Derived.Test.YtfoglgeiipafeaaDoorPt1
/- The program's flat structs as structures of Lean, the cells in which they lie, and what is known of slices of them. -/
namespace Go.Proofs.YtfoglgeiipafeaaDoor
open Go.RowKit
theorem elInt : El Tryd.prog 23 3 (.int .i64 0) 1 8 := ⟨Tryd.underlying23, by kernel_rfl, rfl, by decide⟩
theorem cInt_one : ∀ x : Int, ∀ u ∈ cInt x, u.oneCell' = true := by intro x u hu; simp [cInt] at hu; subst hu; rfl
def cStr (z : ByteArray) : List Value := [.string z]
theorem cStr_one : ∀ x : ByteArray, ∀ u ∈ cStr x, u.oneCell' = true := by intro x u hu; simp [cStr] at hu; subst hu; rfl
def cByte (z : UInt8) : List Value := [.int .u8 z.toNat]
theorem elByte : El Tryd.prog 40 5 (.int .u8 0) 1 1 := ⟨Tryd.underlying40, by kernel_rfl, rfl, by decide⟩

structure Watch where
  session : Int
  kind : Int
  path : ByteArray
def cWatch (x : Watch) : List Value := [.int .i64 x.session, .int .i64 x.kind, .string x.path]
def Watch.ok (x : Watch) : Prop := I64 x.session ∧ I64 x.kind ∧ x.path.size ≤ maxLen
theorem cWatch_one : ∀ x : Watch, ∀ u ∈ cWatch x, u.oneCell' = true := by
  intro x u hu
  simp [cWatch] at hu
  rcases hu with rfl | rfl | rfl <;> rfl
theorem fitsWatch {x : List Value} (h : Fits [.i .i64, .i .i64, .s] x) : ∃ t : Watch, x = cWatch t ∧ t.ok := by
  have r0 := h
  obtain ⟨z0, u0, rfl, o0, r1⟩ := fits_i r0
  obtain ⟨z1, u1, rfl, o1, r2⟩ := fits_i r1
  obtain ⟨z2, u2, rfl, o2, r3⟩ := fits_s r2
  obtain rfl := r3.nil
  exact ⟨⟨z0, z1, z2⟩, rfl, o0, o1, o2⟩
theorem Sl.Watch_at {w : World} {A : Option Addr} {n c : Nat} {l : List Watch} (h : Sl cWatch 3 w (.slice A n c) l) {i : Nat} {x : Watch} (hx : l[i]? = some x) : ∃ b off, A = some ⟨b, off, none⟩ ∧ b < w.heap.size ∧ w.cell? ⟨b, off + i * 3, none⟩ = some (.int .i64 x.session) ∧ w.cell? ⟨b, off + i * 3 + 1, none⟩ = some (.int .i64 x.kind) ∧ w.cell? ⟨b, off + i * 3 + 2, none⟩ = some (.string x.path) := by
  obtain ⟨b, off, rfl, hb, hc⟩ := h.at_ hx
  exact ⟨b, off, rfl, hb, hc 0 _ rfl, hc 1 _ rfl, hc 2 _ rfl⟩
structure Event where
  kind : Int
  path : ByteArray
def cEvent (x : Event) : List Value := [.int .i64 x.kind, .string x.path]
def Event.ok (x : Event) : Prop := I64 x.kind ∧ x.path.size ≤ maxLen
theorem cEvent_one : ∀ x : Event, ∀ u ∈ cEvent x, u.oneCell' = true := by
  intro x u hu
  simp [cEvent] at hu
  rcases hu with rfl | rfl <;> rfl
theorem fitsEvent {x : List Value} (h : Fits [.i .i64, .s] x) : ∃ t : Event, x = cEvent t ∧ t.ok := by
  have r0 := h
  obtain ⟨z0, u0, rfl, o0, r1⟩ := fits_i r0
  obtain ⟨z1, u1, rfl, o1, r2⟩ := fits_s r1
  obtain rfl := r2.nil
  exact ⟨⟨z0, z1⟩, rfl, o0, o1⟩
theorem Sl.Event_at {w : World} {A : Option Addr} {n c : Nat} {l : List Event} (h : Sl cEvent 2 w (.slice A n c) l) {i : Nat} {x : Event} (hx : l[i]? = some x) : ∃ b off, A = some ⟨b, off, none⟩ ∧ b < w.heap.size ∧ w.cell? ⟨b, off + i * 2, none⟩ = some (.int .i64 x.kind) ∧ w.cell? ⟨b, off + i * 2 + 1, none⟩ = some (.string x.path) := by
  obtain ⟨b, off, rfl, hb, hc⟩ := h.at_ hx
  exact ⟨b, off, rfl, hb, hc 0 _ rfl, hc 1 _ rfl⟩
structure Note where
  session : Int
  kind : Int
  path : ByteArray
def cNote (x : Note) : List Value := [.int .i64 x.session, .int .i64 x.kind, .string x.path]
def Note.ok (x : Note) : Prop := I64 x.session ∧ I64 x.kind ∧ x.path.size ≤ maxLen
theorem cNote_one : ∀ x : Note, ∀ u ∈ cNote x, u.oneCell' = true := by
  intro x u hu
  simp [cNote] at hu
  rcases hu with rfl | rfl | rfl <;> rfl
theorem fitsNote {x : List Value} (h : Fits [.i .i64, .i .i64, .s] x) : ∃ t : Note, x = cNote t ∧ t.ok := by
  have r0 := h
  obtain ⟨z0, u0, rfl, o0, r1⟩ := fits_i r0
  obtain ⟨z1, u1, rfl, o1, r2⟩ := fits_i r1
  obtain ⟨z2, u2, rfl, o2, r3⟩ := fits_s r2
  obtain rfl := r3.nil
  exact ⟨⟨z0, z1, z2⟩, rfl, o0, o1, o2⟩
theorem Sl.Note_at {w : World} {A : Option Addr} {n c : Nat} {l : List Note} (h : Sl cNote 3 w (.slice A n c) l) {i : Nat} {x : Note} (hx : l[i]? = some x) : ∃ b off, A = some ⟨b, off, none⟩ ∧ b < w.heap.size ∧ w.cell? ⟨b, off + i * 3, none⟩ = some (.int .i64 x.session) ∧ w.cell? ⟨b, off + i * 3 + 1, none⟩ = some (.int .i64 x.kind) ∧ w.cell? ⟨b, off + i * 3 + 2, none⟩ = some (.string x.path) := by
  obtain ⟨b, off, rfl, hb, hc⟩ := h.at_ hx
  exact ⟨b, off, rfl, hb, hc 0 _ rfl, hc 1 _ rfl, hc 2 _ rfl⟩
structure Entry where
  path : ByteArray
  data : ByteArray
  there_ : Bool
def cEntry (x : Entry) : List Value := [.string x.path, .string x.data, .bool x.there_]
def Entry.ok (x : Entry) : Prop := x.path.size ≤ maxLen ∧ x.data.size ≤ maxLen
theorem cEntry_one : ∀ x : Entry, ∀ u ∈ cEntry x, u.oneCell' = true := by
  intro x u hu
  simp [cEntry] at hu
  rcases hu with rfl | rfl | rfl <;> rfl
theorem fitsEntry {x : List Value} (h : Fits [.s, .s, .b] x) : ∃ t : Entry, x = cEntry t ∧ t.ok := by
  have r0 := h
  obtain ⟨z0, u0, rfl, o0, r1⟩ := fits_s r0
  obtain ⟨z1, u1, rfl, o1, r2⟩ := fits_s r1
  obtain ⟨z2, u2, rfl, r3⟩ := fits_b r2
  obtain rfl := r3.nil
  exact ⟨⟨z0, z1, z2⟩, rfl, o0, o1⟩
theorem Sl.Entry_at {w : World} {A : Option Addr} {n c : Nat} {l : List Entry} (h : Sl cEntry 3 w (.slice A n c) l) {i : Nat} {x : Entry} (hx : l[i]? = some x) : ∃ b off, A = some ⟨b, off, none⟩ ∧ b < w.heap.size ∧ w.cell? ⟨b, off + i * 3, none⟩ = some (.string x.path) ∧ w.cell? ⟨b, off + i * 3 + 1, none⟩ = some (.string x.data) ∧ w.cell? ⟨b, off + i * 3 + 2, none⟩ = some (.bool x.there_) := by
  obtain ⟨b, off, rfl, hb, hc⟩ := h.at_ hx
  exact ⟨b, off, rfl, hb, hc 0 _ rfl, hc 1 _ rfl, hc 2 _ rfl⟩
structure Txn where
  zxid : Int
  op : Int
  session : Int
  path : ByteArray
  data : ByteArray
  version : Int
  owner : Int
def cTxn (x : Txn) : List Value := [.int .i64 x.zxid, .int .i64 x.op, .int .i64 x.session, .string x.path, .string x.data, .int .i64 x.version, .int .i64 x.owner]
def Txn.ok (x : Txn) : Prop := I64 x.zxid ∧ I64 x.op ∧ I64 x.session ∧ x.path.size ≤ maxLen ∧ x.data.size ≤ maxLen ∧ I64 x.version ∧ I64 x.owner
theorem cTxn_one : ∀ x : Txn, ∀ u ∈ cTxn x, u.oneCell' = true := by
  intro x u hu
  simp [cTxn] at hu
  rcases hu with rfl | rfl | rfl | rfl | rfl | rfl | rfl <;> rfl
theorem fitsTxn {x : List Value} (h : Fits [.i .i64, .i .i64, .i .i64, .s, .s, .i .i64, .i .i64] x) : ∃ t : Txn, x = cTxn t ∧ t.ok := by
  have r0 := h
  obtain ⟨z0, u0, rfl, o0, r1⟩ := fits_i r0
  obtain ⟨z1, u1, rfl, o1, r2⟩ := fits_i r1
  obtain ⟨z2, u2, rfl, o2, r3⟩ := fits_i r2
  obtain ⟨z3, u3, rfl, o3, r4⟩ := fits_s r3
  obtain ⟨z4, u4, rfl, o4, r5⟩ := fits_s r4
  obtain ⟨z5, u5, rfl, o5, r6⟩ := fits_i r5
  obtain ⟨z6, u6, rfl, o6, r7⟩ := fits_i r6
  obtain rfl := r7.nil
  exact ⟨⟨z0, z1, z2, z3, z4, z5, z6⟩, rfl, o0, o1, o2, o3, o4, o5, o6⟩
theorem Sl.Txn_at {w : World} {A : Option Addr} {n c : Nat} {l : List Txn} (h : Sl cTxn 7 w (.slice A n c) l) {i : Nat} {x : Txn} (hx : l[i]? = some x) : ∃ b off, A = some ⟨b, off, none⟩ ∧ b < w.heap.size ∧ w.cell? ⟨b, off + i * 7, none⟩ = some (.int .i64 x.zxid) ∧ w.cell? ⟨b, off + i * 7 + 1, none⟩ = some (.int .i64 x.op) ∧ w.cell? ⟨b, off + i * 7 + 2, none⟩ = some (.int .i64 x.session) ∧ w.cell? ⟨b, off + i * 7 + 3, none⟩ = some (.string x.path) ∧ w.cell? ⟨b, off + i * 7 + 4, none⟩ = some (.string x.data) ∧ w.cell? ⟨b, off + i * 7 + 5, none⟩ = some (.int .i64 x.version) ∧ w.cell? ⟨b, off + i * 7 + 6, none⟩ = some (.int .i64 x.owner) := by
  obtain ⟨b, off, rfl, hb, hc⟩ := h.at_ hx
  exact ⟨b, off, rfl, hb, hc 0 _ rfl, hc 1 _ rfl, hc 2 _ rfl, hc 3 _ rfl, hc 4 _ rfl, hc 5 _ rfl, hc 6 _ rfl⟩
structure File where
  name : ByteArray
  safe : ByteArray
  tail : ByteArray
def cFile (x : File) : List Value := [.string x.name, .string x.safe, .string x.tail]
def File.ok (x : File) : Prop := x.name.size ≤ maxLen ∧ x.safe.size ≤ maxLen ∧ x.tail.size ≤ maxLen
theorem cFile_one : ∀ x : File, ∀ u ∈ cFile x, u.oneCell' = true := by
  intro x u hu
  simp [cFile] at hu
  rcases hu with rfl | rfl | rfl <;> rfl
theorem fitsFile {x : List Value} (h : Fits [.s, .s, .s] x) : ∃ t : File, x = cFile t ∧ t.ok := by
  have r0 := h
  obtain ⟨z0, u0, rfl, o0, r1⟩ := fits_s r0
  obtain ⟨z1, u1, rfl, o1, r2⟩ := fits_s r1
  obtain ⟨z2, u2, rfl, o2, r3⟩ := fits_s r2
  obtain rfl := r3.nil
  exact ⟨⟨z0, z1, z2⟩, rfl, o0, o1, o2⟩
theorem Sl.File_at {w : World} {A : Option Addr} {n c : Nat} {l : List File} (h : Sl cFile 3 w (.slice A n c) l) {i : Nat} {x : File} (hx : l[i]? = some x) : ∃ b off, A = some ⟨b, off, none⟩ ∧ b < w.heap.size ∧ w.cell? ⟨b, off + i * 3, none⟩ = some (.string x.name) ∧ w.cell? ⟨b, off + i * 3 + 1, none⟩ = some (.string x.safe) ∧ w.cell? ⟨b, off + i * 3 + 2, none⟩ = some (.string x.tail) := by
  obtain ⟨b, off, rfl, hb, hc⟩ := h.at_ hx
  exact ⟨b, off, rfl, hb, hc 0 _ rfl, hc 1 _ rfl, hc 2 _ rfl⟩
structure Node where
  path : ByteArray
  data : ByteArray
  czxid : Int
  mzxid : Int
  pzxid : Int
  version : Int
  cversion : Int
  owner : Int
  kids : Int
def cNode (x : Node) : List Value := [.string x.path, .string x.data, .int .i64 x.czxid, .int .i64 x.mzxid, .int .i64 x.pzxid, .int .i64 x.version, .int .i64 x.cversion, .int .i64 x.owner, .int .i64 x.kids]
def Node.ok (x : Node) : Prop := x.path.size ≤ maxLen ∧ x.data.size ≤ maxLen ∧ I64 x.czxid ∧ I64 x.mzxid ∧ I64 x.pzxid ∧ I64 x.version ∧ I64 x.cversion ∧ I64 x.owner ∧ I64 x.kids
theorem cNode_one : ∀ x : Node, ∀ u ∈ cNode x, u.oneCell' = true := by
  intro x u hu
  simp [cNode] at hu
  rcases hu with rfl | rfl | rfl | rfl | rfl | rfl | rfl | rfl | rfl <;> rfl
theorem fitsNode {x : List Value} (h : Fits [.s, .s, .i .i64, .i .i64, .i .i64, .i .i64, .i .i64, .i .i64, .i .i64] x) : ∃ t : Node, x = cNode t ∧ t.ok := by
  have r0 := h
  obtain ⟨z0, u0, rfl, o0, r1⟩ := fits_s r0
  obtain ⟨z1, u1, rfl, o1, r2⟩ := fits_s r1
  obtain ⟨z2, u2, rfl, o2, r3⟩ := fits_i r2
  obtain ⟨z3, u3, rfl, o3, r4⟩ := fits_i r3
  obtain ⟨z4, u4, rfl, o4, r5⟩ := fits_i r4
  obtain ⟨z5, u5, rfl, o5, r6⟩ := fits_i r5
  obtain ⟨z6, u6, rfl, o6, r7⟩ := fits_i r6
  obtain ⟨z7, u7, rfl, o7, r8⟩ := fits_i r7
  obtain ⟨z8, u8, rfl, o8, r9⟩ := fits_i r8
  obtain rfl := r9.nil
  exact ⟨⟨z0, z1, z2, z3, z4, z5, z6, z7, z8⟩, rfl, o0, o1, o2, o3, o4, o5, o6, o7, o8⟩
theorem Sl.Node_at {w : World} {A : Option Addr} {n c : Nat} {l : List Node} (h : Sl cNode 9 w (.slice A n c) l) {i : Nat} {x : Node} (hx : l[i]? = some x) : ∃ b off, A = some ⟨b, off, none⟩ ∧ b < w.heap.size ∧ w.cell? ⟨b, off + i * 9, none⟩ = some (.string x.path) ∧ w.cell? ⟨b, off + i * 9 + 1, none⟩ = some (.string x.data) ∧ w.cell? ⟨b, off + i * 9 + 2, none⟩ = some (.int .i64 x.czxid) ∧ w.cell? ⟨b, off + i * 9 + 3, none⟩ = some (.int .i64 x.mzxid) ∧ w.cell? ⟨b, off + i * 9 + 4, none⟩ = some (.int .i64 x.pzxid) ∧ w.cell? ⟨b, off + i * 9 + 5, none⟩ = some (.int .i64 x.version) ∧ w.cell? ⟨b, off + i * 9 + 6, none⟩ = some (.int .i64 x.cversion) ∧ w.cell? ⟨b, off + i * 9 + 7, none⟩ = some (.int .i64 x.owner) ∧ w.cell? ⟨b, off + i * 9 + 8, none⟩ = some (.int .i64 x.kids) := by
  obtain ⟨b, off, rfl, hb, hc⟩ := h.at_ hx
  exact ⟨b, off, rfl, hb, hc 0 _ rfl, hc 1 _ rfl, hc 2 _ rfl, hc 3 _ rfl, hc 4 _ rfl, hc 5 _ rfl, hc 6 _ rfl, hc 7 _ rfl, hc 8 _ rfl⟩
theorem elNode : El Tryd.prog 22 45 (.agg #[.string ByteArray.empty, .string ByteArray.empty, .int .i64 0, .int .i64 0, .int .i64 0, .int .i64 0, .int .i64 0, .int .i64 0, .int .i64 0]) 9 88 := ⟨Tryd.underlying22, by kernel_rfl, rfl, by decide⟩

structure Request where
  op : Int
  session : Int
  path : ByteArray
  data : ByteArray
  version : Int
  flags : Int
def cRequest (x : Request) : List Value := [.int .i64 x.op, .int .i64 x.session, .string x.path, .string x.data, .int .i64 x.version, .int .i64 x.flags]
def Request.ok (x : Request) : Prop := I64 x.op ∧ I64 x.session ∧ x.path.size ≤ maxLen ∧ x.data.size ≤ maxLen ∧ I64 x.version ∧ I64 x.flags
theorem cRequest_one : ∀ x : Request, ∀ u ∈ cRequest x, u.oneCell' = true := by
  intro x u hu
  simp [cRequest] at hu
  rcases hu with rfl | rfl | rfl | rfl | rfl | rfl <;> rfl
theorem fitsRequest {x : List Value} (h : Fits [.i .i64, .i .i64, .s, .s, .i .i64, .i .i64] x) : ∃ t : Request, x = cRequest t ∧ t.ok := by
  have r0 := h
  obtain ⟨z0, u0, rfl, o0, r1⟩ := fits_i r0
  obtain ⟨z1, u1, rfl, o1, r2⟩ := fits_i r1
  obtain ⟨z2, u2, rfl, o2, r3⟩ := fits_s r2
  obtain ⟨z3, u3, rfl, o3, r4⟩ := fits_s r3
  obtain ⟨z4, u4, rfl, o4, r5⟩ := fits_i r4
  obtain ⟨z5, u5, rfl, o5, r6⟩ := fits_i r5
  obtain rfl := r6.nil
  exact ⟨⟨z0, z1, z2, z3, z4, z5⟩, rfl, o0, o1, o2, o3, o4, o5⟩
theorem Sl.Request_at {w : World} {A : Option Addr} {n c : Nat} {l : List Request} (h : Sl cRequest 6 w (.slice A n c) l) {i : Nat} {x : Request} (hx : l[i]? = some x) : ∃ b off, A = some ⟨b, off, none⟩ ∧ b < w.heap.size ∧ w.cell? ⟨b, off + i * 6, none⟩ = some (.int .i64 x.op) ∧ w.cell? ⟨b, off + i * 6 + 1, none⟩ = some (.int .i64 x.session) ∧ w.cell? ⟨b, off + i * 6 + 2, none⟩ = some (.string x.path) ∧ w.cell? ⟨b, off + i * 6 + 3, none⟩ = some (.string x.data) ∧ w.cell? ⟨b, off + i * 6 + 4, none⟩ = some (.int .i64 x.version) ∧ w.cell? ⟨b, off + i * 6 + 5, none⟩ = some (.int .i64 x.flags) := by
  obtain ⟨b, off, rfl, hb, hc⟩ := h.at_ hx
  exact ⟨b, off, rfl, hb, hc 0 _ rfl, hc 1 _ rfl, hc 2 _ rfl, hc 3 _ rfl, hc 4 _ rfl, hc 5 _ rfl⟩
structure Deed where
  kind : Int
  client : Int
  server : Int
  op : Int
  session : Int
  path : ByteArray
  data : ByteArray
  version : Int
  flags : Int
  lost : Int
  slow : Int
  keep : Int
  watch : Bool
def cDeed (x : Deed) : List Value := [.int .i64 x.kind, .int .i64 x.client, .int .i64 x.server, .int .i64 x.op, .int .i64 x.session, .string x.path, .string x.data, .int .i64 x.version, .int .i64 x.flags, .int .i64 x.lost, .int .i64 x.slow, .int .i64 x.keep, .bool x.watch]
def Deed.ok (x : Deed) : Prop := I64 x.kind ∧ I64 x.client ∧ I64 x.server ∧ I64 x.op ∧ I64 x.session ∧ x.path.size ≤ maxLen ∧ x.data.size ≤ maxLen ∧ I64 x.version ∧ I64 x.flags ∧ I64 x.lost ∧ I64 x.slow ∧ I64 x.keep
theorem cDeed_one : ∀ x : Deed, ∀ u ∈ cDeed x, u.oneCell' = true := by
  intro x u hu
  simp [cDeed] at hu
  rcases hu with rfl | rfl | rfl | rfl | rfl | rfl | rfl | rfl | rfl | rfl | rfl | rfl | rfl <;> rfl
theorem fitsDeed {x : List Value} (h : Fits [.i .i64, .i .i64, .i .i64, .i .i64, .i .i64, .s, .s, .i .i64, .i .i64, .i .i64, .i .i64, .i .i64, .b] x) : ∃ t : Deed, x = cDeed t ∧ t.ok := by
  have r0 := h
  obtain ⟨z0, u0, rfl, o0, r1⟩ := fits_i r0
  obtain ⟨z1, u1, rfl, o1, r2⟩ := fits_i r1
  obtain ⟨z2, u2, rfl, o2, r3⟩ := fits_i r2
  obtain ⟨z3, u3, rfl, o3, r4⟩ := fits_i r3
  obtain ⟨z4, u4, rfl, o4, r5⟩ := fits_i r4
  obtain ⟨z5, u5, rfl, o5, r6⟩ := fits_s r5
  obtain ⟨z6, u6, rfl, o6, r7⟩ := fits_s r6
  obtain ⟨z7, u7, rfl, o7, r8⟩ := fits_i r7
  obtain ⟨z8, u8, rfl, o8, r9⟩ := fits_i r8
  obtain ⟨z9, u9, rfl, o9, r10⟩ := fits_i r9
  obtain ⟨z10, u10, rfl, o10, r11⟩ := fits_i r10
  obtain ⟨z11, u11, rfl, o11, r12⟩ := fits_i r11
  obtain ⟨z12, u12, rfl, r13⟩ := fits_b r12
  obtain rfl := r13.nil
  exact ⟨⟨z0, z1, z2, z3, z4, z5, z6, z7, z8, z9, z10, z11, z12⟩, rfl, o0, o1, o2, o3, o4, o5, o6, o7, o8, o9, o10, o11⟩
theorem Sl.Deed_at {w : World} {A : Option Addr} {n c : Nat} {l : List Deed} (h : Sl cDeed 13 w (.slice A n c) l) {i : Nat} {x : Deed} (hx : l[i]? = some x) : ∃ b off, A = some ⟨b, off, none⟩ ∧ b < w.heap.size ∧ w.cell? ⟨b, off + i * 13, none⟩ = some (.int .i64 x.kind) ∧ w.cell? ⟨b, off + i * 13 + 1, none⟩ = some (.int .i64 x.client) ∧ w.cell? ⟨b, off + i * 13 + 2, none⟩ = some (.int .i64 x.server) ∧ w.cell? ⟨b, off + i * 13 + 3, none⟩ = some (.int .i64 x.op) ∧ w.cell? ⟨b, off + i * 13 + 4, none⟩ = some (.int .i64 x.session) ∧ w.cell? ⟨b, off + i * 13 + 5, none⟩ = some (.string x.path) ∧ w.cell? ⟨b, off + i * 13 + 6, none⟩ = some (.string x.data) ∧ w.cell? ⟨b, off + i * 13 + 7, none⟩ = some (.int .i64 x.version) ∧ w.cell? ⟨b, off + i * 13 + 8, none⟩ = some (.int .i64 x.flags) ∧ w.cell? ⟨b, off + i * 13 + 9, none⟩ = some (.int .i64 x.lost) ∧ w.cell? ⟨b, off + i * 13 + 10, none⟩ = some (.int .i64 x.slow) ∧ w.cell? ⟨b, off + i * 13 + 11, none⟩ = some (.int .i64 x.keep) ∧ w.cell? ⟨b, off + i * 13 + 12, none⟩ = some (.bool x.watch) := by
  obtain ⟨b, off, rfl, hb, hc⟩ := h.at_ hx
  exact ⟨b, off, rfl, hb, hc 0 _ rfl, hc 1 _ rfl, hc 2 _ rfl, hc 3 _ rfl, hc 4 _ rfl, hc 5 _ rfl, hc 6 _ rfl, hc 7 _ rfl, hc 8 _ rfl, hc 9 _ rfl, hc 10 _ rfl, hc 11 _ rfl, hc 12 _ rfl⟩
end Go.Proofs.YtfoglgeiipafeaaDoor

/- Contracts of package path that reach no library: Named, Serial. -/
namespace Go.Proofs.YtfoglgeiipafeaaDoor
open Go.RowKit

theorem ret_bool' {a b : Bool} (h : a = b) : Ending.returned (.bool a) = Ending.returned (.bool b) := by rw [h]
/-- a letter, a digit, '-' or '_' -/
def okc (c : UInt8) : Bool := decide ((97 ≤ c.toNat ∧ c.toNat ≤ 122) ∨ (48 ≤ c.toNat ∧ c.toNat ≤ 57) ∨ c.toNat = 45 ∨ c.toNat = 95)
/-- may these bytes be one step of a path? -/
def named (l : List UInt8) : Bool := l.all okc && decide (0 < l.length) && decide (l.length ≤ 40)
def bs (s : ByteArray) : List UInt8 := s.data.toList
@[simp] theorem length_bs (s : ByteArray) : (bs s).length = s.size := by
  show s.data.toList.length = s.data.size
  simp
theorem bs_get (s : ByteArray) (k : Nat) (h : k < s.size) : (bs s)[k]'(by simpa using h) = s[k] := rfl

theorem all_take_succ (s : ByteArray) (k : Nat) (h : k < s.size) : ((bs s).take (k + 1)).all okc = (((bs s).take k).all okc && okc s[k]) := by
  rw [List.take_succ_eq_append_getElem (by simpa using h), List.all_append, bs_get s k h]
  simp
theorem not_named_of {s : ByteArray} {k : Nat} (h : k < s.size) (hk : okc s[k] = false) : named (bs s) = false := by
  have : (bs s).all okc = false := by
    rw [List.all_eq_false]
    exact ⟨(bs s)[k]'(by simpa using h), List.getElem_mem _, by rw [bs_get s k h, hk]; simp⟩
  simp [named, this]
theorem named_round {k : Nat} {s : ByteArray} (h : k < s.size) (hall : ((bs s).take k).all okc = true) (hk : okc s[k] = true) : ((bs s).take (k + 1)).all okc = true := by
  rw [all_take_succ s k h, hall, hk]; rfl
theorem named_end {k : Nat} {s : ByteArray} (h : ¬ k < s.size) (hk : k ≤ s.size) (hall : ((bs s).take k).all okc = true) : (!s.toList.isEmpty && decide ((s.size : Int) ≤ 40)) = named (bs s) := by
  obtain rfl : k = s.size := by omega
  rw [List.take_of_length_le (by simp)] at hall
  have h1 : (!s.toList.isEmpty) = decide (0 < (bs s).length) := by
    rw [ByteArray.toList_eq]
    show (!(bs s).isEmpty) = _
    cases bs s <;> simp
  have h2 : decide ((s.size : Int) ≤ 40) = decide ((bs s).length ≤ 40) := by rw [length_bs]; simp; omega
  rw [named, hall, h1, h2]
  simp
theorem named_any (s : ByteArray) (w : World) (hs : s.size ≤ 9223372036854775807) :
    Calls Tryd.prog 28 #[.string s] w fun e w' => e = .returned (.bool (named (bs s))) ∧ w = w' := by
  go_enter Tryd.func28, Tryd.ntmps28
  go_wp2
  go_loop [3] (fun i => ∃ k : Nat, k ≤ s.size ∧ i = .int .i64 k ∧ Hid (((bs s).take k).all okc = true)) (fun i => s.size - (intOf i).toNat)
  case atStart => exact ⟨0, Nat.zero_le _, rfl, rfl⟩
  case round =>
    obtain ⟨k, hk, rfl, hall⟩ := hrel
    by_cases hlt : k < s.size
    · by_cases hok : okc s[k] = true
      · have hok' : (97 ≤ s[k].toNat ∧ s[k].toNat ≤ 122) ∨ (48 ≤ s[k].toNat ∧ s[k].toNat ≤ 57) ∨ s[k].toNat = 45 ∨ s[k].toNat = 95 := of_decide_eq_true hok
        have H := Lib.hid (named_round hlt hall.out hok)
        clear hok hall
        rcases hok' with ⟨h1, h2⟩ | ⟨h1, h2⟩ | h1 | h1
        · have g1 : (97 : Int) ≤ (s[k].toNat : Int) := by omega
          have g2 : (s[k].toNat : Int) ≤ 122 := by omega
          clear h1 h2
          go_wp2
          go_round
          case rel => exact ⟨k + 1, by omega, by go_num, H.out⟩
          case measure => simp [intOf]; omega
        · have g0 : (s[k].toNat : Int) < 97 := by omega
          have g1 : (48 : Int) ≤ (s[k].toNat : Int) := by omega
          have g2 : (s[k].toNat : Int) ≤ 57 := by omega
          clear h1 h2
          go_wp2
          go_round
          case rel => exact ⟨k + 1, by omega, by go_num, H.out⟩
          case measure => simp [intOf]; omega
        · have g0 : (s[k].toNat : Int) < 48 := by omega
          have g1 : ((s[k].toNat : Int) != 45) = false := by simp; omega
          clear h1
          go_wp2
          go_round
          case rel => exact ⟨k + 1, by omega, by go_num, H.out⟩
          case measure => simp [intOf]; omega
        · have g0 : (s[k].toNat : Int) < 97 := by omega
          have g3 : (57 : Int) < (s[k].toNat : Int) := by omega
          have g1 : ((s[k].toNat : Int) != 45) = true := by simp; omega
          have g2 : ((s[k].toNat : Int) != 95) = false := by simp; omega
          clear h1
          go_wp2
          go_round
          case rel => exact ⟨k + 1, by omega, by go_num, H.out⟩
          case measure => simp [intOf]; omega
      · have hok' : ¬ ((97 ≤ s[k].toNat ∧ s[k].toNat ≤ 122) ∨ (48 ≤ s[k].toNat ∧ s[k].toNat ≤ 57) ∨ s[k].toNat = 45 ∨ s[k].toNat = 95) := fun h => hok (decide_eq_true h)
        have H := Lib.hid (not_named_of hlt (by simpa using hok))
        clear hok hall
        have g1 : ((s[k].toNat : Int) != 45) = true := by simp; omega
        have g2 : ((s[k].toNat : Int) != 95) = true := by simp; omega
        rcases (by omega : s[k].toNat < 48 ∨ (57 < s[k].toNat ∧ s[k].toNat < 97) ∨ 122 < s[k].toNat) with h1 | ⟨h1, h2⟩ | h1
        · have g3 : (s[k].toNat : Int) < 48 := by omega
          clear hok' h1
          go_wp2
          go_ret
          exact ⟨ret_bool' H.out.symm, rfl⟩
        · have g3 : (57 : Int) < (s[k].toNat : Int) := by omega
          have g4 : (s[k].toNat : Int) < 97 := by omega
          clear hok' h1 h2
          go_wp2
          go_ret
          exact ⟨ret_bool' H.out.symm, rfl⟩
        · have g3 : (122 : Int) < (s[k].toNat : Int) := by omega
          clear hok' h1
          go_wp2
          go_ret
          exact ⟨ret_bool' H.out.symm, rfl⟩
    · have H := Lib.hid (named_end hlt hk hall.out)
      clear hall
      go_wp2
      all_goals
        go_ret
        refine ⟨ret_bool' (Eq.trans ?_ H.out), rfl⟩
        first | rfl | simp [*]
/-- ten digits of a number, the highest first -/
def digs : Nat → Nat → List UInt8
  | 0, _ => []
  | k + 1, n => digs k (n / 10) ++ [UInt8.ofNat (48 + n % 10)]
theorem length_digs (k n : Nat) : (digs k n).length = k := by
  induction k generalizing n with
  | zero => rfl
  | succ k ih => simp [digs, ih]
theorem digs_left (k : Nat) : ∀ n : Nat, digs (k + 1) n = UInt8.ofNat (48 + n / 10 ^ k % 10) :: digs k n := by
  induction k with
  | zero => intro n; simp [digs]
  | succ k ih =>
    intro n
    rw [digs, ih (n / 10)]
    rw [digs, List.cons_append, Nat.div_div_eq_div_mul, Nat.pow_succ, Nat.mul_comm 10]
theorem digs_zero (k : Nat) : digs k 0 = List.replicate k 48 := by
  induction k with
  | zero => rfl
  | succ k ih => rw [digs_left, ih]; simp [List.replicate_succ]
/-- where nothing is left of a number, noughts stand ahead of its digits -/
theorem digs_pad (k j n : Nat) (h : n / 10 ^ j = 0) : digs (j + k) n = List.replicate k 48 ++ digs j n := by
  induction k with
  | zero => simp
  | succ k ih =>
    rw [show j + (k + 1) = (j + k) + 1 from by omega, digs_left, ih, List.replicate_succ, List.cons_append]
    have : n / 10 ^ (j + k) = 0 := by rw [Nat.pow_add, ← Nat.div_div_eq_div_mul, h, Nat.zero_div]
    rw [this]
    rfl
/-- what stands behind the name when j digits are laid -/
def part (j n : Nat) : List UInt8 := List.replicate (10 - j) 48 ++ digs j n
theorem length_part (j n : Nat) (h : j ≤ 10) : (part j n).length = 10 := by simp [part, length_digs]; omega
theorem part_end (j n : Nat) (hj : j ≤ 10) (h : n / 10 ^ j = 0) : part j n = digs 10 n := by
  rw [part, ← digs_pad (10 - j) j n h, show j + (10 - j) = 10 from by omega]
theorem part_set (j n : Nat) (hj : j < 10) : (part j n).set (9 - j) (UInt8.ofNat (48 + n / 10 ^ j % 10)) = part (j + 1) n := by
  unfold part
  rw [digs_left, show 10 - j = (9 - j) + 1 from by omega, List.replicate_succ', List.append_assoc, List.set_append_right _ _ (by simp), show 10 - (j + 1) = 9 - j from by omega]
  simp
theorem lt_ten {n j : Nat} (hn : n ≤ 2147483647) (h : 0 < n / 10 ^ j) : j < 10 := by
  rcases Nat.lt_or_ge j 10 with h1 | h1
  · exact h1
  · have h2 : 10 ^ 10 ≤ 10 ^ j := Nat.pow_le_pow_right (by omega) h1
    have : n / 10 ^ j = 0 := Nat.div_eq_of_lt (by omega)
    omega
end Go.Proofs.YtfoglgeiipafeaaDoor

/- path.Good: each step between the slashes is named. -/
namespace Go.Proofs.YtfoglgeiipafeaaDoor
open Go.RowKit Go.Shelf
attribute [local go_sem] Oper.semAt_some
def goodP (s : ByteArray) : Bool := decide (s = ⟨#[47]⟩) || (decide (s.size ≤ 200) && Lib.hasPrefix s.data.toList [47] && (stepsB (s.extract 1 s.size)).all fun x => named (bs x))
theorem splitSeq_is (s sep : ByteArray) (w : World) :
    Calls Tryd.prog 27 #[.string s, .string sep] w fun e w' => e = .returned (.func (.func 40) #[] #[.pointer (some ⟨w.heap.size + 1, 0, none⟩), .pointer (some ⟨w.heap.size, 0, none⟩), .pointer (some ⟨w.heap.size + 2, 0, none⟩)]) ∧
      w' = ((w.alloc (.cells #[.string s] 9)).alloc (.cells #[.string sep] 9)).alloc (.cells #[.int .i64 0] 3) := by
  go_enter Tryd.func27, Tryd.ntmps27
  go_wp2
  go_ret
  exact ⟨rfl, rfl⟩
theorem stepsB_size (s : ByteArray) : ∀ x ∈ stepsB s, x.size ≤ s.size := by
  generalize hn : s.size = n
  induction n using Nat.strongRecOn generalizing s with
  | ind n ih =>
    intro x hx
    rcases Int.lt_or_le (Lib.indexByte s.data.toList 47) 0 with hi | hi
    · rw [stepsB_no hi] at hx
      simp at hx
      subst hx
      omega
    · obtain ⟨o, ho⟩ := Int.eq_ofNat_of_zero_le hi
      have hlt := index_lt ho
      rw [stepsB_yes ho] at hx
      rcases List.mem_cons.1 hx with rfl | h
      · rw [ByteArray.size_extract]; omega
      · have hsz : (s.extract (o + 1) s.size).size = s.size - (o + 1) := by rw [ByteArray.size_extract]; omega
        have := ih (s.size - (o + 1)) (by omega) _ hsz x h
        omega
set_option maxHeartbeats 1000000 in
theorem good_steps (s : ByteArray) (w : World) (hs : s.size ≤ 200) (hne : (s.toList == [47]) = false) (hp : Lib.hasPrefix s.data.toList [47] = true) :
    Calls Tryd.prog 20 #[.string s] w fun e w' => e = .returned (.bool ((stepsB (s.extract 1 s.size)).all fun x => named (bs x))) ∧ Below w.heap.size w w' := by
  have h1 : 1 ≤ s.size := by
    cases hd : s.data.toList with
    | nil => rw [hd] at hp; cases hp
    | cons x r =>
      have : s.data.toList.length = s.size := by simp
      rw [hd] at this
      simp at this
      omega
  have hgt : (decide ((200 : Int) < (s.size : Int))) = false := decide_eq_false (by omega)
  refine (callsIn_wide (n := 9)).1 ?_
  refine callsIn_of_wp_marks Tryd.func20 rfl trivial ?_ rfl
  simp only [Tryd.ntmps20, List.size_toArray, List.length_cons, List.length_nil, Nat.reduceAdd, Nat.reduceSub, Array.replicate_succ, Array.replicate_zero, List.push_toArray, List.append_toArray, List.nil_append, List.cons_append]
  gi_wp2_with (first | (refine ⟨trivial, ?_⟩; gi_at_call 26; refine (callsIn_wide.2 (Tryd.strings_HasPrefix _ _ _)).mono ?_; rintro e w' ⟨rfl, rfl⟩; rw [hp]) | (refine ⟨trivial, ?_⟩; gi_at_call 27; refine (callsIn_wide.2 (splitSeq_is _ _ _)).mono ?_; rintro e w' ⟨rfl, rfl⟩))
  generalize hT : s.extract 1 s.size = t at *
  have hts : t.size ≤ 200 := by rw [← hT, ByteArray.size_extract]; omega
  have HTT := Lib.hid hT
  clear hT hgt hne hp
  obtain ⟨W0, hW0⟩ : ∃ W0, ((((w.alloc (.cells #[.bool false] 4)).alloc (.cells #[.string t] 9)).alloc (.cells #[.string ⟨#[47]⟩] 9)).alloc (.cells #[.int .i64 0] 3)) = W0 := ⟨_, rfl⟩
  have hsz : W0.heap.size = w.heap.size + 1 + 1 + 1 + 1 := by subst hW0; simp
  have hB0 : Below w.heap.size w W0 := by subst hW0; exact (by repeat (first | exact Below.refl _ _ | assumption | refine Below.drew ?_ | refine Below.drewN' ?_ _ | refine below_grow0 _ _ ?_ | refine below_alloc0 _ ?_ | refine Below.alloc ?_ (by first | omega | (simp; done) | (simp; omega)) _ | refine Below.setCell ?_ (by first | omega | (simp; done) | (simp; omega)) _ | refine Below.grow _ _ _ ?_ (by first | omega | (simp; done) | (simp; omega))))
  have r0 : W0.cell? ⟨w.heap.size, 0, none⟩ = some (.bool false) := by subst hW0; go_simp
  have f0 : W0.frozen? ⟨w.heap.size, 0, none⟩ = false := by subst hW0; go_simp
  have s0 : W0.cell? ⟨w.heap.size + 1, 0, none⟩ = some (.string t) := by subst hW0; go_simp
  have g0 : W0.frozen? ⟨w.heap.size + 1, 0, none⟩ = false := by subst hW0; go_simp
  have s1 : W0.cell? ⟨w.heap.size + 1 + 1, 0, none⟩ = some (.string ⟨#[47]⟩) := by subst hW0; go_simp
  have s2 : W0.cell? ⟨w.heap.size + 1 + 1 + 1, 0, none⟩ = some (.int .i64 0) := by subst hW0; go_simp
  rw [hW0]
  clear hW0
  refine wpIn_range_cells (S := stepsB t) (b := w.heap.size + 1) rfl (by omega) rfl trivial (enters_of Tryd.func40 (by kernel_rfl) rfl) (by omega)
    (split_stops 8 (by omega) W0 (w.heap.size + 1) (w.heap.size + 1 + 1) (w.heap.size + 1 + 2) t s0 g0 s1 s2 (by omega) (by omega) (by omega)) (fun _ => rfl)
    (fun pre W => (W.cell? ⟨w.heap.size, 0, none⟩ = some (.bool false) ∧ W.frozen? ⟨w.heap.size, 0, none⟩ = false ∧ Hid (∀ x ∈ pre, named (bs x) = true)) ∧ Below w.heap.size w W)
    (fun c pre W => (W.cell? ⟨w.heap.size, 0, none⟩ = some (.bool false) ∧ W.frozen? ⟨w.heap.size, 0, none⟩ = false ∧ Hid (c = .ret ∧ ((stepsB t).all fun x => named (bs x)) = false)) ∧ Below w.heap.size w W)
    (OwnFrom.and (Own.from (fun s A B row hs hg hr => ⟨cell_kept hs.1 hg hr, (frozen_kept hs.1 hg hr).trans hs.2.1, hs.2.2⟩) _) (ownFrom_below (Nat.le_refl _) (by omega)))
    (fun c => OwnFrom.and (Own.from (fun s A B row hs hg hr => ⟨cell_kept hs.1 hg hr, (frozen_kept hs.1 hg hr).trans hs.2.1, hs.2.2⟩) _) (ownFrom_below (Nat.le_refl _) (by omega)))
    (fun s A v h => ⟨⟨(World.cell?_setCell_other _ _ _ _ (fun h => by injection h with h; omega)).trans h.1.1, (World.frozen?_setCell ..).trans h.1.2.1, h.1.2.2⟩, h.2.setCell (p := ⟨w.heap.size + 1, 0, none⟩) (Nat.le_succ _) _⟩)
    ⟨⟨r0, f0, Lib.hid (by simp)⟩, hB0⟩
    (fun x => { tmps := #[.string s, undef, .pointer (some ⟨w.heap.size, 0, none⟩), .string x, .string s, .bool false, .string s, .int .i64 s.size, .bool false, .bool false, .string s, .bool true, .bool false, .bool false, .string s, .string t, .func (.func 40) #[] #[.pointer (some ⟨w.heap.size + 1 + 1, 0, none⟩), .pointer (some ⟨w.heap.size + 1, 0, none⟩), .pointer (some ⟨w.heap.size + 1 + 2, 0, none⟩)], .string x, undef, undef, undef], defers := [] }) ?assign ?body ?done ?stop
  case assign =>
    intro l x W K hK
    gi_wp2
    exact hK
  case body =>
    rintro l pre x W ⟨⟨hc, hf, hall⟩, hB⟩ hpre
    have hmem : x ∈ stepsB t := hpre.subset (by simp)
    have hx := stepsB_size t x hmem
    cases hn : named (bs x) with
    | true =>
      have HA := Lib.hid (show ∀ y ∈ pre ++ [x], named (bs y) = true from fun y hy => by
        rcases List.mem_append.1 hy with h | h
        · exact hall.out y h
        · simp at h; subst h; exact hn)
      clear hall hmem hpre
      gi_wp2_with (refine ⟨trivial, ?_⟩; gi_at_call 28; refine (CallsIn.inRound l (callsIn_wide.2 (named_any x _ (by omega)))).mono ?_; rintro e w' ⟨rfl, rfl⟩; rw [hn])
      exact ⟨KeepsOthers.refl _, Below.refl _ _, ⟨hc, hf, HA⟩, hB⟩
    | false =>
      have HA := Lib.hid (show ((stepsB t).all fun x => named (bs x)) = false by rw [List.all_eq_false]; exact ⟨x, hmem, by simp [hn]⟩)
      clear hall hmem hpre
      gi_wp2_with (refine ⟨trivial, ?_⟩; gi_at_call 28; refine (CallsIn.inRound l (callsIn_wide.2 (named_any x _ (by omega)))).mono ?_; rintro e w' ⟨rfl, rfl⟩; rw [hn])
      exact ⟨KeepsOthers.setCell _ _ _, ⟨World.cell?_setCell_same' _ _ _ (by rw [hc]; rfl), by rw [World.frozen?_setCell]; exact hf, Lib.hid ⟨rfl, HA.out⟩⟩, hB.setCell (p := ⟨w.heap.size, 0, none⟩) (Nat.le_refl _) _⟩
  case done =>
    rintro D W hD ⟨⟨hc, hf, hall⟩, hB⟩ hK
    have hT : ((stepsB t).all fun x => named (bs x)) = true := List.all_eq_true.2 hall.out
    have HA := Lib.hid hT
    clear hall hT
    gi_wp2
    have hK' := (KeepsOthers.setCell W ⟨w.heap.size, 0, none⟩ (.bool true)).same D _ hK rfl
    refine ⟨by simp, .inl ⟨_, _, rfl, run_takeDeferred hK', ?_⟩⟩
    have hc5 := cell_kept (World.cell?_setCell_same' W ⟨w.heap.size, 0, none⟩ (.bool true) (by rw [hc]; rfl)) (grownBy_putObj' _ D (.deferred none)) (fun r e => by cases e; exact ⟨_, hK', rfl⟩)
    refine ⟨.bool true, ?_, by rw [HTT.out, HA.out], (hB.setCell (p := ⟨w.heap.size, 0, none⟩) (Nat.le_refl _) _).trans (belowK_b (w := w) (Nat.le_refl _) _ D _ _ (by omega) hK' rfl rfl)⟩
    simp [results, Tryd.f20, go_sem, hc5]
  case stop =>
    rintro D c pre W hD ⟨⟨hc, hf, hbad⟩, hB⟩ hK
    obtain ⟨rfl, hb⟩ := hbad.out
    have HA := Lib.hid hb
    clear hbad hb
    gi_wp2
    refine ⟨by simp, .inl ⟨_, _, rfl, run_takeDeferred hK, ?_⟩⟩
    have hc5 := cell_kept hc (grownBy_putObj' _ D (.deferred none)) (fun r e => by cases e; exact ⟨_, hK, rfl⟩)
    refine ⟨.bool false, ?_, by rw [HTT.out, HA.out], hB.trans (belowK_b (w := w) (Nat.le_refl _) W D _ _ (by omega) hK rfl rfl)⟩
    simp [results, Tryd.f20, go_sem, hc5]
theorem bytes_eqB {a b : ByteArray} (e : a.toList = b.toList) : a = b := by
  rw [ByteArray.toList_eq, ByteArray.toList_eq] at e
  exact ByteArray.ext (Array.toList_inj.mp e)
set_option maxHeartbeats 1000000 in
/-- path.Good, at every text -/
theorem good_any (s : ByteArray) (w : World) (hs : s.size ≤ 9223372036854775807) :
    Calls Tryd.prog 20 #[.string s] w fun e w' => e = .returned (.bool (goodP s)) ∧ Below w.heap.size w w' := by
  by_cases hr : s = ⟨#[47]⟩
  · subst hr
    have hg : goodP ⟨#[47]⟩ = true := by unfold goodP; rw [decide_eq_true rfl]; rfl
    rw [hg]
    go_enter Tryd.func20, Tryd.ntmps20
    go_wp2
    refine bodyPost_ret (v := .bool true) (by simp [results, Tryd.f20, go_sem]) rfl ⟨rfl, (by repeat (first | exact Below.refl _ _ | assumption | refine Below.drew ?_ | refine Below.drewN' ?_ _ | refine below_grow0 _ _ ?_ | refine below_alloc0 _ ?_ | refine Below.alloc ?_ (by first | omega | (simp; done) | (simp; omega)) _ | refine Below.setCell ?_ (by first | omega | (simp; done) | (simp; omega)) _ | refine Below.grow _ _ _ ?_ (by first | omega | (simp; done) | (simp; omega))))⟩
  · have hne : (s.toList == [47]) = false := beq_eq_false_iff_ne.2 (fun e => hr (bytes_eqB (by rw [e, ByteArray.toList_eq])))
    by_cases h200 : s.size ≤ 200
    · cases hp : Lib.hasPrefix s.data.toList [47] with
      | true =>
        have hg : goodP s = ((stepsB (s.extract 1 s.size)).all fun x => named (bs x)) := by unfold goodP; rw [decide_eq_false hr, decide_eq_true h200, hp]; rfl
        rw [hg]
        exact good_steps s w h200 hne hp
      | false =>
        have hg : goodP s = false := by unfold goodP; rw [decide_eq_false hr, hp]; simp
        have hgt : (decide ((200 : Int) < (s.size : Int))) = false := decide_eq_false (by omega)
        rw [hg]
        clear hg
        go_enter Tryd.func20, Tryd.ntmps20
        go_wp2_with (go_at_call 26; refine (Tryd.strings_HasPrefix _ _ _).mono ?_; rintro e w' ⟨rfl, rfl⟩; rw [hp])
        refine bodyPost_ret (v := .bool false) (by simp [results, Tryd.f20, go_sem]) rfl ⟨rfl, (by repeat (first | exact Below.refl _ _ | assumption | refine Below.drew ?_ | refine Below.drewN' ?_ _ | refine below_grow0 _ _ ?_ | refine below_alloc0 _ ?_ | refine Below.alloc ?_ (by first | omega | (simp; done) | (simp; omega)) _ | refine Below.setCell ?_ (by first | omega | (simp; done) | (simp; omega)) _ | refine Below.grow _ _ _ ?_ (by first | omega | (simp; done) | (simp; omega))))⟩
    · have hg : goodP s = false := by unfold goodP; rw [decide_eq_false hr, decide_eq_false h200]; simp
      have hgt : (decide ((200 : Int) < (s.size : Int))) = true := decide_eq_true (by omega)
      rw [hg]
      clear hg
      go_enter Tryd.func20, Tryd.ntmps20
      go_wp2_with fail
      refine bodyPost_ret (v := .bool false) (by simp [results, Tryd.f20, go_sem]) rfl ⟨rfl, (by repeat (first | exact Below.refl _ _ | assumption | refine Below.drew ?_ | refine Below.drewN' ?_ _ | refine below_grow0 _ _ ?_ | refine below_alloc0 _ ?_ | refine Below.alloc ?_ (by first | omega | (simp; done) | (simp; omega)) _ | refine Below.setCell ?_ (by first | omega | (simp; done) | (simp; omega)) _ | refine Below.grow _ _ _ ?_ (by first | omega | (simp; done) | (simp; omega))))⟩
end Go.Proofs.YtfoglgeiipafeaaDoor

/- path.Under, Split, Join, Depth. -/
namespace Go.Proofs.YtfoglgeiipafeaaDoor
open Go.RowKit Go.Shelf
def slash : ByteArray := ⟨#[47]⟩
def underB (s t : ByteArray) : Bool := goodP s && goodP t && decide (s ≠ t) && (decide (t = slash) || Lib.hasPrefix s.data.toList (t ++ slash).data.toList)
theorem goodP_size {s : ByteArray} (h : goodP s = true) : 1 ≤ s.size ∧ s.size ≤ 200 := by
  unfold goodP at h
  by_cases hs : s = ⟨#[47]⟩
  · subst hs; decide
  · rw [decide_eq_false hs, Bool.false_or] at h
    simp only [Bool.and_eq_true, decide_eq_true_iff] at h
    obtain ⟨⟨h1, hp⟩, _⟩ := h
    refine ⟨?_, h1⟩
    cases hd : s.data.toList with
    | nil => rw [hd] at hp; cases hp
    | cons x r =>
      have : s.data.toList.length = s.size := by simp
      rw [hd] at this
      simp at this
      omega
theorem ne_bytes {a b : ByteArray} (h : a ≠ b) : (a.toList == b.toList) = false := beq_eq_false_iff_ne.2 (fun e => h (bytes_eqB e))
theorem ne_slash {a : ByteArray} (h : a ≠ slash) : (a.toList == [47]) = false := beq_eq_false_iff_ne.2 (fun e => h (bytes_eqB (by rw [e]; unfold slash; rw [ByteArray.toList_eq])))
/-- where the last slash stands -/
def lastP (s : ByteArray) : Nat := (Lib.lastIndexByte s 47).toNat
theorem lastP_is {s : ByteArray} (hp : Lib.hasPrefix s.data.toList [47] = true) : Lib.lastIndexByte s 47 = (lastP s : Int) ∧ lastP s < s.size := by
  rcases Lib.lastIndexByte_spec s 47 with ⟨e, hn⟩ | ⟨i, hi, e, _⟩
  · exfalso
    cases hd : s.data.toList with
    | nil => rw [hd] at hp; cases hp
    | cons x r =>
      rw [hd] at hp
      have hx : (47 : UInt8) = x := by simpa [Lib.hasPrefix, List.isPrefixOf] using hp
      have hl : s.data.toList.length = s.size := by simp
      have h0 : 0 < s.size := by rw [hd] at hl; simp at hl; omega
      refine hn 0 h0 ?_
      have : s.data[0]! = x := by
        rw [← Array.getElem!_toList, hd]; rfl
      rw [this, ← hx]
      rfl
  · unfold lastP
    rw [e]
    exact ⟨by simp, by simpa using hi⟩
theorem goodP_pre {s : ByteArray} (h : goodP s = true) (hs : s ≠ slash) : Lib.hasPrefix s.data.toList [47] = true ∧ ((stepsB (s.extract 1 s.size)).all fun x => named (bs x)) = true := by
  unfold goodP at h
  rw [decide_eq_false (show ¬ s = ⟨#[47]⟩ from hs), Bool.false_or] at h
  simp only [Bool.and_eq_true] at h
  exact ⟨h.1.2, h.2⟩
def splitR (s : ByteArray) : ByteArray × ByteArray × Int := if goodP s then (if s = slash then (⟨#[]⟩, ⟨#[]⟩, 7) else if lastP s = 0 then (slash, s.extract 1 s.size, 0) else (s.extract 0 (lastP s), s.extract (lastP s + 1) s.size, 0)) else (⟨#[]⟩, ⟨#[]⟩, 2)
set_option maxHeartbeats 1000000 in
theorem split_any (s : ByteArray) (w : World) (hs : s.size ≤ 9223372036854775807) :
    Calls Tryd.prog 22 #[.string s] w fun e w' => e = .returned (.tuple #[.string (splitR s).1, .string (splitR s).2.1, .int .i64 (splitR s).2.2]) ∧ Below w.heap.size w w' := by
  have HS := Lib.hid (fun (W : World) => good_any s W hs)
  unfold splitR
  cases hgs : goodP s with
  | false =>
    rw [hgs] at HS
    simp only [Bool.false_eq_true, if_false]
    clear hgs
    go_enter Tryd.func22, Tryd.ntmps22
    go_wp2_with (go_at_call 20; refine (HS.out _).mono ?_; rintro e w1 ⟨rfl, hb⟩; obtain ⟨ext1, d1, rfl⟩ := Below.grown_eq _ hb; clear hb HS)
    refine bodyPost_ret (v := .tuple #[.string ⟨#[]⟩, .string ⟨#[]⟩, .int .i64 2]) (by simp [results, Tryd.results22, go_sem]) rfl ⟨rfl, (by repeat (first | exact Below.refl _ _ | assumption | refine Below.drew ?_ | refine Below.drewN' ?_ _ | refine below_grow0 _ _ ?_ | refine below_alloc0 _ ?_ | refine Below.alloc ?_ (by first | omega | (simp; done) | (simp; omega)) _ | refine Below.setCell ?_ (by first | omega | (simp; done) | (simp; omega)) _ | refine Below.grow _ _ _ ?_ (by first | omega | (simp; done) | (simp; omega))))⟩
  | true =>
    rw [hgs] at HS
    have zs := goodP_size hgs
    simp only [if_true]
    by_cases hsl : s = slash
    · subst hsl
      simp only [if_true]
      unfold slash at *
      clear hgs
      go_enter Tryd.func22, Tryd.ntmps22
      go_wp2_with (go_at_call 20; refine (HS.out _).mono ?_; rintro e w1 ⟨rfl, hb⟩; obtain ⟨ext1, d1, rfl⟩ := Below.grown_eq _ hb; clear hb HS)
      refine bodyPost_ret (v := .tuple #[.string ⟨#[]⟩, .string ⟨#[]⟩, .int .i64 7]) (by simp [results, Tryd.results22, go_sem]) rfl ⟨rfl, (by repeat (first | exact Below.refl _ _ | assumption | refine Below.drew ?_ | refine Below.drewN' ?_ _ | refine below_grow0 _ _ ?_ | refine below_alloc0 _ ?_ | refine Below.alloc ?_ (by first | omega | (simp; done) | (simp; omega)) _ | refine Below.setCell ?_ (by first | omega | (simp; done) | (simp; omega)) _ | refine Below.grow _ _ _ ?_ (by first | omega | (simp; done) | (simp; omega))))⟩
    · simp only [if_neg hsl]
      have hne := ne_slash hsl
      obtain ⟨hL, hlt⟩ := lastP_is (goodP_pre hgs hsl).1
      have HL := Lib.hid (fun (W : World) => by
        have h := Tryd.strings_LastIndexByte s 47 (by omega) W
        rw [hL] at h
        exact h)
      clear hL hgs hsl
      generalize lastP s = k at *
      by_cases hk : k = 0
      · subst hk
        simp only [if_true]
        go_enter Tryd.func22, Tryd.ntmps22
        go_wp2_with (first | (go_at_call 20; refine (HS.out _).mono ?_; rintro e w1 ⟨rfl, hb⟩; obtain ⟨ext1, d1, rfl⟩ := Below.grown_eq _ hb; clear hb HS) | (go_at_call 30; refine (HL.out _).mono ?_; rintro e w1 ⟨rfl, rfl⟩; skip))
        go_region
        go_wp2_with fail
        refine bodyPost_ret (v := .tuple #[.string slash, .string (s.extract 1 s.size), .int .i64 0]) (by simp [results, Tryd.results22, go_sem, slash]) rfl ⟨rfl, (by repeat (first | exact Below.refl _ _ | assumption | refine Below.drew ?_ | refine Below.drewN' ?_ _ | refine below_grow0 _ _ ?_ | refine below_alloc0 _ ?_ | refine Below.alloc ?_ (by first | omega | (simp; done) | (simp; omega)) _ | refine Below.setCell ?_ (by first | omega | (simp; done) | (simp; omega)) _ | refine Below.grow _ _ _ ?_ (by first | omega | (simp; done) | (simp; omega))))⟩
      · simp only [if_neg hk]
        have hki : (((k : Nat) : Int) == 0) = false := beq_eq_false_iff_ne.2 (by omega)
        go_enter Tryd.func22, Tryd.ntmps22
        go_wp2_with (first | (go_at_call 20; refine (HS.out _).mono ?_; rintro e w1 ⟨rfl, hb⟩; obtain ⟨ext1, d1, rfl⟩ := Below.grown_eq _ hb; clear hb HS) | (go_at_call 30; refine (HL.out _).mono ?_; rintro e w1 ⟨rfl, rfl⟩; skip))
        go_region
        go_wp2_with fail
        refine bodyPost_ret (v := .tuple #[.string (s.extract 0 k), .string (s.extract (k + 1) s.size), .int .i64 0]) (by simp [results, Tryd.results22, go_sem]) rfl ⟨rfl, (by repeat (first | exact Below.refl _ _ | assumption | refine Below.drew ?_ | refine Below.drewN' ?_ _ | refine below_grow0 _ _ ?_ | refine below_alloc0 _ ?_ | refine Below.alloc ?_ (by first | omega | (simp; done) | (simp; omega)) _ | refine Below.setCell ?_ (by first | omega | (simp; done) | (simp; omega)) _ | refine Below.grow _ _ _ ?_ (by first | omega | (simp; done) | (simp; omega))))⟩
def joinT (d n : ByteArray) : ByteArray := if d = slash then slash ++ n else d ++ slash ++ n
def joinR (d n : ByteArray) : ByteArray × Int := if goodP d && named (bs n) then (if 200 < (joinT d n).size then (⟨#[]⟩, 1) else (joinT d n, 0)) else (⟨#[]⟩, 2)
def depthR (s : ByteArray) : Int × Int := if goodP s then (if s = slash then (0, 0) else ((Lib.countByte s.data.toList 47 : Nat), 0)) else (0, 2)
end Go.Proofs.YtfoglgeiipafeaaDoor

/- joins; plain laws of Under. -/
namespace Go.Proofs.YtfoglgeiipafeaaDoor
open Go.RowKit
theorem under_self (a : ByteArray) : underB a a = false := by unfold underB; simp
theorem good_nil : goodP ⟨#[]⟩ = false := by
  cases h : goodP ⟨#[]⟩ with
  | false => rfl
  | true => have := (goodP_size h).1; cases this
theorem under_parts {s t : ByteArray} (h : underB s t = true) : goodP s = true ∧ goodP t = true ∧ s ≠ t ∧ (t = slash ∨ ∃ r, s.data.toList = t.data.toList ++ 47 :: r) := by
  unfold underB at h
  simp only [Bool.and_eq_true, Bool.or_eq_true, decide_eq_true_iff] at h
  obtain ⟨⟨⟨h1, h2⟩, h3⟩, h4⟩ := h
  refine ⟨h1, h2, h3, h4.imp id fun h => ?_⟩
  have := List.isPrefixOf_iff_prefix.1 h
  obtain ⟨r, hr⟩ := this
  exact ⟨r, by rw [← hr, ByteArray.data_append]; simp [slash]⟩
theorem good_len {s : ByteArray} (h : goodP s = true) : 1 ≤ s.data.toList.length := by
  have := (goodP_size h).1
  have h2 : s.data.toList.length = s.size := by simp
  omega
theorem slash_under {t : ByteArray} (h : underB slash t = true) : False := by
  obtain ⟨h1, h2, h3, h4⟩ := under_parts h
  rcases h4 with h | ⟨r, h⟩
  · exact h3 h.symm
  · have := congrArg List.length h
    have h5 := good_len h2
    simp [slash] at this
    simp at h5
    omega
theorem under_both {a b : ByteArray} (h : underB a b = true) (k : underB b a = true) : False := by
  obtain ⟨_, _, _, h4⟩ := under_parts h
  obtain ⟨_, _, _, k4⟩ := under_parts k
  rcases h4 with rfl | ⟨r, h5⟩
  · exact slash_under k
  · rcases k4 with rfl | ⟨q, k5⟩
    · exact slash_under h
    · have := congrArg List.length h5
      have := congrArg List.length k5
      simp at *
      omega
theorem under_trans {a b c : ByteArray} (h : underB a b = true) (k : underB b c = true) : underB a c = true := by
  obtain ⟨h1, h2, h3, h4⟩ := under_parts h
  obtain ⟨k1, k2, k3, k4⟩ := under_parts k
  have hac : a ≠ c := by
    rintro rfl
    exact under_both h k
  have hor : (decide (c = slash) || Lib.hasPrefix a.data.toList (c ++ slash).data.toList) = true := by
    rcases k4 with rfl | ⟨q, k4⟩
    · simp
    · rcases h4 with rfl | ⟨r, h4⟩
      · exact absurd k (fun k => slash_under k)
      · rw [Bool.or_eq_true]
        refine .inr (List.isPrefixOf_iff_prefix.2 ⟨q ++ 47 :: r, ?_⟩)
        rw [h4, k4, ByteArray.data_append]
        simp [slash]
  unfold underB
  rw [h1, k2, decide_eq_true hac, hor]
  rfl
end Go.Proofs.YtfoglgeiipafeaaDoor

/- Paths as lists of bytes: plain laws of steps, joined and taken apart. -/
namespace Go.Proofs.YtfoglgeiipafeaaDoor
open Go.RowKit
def stepsL : List UInt8 → List (List UInt8)
  | [] => [[]]
  | c :: r => if c = 47 then [] :: stepsL r else (c :: (stepsL r).headD []) :: (stepsL r).tail
theorem stepsL_cons (c : UInt8) (r : List UInt8) : stepsL (c :: r) = if c = 47 then [] :: stepsL r else (c :: (stepsL r).headD []) :: (stepsL r).tail := rfl
theorem stepsL_ne : ∀ l, ∃ h t, stepsL l = h :: t
  | [] => ⟨[], [], rfl⟩
  | c :: r => by
    unfold stepsL
    split
    · exact ⟨_, _, rfl⟩
    · exact ⟨_, _, rfl⟩
theorem stepsL_app : ∀ (x y : List UInt8), stepsL (x ++ 47 :: y) = stepsL x ++ stepsL y
  | [], y => by simp [stepsL]
  | c :: r, y => by
    have ih := stepsL_app r y
    obtain ⟨h, t, e⟩ := stepsL_ne r
    rw [List.cons_append, stepsL_cons, stepsL_cons, ih, e]
    split <;> simp
theorem stepsL_none : ∀ (l : List UInt8), (47 : UInt8) ∉ l → stepsL l = [l]
  | [], _ => rfl
  | c :: r, h => by
    have ih := stepsL_none r (fun k => h (List.mem_cons_of_mem _ k))
    have hc : c ≠ 47 := fun e => h (by rw [e]; exact List.mem_cons_self)
    unfold stepsL
    rw [if_neg hc, ih]
    rfl
theorem bs_extract (s : ByteArray) (a b : Nat) : bs (s.extract a b) = ((bs s).take b).drop a := by
  unfold bs
  rw [ByteArray.data_extract, Array.toList_extract, List.extract_eq_take_drop, List.drop_take]
theorem bs_append (a b : ByteArray) : bs (a ++ b) = bs a ++ bs b := by unfold bs; rw [ByteArray.data_append]; simp
theorem bs_inj {a b : ByteArray} (h : bs a = bs b) : a = b := ByteArray.ext (Array.toList_inj.mp h)
theorem cut_at {l : List UInt8} {o : Nat} (h : l[o]? = some 47) : l = l.take o ++ 47 :: l.drop (o + 1) := by
  obtain ⟨h1, h2⟩ := List.getElem?_eq_some_iff.1 h
  rw [← h2, List.getElem_cons_drop, List.take_append_drop]
theorem stepsB_L (s : ByteArray) : (stepsB s).map bs = stepsL (bs s) := by
  generalize hn : s.size = n
  induction n using Nat.strongRecOn generalizing s with
  | ind n ih =>
    rcases Int.lt_or_le (Lib.indexByte s.data.toList 47) 0 with hi | hi
    · have hge := Lib.indexByte_ge s.data.toList 47
      have hno := Lib.indexByte_none (show Lib.indexByte s.data.toList 47 = -1 by omega)
      rw [stepsB_no hi, stepsL_none]
      · rfl
      · intro hm
        obtain ⟨k, hk⟩ := List.mem_iff_getElem?.1 hm
        exact hno k hk
    · obtain ⟨o, ho⟩ := Int.eq_ofNat_of_zero_le hi
      have hlt := index_lt ho
      have hso := Lib.indexByte_some ho
      have hsz : (s.extract (o + 1) s.size).size = s.size - (o + 1) := by rw [ByteArray.size_extract]; omega
      have h2 := ih (s.size - (o + 1)) (by omega) _ hsz
      have hl : (bs s).length = s.size := length_bs s
      have hno : (47 : UInt8) ∉ (bs s).take o := by
        intro hm
        obtain ⟨k, hk⟩ := List.mem_iff_getElem?.1 hm
        rw [List.getElem?_take] at hk
        split at hk
        · rename_i hko; exact hso.2 k hko hk
        · cases hk
      have hR : stepsL (bs s) = (bs s).take o :: stepsL ((bs s).drop (o + 1)) := by
        conv => lhs; rw [cut_at (show (bs s)[o]? = some 47 from hso.1)]
        rw [stepsL_app, stepsL_none _ hno]
        rfl
      rw [stepsB_yes ho, List.map_cons, h2, bs_extract, bs_extract, List.take_of_length_le (show (bs s).length ≤ s.size by omega), hR]
      rfl
def goodL (l : List UInt8) : Bool := decide (l = [47]) || (decide (l.length ≤ 200) && match l with
  | c :: r => c == 47 && (stepsL r).all named
  | [] => false)
theorem goodP_L (s : ByteArray) : goodP s = goodL (bs s) := by
  unfold goodP goodL
  have h1 : decide (s = ⟨#[47]⟩) = decide (bs s = [47]) := by
    by_cases h : s = ⟨#[47]⟩
    · subst h; rfl
    · rw [decide_eq_false h, decide_eq_false (fun k => h (bs_inj (by rw [k]; rfl)))]
  have h2 : decide (s.size ≤ 200) = decide ((bs s).length ≤ 200) := by rw [length_bs]
  rw [h1, h2, Bool.and_assoc]
  congr 2
  have h3 : ((stepsB (s.extract 1 s.size)).all fun x => named (bs x)) = (stepsL ((bs s).drop 1)).all named := by
    have := stepsB_L (s.extract 1 s.size)
    rw [bs_extract, List.take_of_length_le (by rw [length_bs]; exact Nat.le_refl _)] at this
    rw [← this, List.all_map]
    rfl
  rw [h3]
  show (Lib.hasPrefix (bs s) [47] && _) = _
  cases bs s with
  | nil => rfl
  | cons c r =>
    have hc : ((47 : UInt8) == c) = (c == 47) := by
      by_cases h : c = 47
      · subst h; rfl
      · rw [beq_eq_false_iff_ne.2 h, beq_eq_false_iff_ne.2 (Ne.symm h)]
    simp [Lib.hasPrefix, List.isPrefixOf, hc]
theorem named_no {l : List UInt8} (h : named l = true) : (47 : UInt8) ∉ l ∧ 1 ≤ l.length ∧ l.length ≤ 40 := by
  unfold named at h
  simp only [Bool.and_eq_true, decide_eq_true_iff] at h
  refine ⟨fun hm => ?_, h.1.2, h.2⟩
  have := List.all_eq_true.1 h.1.1 _ hm
  revert this
  decide
theorem goodL_root (n : List UInt8) (hn : (47 : UInt8) ∉ n) (hl : (47 :: n).length ≤ 200) : goodL (47 :: n) = (decide (n = []) || named n) := by
  show (decide (47 :: n = [47]) || (decide ((47 :: n).length ≤ 200) && ((47 : UInt8) == 47 && (stepsL n).all named))) = (decide (n = []) || named n)
  rw [stepsL_none n hn, decide_eq_true hl]
  simp
theorem goodL_deep (c : UInt8) (r n : List UInt8) (hd : c :: r ≠ [47]) (hn : (47 : UInt8) ∉ n) (hl : (c :: r ++ 47 :: n).length ≤ 200) : goodL (c :: r ++ 47 :: n) = (goodL (c :: r) && named n) := by
  show (decide (c :: (r ++ 47 :: n) = [47]) || (decide ((c :: (r ++ 47 :: n)).length ≤ 200) && (c == 47 && (stepsL (r ++ 47 :: n)).all named))) = ((decide (c :: r = [47]) || (decide ((c :: r).length ≤ 200) && (c == 47 && (stepsL r).all named))) && named n)
  have h1 : decide (c :: (r ++ 47 :: n) = [47]) = false := decide_eq_false (by simp)
  have h2 : decide (c :: r = [47]) = false := decide_eq_false hd
  have h3 : (c :: r).length ≤ 200 := by simp at hl ⊢; omega
  rw [h1, h2, stepsL_app, stepsL_none n hn, List.all_append, decide_eq_true (show (c :: (r ++ 47 :: n)).length ≤ 200 from hl), decide_eq_true h3]
  simp [Bool.and_assoc]
theorem lastP_spec {s : ByteArray} (hp : Lib.hasPrefix s.data.toList [47] = true) : (bs s)[lastP s]? = some 47 ∧ (47 : UInt8) ∉ (bs s).drop (lastP s + 1) := by
  obtain ⟨hL, hlt⟩ := lastP_is hp
  have get : ∀ j, j < s.size → (((s.data[j]!).toNat : Int) = 47 ↔ (bs s)[j]? = some 47) := by
    intro j hj
    have hj2 : j < (bs s).length := by rw [length_bs]; exact hj
    have h1 : s.data[j]! = (bs s)[j] := by
      rw [← Array.getElem!_toList]
      exact getElem!_pos s.data.toList j hj2
    rw [h1, List.getElem?_eq_getElem hj2]
    constructor
    · intro h
      have h2 : (bs s)[j].toNat = (47 : UInt8).toNat := by
        have : (47 : UInt8).toNat = 47 := rfl
        omega
      rw [UInt8.toNat_inj.1 h2]
    · intro h
      injection h with h
      rw [h]; rfl
  rcases Lib.lastIndexByte_spec s 47 with ⟨e, _⟩ | ⟨i, hi, e, hc, hn⟩
  · omega
  · have hik : lastP s = i := by omega
    rw [hik]
    refine ⟨(get i hi).1 hc, fun hm => ?_⟩
    obtain ⟨k, hk⟩ := List.mem_iff_getElem?.1 hm
    rw [List.getElem?_drop] at hk
    have hk2 : i + 1 + k < s.size := by
      have := (List.getElem?_eq_some_iff.1 hk).1
      rw [length_bs] at this
      exact this
    exact hn (i + 1 + k) (by omega) hk2 ((get _ hk2).2 hk)
/-- a text whose last slash stands behind d -/
theorem lastP_of {s : ByteArray} {d n : List UInt8} (h : bs s = d ++ 47 :: n) (hn : (47 : UInt8) ∉ n) (hp : Lib.hasPrefix s.data.toList [47] = true) : lastP s = d.length := by
  obtain ⟨h1, h2⟩ := lastP_spec hp
  rw [h] at h1 h2
  rcases Nat.lt_trichotomy (lastP s) d.length with hlt | heq | hgt
  · exfalso
    apply h2
    rw [List.drop_append]
    have : d.length - (lastP s + 1) + (lastP s + 1) = d.length := by omega
    rw [show lastP s + 1 - d.length = 0 from by omega]
    simp
  · exact heq
  · exfalso
    rw [List.getElem?_append_right (by omega)] at h1
    obtain ⟨m, hm⟩ : ∃ m, lastP s - d.length = m + 1 := ⟨lastP s - d.length - 1, by omega⟩
    rw [hm, List.getElem?_cons_succ] at h1
    exact hn (List.mem_iff_getElem?.2 ⟨m, h1⟩)
theorem slash_bs : bs slash = [47] := rfl
theorem good_slash : goodP slash = true := by unfold goodP slash; rw [decide_eq_true rfl]; rfl
theorem pre_of_bs {s : ByteArray} {r : List UInt8} (h : bs s = 47 :: r) : Lib.hasPrefix s.data.toList [47] = true := by
  show Lib.hasPrefix (bs s) [47] = true
  rw [h]
  simp [Lib.hasPrefix, List.isPrefixOf]
theorem bs_pre {s : ByteArray} (h : Lib.hasPrefix s.data.toList [47] = true) : ∃ r, bs s = 47 :: r := by
  have h2 : Lib.hasPrefix (bs s) [47] = true := h
  cases hb : bs s with
  | nil => rw [hb] at h2; cases h2
  | cons c r =>
    rw [hb] at h2
    have : (47 : UInt8) = c := by simpa [Lib.hasPrefix, List.isPrefixOf] using h2
    exact ⟨r, by rw [← this]⟩
theorem size_bs (s : ByteArray) : s.size = (bs s).length := (length_bs s).symm
/-- what Split gives can be joined again -/
theorem split_join {s : ByteArray} (h : goodP s = true) (hs : s ≠ slash) : joinR (splitR s).1 (splitR s).2.1 = (s, 0) ∧ goodP (splitR s).1 = true ∧ named (bs (splitR s).2.1) = true ∧ (splitR s).2.2 = 0 := by
  obtain ⟨hp, _⟩ := goodP_pre h hs
  obtain ⟨h1, h2⟩ := lastP_spec hp
  have hcut := cut_at h1
  have hsz := goodP_size h
  have hlen : (bs s).length ≤ 200 := by rw [length_bs]; exact hsz.2
  have hbs : bs (s.extract (lastP s + 1) s.size) = (bs s).drop (lastP s + 1) := by
    rw [bs_extract, List.take_of_length_le (by rw [length_bs]; exact Nat.le_refl _)]
  have hg : goodL (bs s) = true := by rw [← goodP_L]; exact h
  unfold splitR
  rw [if_pos h, if_neg hs]
  by_cases hk : lastP s = 0
  · rw [if_pos hk]
    have hbs1 : bs (s.extract 1 s.size) = (bs s).drop 1 := by rw [hk] at hbs; exact hbs
    have hcut0 : bs s = [] ++ 47 :: bs (s.extract 1 s.size) := by
      rw [hbs1]
      rw [hk] at hcut
      simpa using hcut
    have hn : (47 : UInt8) ∉ bs (s.extract 1 s.size) := by rw [hbs1]; rw [hk] at h2; exact h2
    have hcut1 : bs s = 47 :: bs (s.extract 1 s.size) := hcut0
    have hj := goodL_root (bs (s.extract 1 s.size)) hn (by rw [← hcut1]; exact hlen)
    rw [← hcut1, hg] at hj
    have hne : bs (s.extract 1 s.size) ≠ [] := by
      intro h0
      rw [h0] at hcut0
      exact hs (bs_inj (by rw [hcut0]; rfl))
    have hnm : named (bs (s.extract 1 s.size)) = true := by
      simp only [decide_eq_false hne, Bool.false_or] at hj
      exact hj.symm
    refine ⟨?_, good_slash, hnm, rfl⟩
    have hjt : joinT slash (s.extract 1 s.size) = s := by
      unfold joinT
      rw [if_pos rfl]
      apply bs_inj
      rw [bs_append, slash_bs, hcut0]
      rfl
    unfold joinR
    rw [good_slash, hnm, hjt, Bool.and_self, if_pos rfl, if_neg (by omega)]
  · rw [if_neg hk]
    have hbd : bs (s.extract 0 (lastP s)) = (bs s).take (lastP s) := by rw [bs_extract]; rfl
    have hcut0 : bs s = bs (s.extract 0 (lastP s)) ++ 47 :: bs (s.extract (lastP s + 1) s.size) := by rw [hbd, hbs]; exact hcut
    have hn : (47 : UInt8) ∉ bs (s.extract (lastP s + 1) s.size) := by rw [hbs]; exact h2
    have hlt := (lastP_is hp).2
    have hdl : (bs (s.extract 0 (lastP s))).length = lastP s := by rw [hbd, List.length_take, length_bs]; omega
    generalize s.extract 0 (lastP s) = d at *
    generalize s.extract (lastP s + 1) s.size = n at *
    have hds : bs d ≠ [47] := by
      intro h0
      rw [h0] at hcut0
      have : goodL (47 :: 47 :: bs n) = true := by rw [hcut0] at hg; exact hg
      have h3 : (47 :: 47 :: bs n).length ≤ 200 := by rw [hcut0] at hlen; exact hlen
      have h4 := stepsL_cons 47 (bs n)
      unfold goodL at this
      simp only [h4, if_true, List.all_cons, decide_eq_false (show ¬ (47 :: 47 :: bs n = [47]) by simp)] at this
      have h5 : named [] = false := by decide
      rw [h5] at this
      simp at this
    cases hbd2 : bs d with
    | nil => rw [hbd2] at hdl; simp at hdl; omega
    | cons c r =>
      rw [hbd2] at hds
      have hcut1 : bs s = c :: r ++ 47 :: bs n := by rw [hcut0, hbd2]
      have hj := goodL_deep c r (bs n) hds hn (by rw [← hcut1]; exact hlen)
      rw [← hcut1, hg] at hj
      have hj2 : goodL (c :: r) = true ∧ named (bs n) = true := by
        have := hj.symm
        simpa [Bool.and_eq_true] using this
      have hgd : goodP d = true := by rw [goodP_L, hbd2]; exact hj2.1
      have hdne : d ≠ slash := fun e => hds (by rw [← hbd2, e]; rfl)
      refine ⟨?_, hgd, hj2.2, rfl⟩
      have hjt : joinT d n = s := by
        unfold joinT
        rw [if_neg hdne]
        apply bs_inj
        rw [bs_append, bs_append, slash_bs, hcut0]
        simp
      unfold joinR
      rw [hgd, hj2.2, hjt, Bool.and_self, if_pos rfl, if_neg (by omega)]
end Go.Proofs.YtfoglgeiipafeaaDoor

/- copy and append with room made, for elements of several cells: laws of no program; a row spliced. -/
namespace Go.Proofs.YtfoglgeiipafeaaDoor
open Go.RowKit
/-- a block known whole -/
def Bk (w : World) (g : Nat) (cs : List Value) (t : TypeId) : Prop := w.heap[g]? = some (.cells cs.toArray t (0, 0))
theorem Bk.lt {w : World} {g : Nat} {cs : List Value} {t : TypeId} (h : Bk w g cs t) : g < w.heap.size := (Array.getElem?_eq_some_iff.1 h).1
theorem Bk.cell {w : World} {g : Nat} {cs : List Value} {t : TypeId} (h : Bk w g cs t) (i : Nat) : w.cell? ⟨g, i, none⟩ = cs[i]? := by unfold Bk at h; simp [World.cell?, h]
theorem Bk.frozen {w : World} {g : Nat} {cs : List Value} {t : TypeId} (h : Bk w g cs t) (i : Nat) : w.frozen? ⟨g, i, none⟩ = false := by unfold Bk at h; simp [World.frozen?, h]
theorem Bk.grown {w w' : World} {g : Nat} {cs : List Value} {t : TypeId} {row : Option Nat} (h : Bk w g cs t) (hg : w.grownBy w' row) (hne : some g ≠ row) : Bk w' g cs t := (hg.block g h.lt hne).trans h
theorem Bk.below {w w' : World} {g : Nat} {cs : List Value} {t : TypeId} (h : Bk w g cs t) (hb : Below w.heap.size w w') : Bk w' g cs t := (hb.block g h.lt).trans h

theorem ins1 {α : Type} (A B J X : List α) (h : X.length ≤ J.length) : splice (splice (A ++ B ++ J) (A.length + X.length) B) A.length X = A ++ X ++ B ++ J.drop X.length := by
  unfold splice
  have e1 : ((A ++ B ++ J).take (A.length + X.length)).length = A.length + X.length := by simp; omega
  have e2 : (A ++ B ++ J).drop (A.length + X.length + B.length) = J.drop X.length := by
    rw [List.drop_append, List.drop_eq_nil_of_le (by simp <;> omega), List.nil_append]
    congr 1
    simp
    omega
  have e3 : (((A ++ B ++ J).take (A.length + X.length)) ++ (B ++ (A ++ B ++ J).drop (A.length + X.length + B.length))).take A.length = A := by
    rw [List.take_append_of_le_length (by rw [e1]; omega), List.take_take, Nat.min_eq_left (by omega), List.append_assoc, List.take_left]
  have e4 : (((A ++ B ++ J).take (A.length + X.length)) ++ (B ++ (A ++ B ++ J).drop (A.length + X.length + B.length))).drop (A.length + X.length) = B ++ (A ++ B ++ J).drop (A.length + X.length + B.length) := by
    rw [List.drop_append_of_le_length (by rw [e1]; omega), List.drop_eq_nil_of_le (by rw [e1]; omega), List.nil_append]
  rw [e3, e4, e2]
  simp
theorem ins2 {α : Type} (A Z B X : List α) : splice (splice (A ++ Z) A.length X) (A.length + X.length) B = A ++ X ++ B ++ Z.drop (X.length + B.length) := by
  unfold splice
  rw [List.take_left]
  have e1 : (A ++ Z).drop (A.length + X.length) = Z.drop X.length := by rw [List.drop_append, List.drop_eq_nil_of_le (by omega)]; simp
  rw [e1]
  have e2 : (A ++ (X ++ Z.drop X.length)).take (A.length + X.length) = A ++ X := by rw [← List.append_assoc, ← List.length_append, List.take_left]
  have e3 : (A ++ (X ++ Z.drop X.length)).drop (A.length + X.length + B.length) = Z.drop (X.length + B.length) := by
    rw [← List.append_assoc, ← List.length_append, ← List.drop_drop, List.drop_left, List.drop_drop]
  rw [e2, e3]
  simp
theorem splice_length {α : Type} (L : List α) (o : Nat) (cs : List α) (h : o + cs.length ≤ L.length) : (splice L o cs).length = L.length := length_splice L o cs h

section
variable {P : Program}
theorem run_copy_blk {w : World} {dT sT ty e : TypeId} {s g o dLen dCap : Nat} {a : Addr} {sLen sCap : Nat} {cur : List Value} {t : TypeId} {cs : List Value}
    (hu : P.underlying dT = some (.slice e)) (hs : (P.info? e).map (·.size) = some s) (hg : Bk w g cur t) (hn : cs.length = Nat.min sLen dLen * s)
    (hsrc : ∀ j v, cs[j]? = some v → w.cell? (a.add j) = some v) (hfit : o + cs.length ≤ cur.length) (h1 : ∀ v ∈ cs, v.oneCell' = true) :
    (Builtin.copy_ #[dT, sT] ty #[.slice (some ⟨g, o, none⟩) dLen dCap, .slice (some a) sLen sCap]).run P w =
      .ok (goInt (Nat.min sLen dLen)) (w.setRow g (splice cur o cs).toArray) := by
  have hl := run_firstCells_some (P := P) w s (Nat.min sLen dLen) a sLen sCap cs hn hsrc
  have hst := run_storeCells_at P g o t cs 0 cur.toArray w hg (by simpa using hfit) h1
  cases hq : P.info? e with
  | none => simp [hq] at hs
  | some i =>
    have hi : i.size = s := by simpa [hq] using hs
    simp only [Nat.min_def] at hl
    simp [Builtin.copy_, run_underlying hu, Builtin.lenOf, sizeOf, typeInfo, hq, hi, hl, hst, splice, Nat.min_def]
theorem grownCap_bounds (w : World) (need old : Nat) (e : TypeId) (h : need ≤ maxLen) : need ≤ grownCap w need old e ∧ grownCap w need old e ≤ maxLen := ⟨grownCap_ge _ _ _ _, grownCap_le_maxLen _ _ _ _ h⟩
/-- append of cnt noughts where they do not fit: a new row -/
theorem wpList_appz {w : World} {ops : Array Oper} {rest : List Oper} {o : Oper} {a : Act} {Q : Exit → Act → World → Prop} (hgd : o.guard = none) (sv x : Operand) (t tn : TypeId)
    (ho : o.op = .call { callee := .builtin .append, args := #[sv, x], argTypes := #[t, tn] }) {e : TypeId} {z : Value} {s bytes : Nat} (E : El P t e z s bytes) {kn : IntKind} (htn : P.underlying tn = some (.int kn))
    {g k c cnt : Nat} {cur : List Value} {et : TypeId} (hs : a.eval sv = .slice (some ⟨g, 0, none⟩) k c) (hx : a.eval x = .int .i64 (cnt : Int)) (hg : Bk w g cur et) (hk : k * s ≤ cur.length) (h0 : 0 < cnt) (hc : c < k + cnt)
    (h63 : k + cnt ≤ maxLen) (hbytes : (k + cnt) * bytes ≤ 140737488355328)
    (h : ∀ w1 (Z : List Value) (cap : Nat), Bk w1 w.heap.size (cur.take (k * s) ++ Z) e → Z.length = (cap - k) * s → k + cnt ≤ cap → cap ≤ maxLen → w.grownBy w1 none → w1.heap.size = w.heap.size + 1 →
      wpList P ops Q rest (a.put o.dst (.slice (some ⟨w.heap.size, 0, none⟩) (k + cnt) cap)) w1) : wpList P ops Q (o :: rest) a w := by
  obtain ⟨i, hi, hz, hsz, hby⟩ := info_of E.info
  have hcells : ∀ j v, (cur.take (k * s))[j]? = some v → w.drew.cell? ((⟨g, 0, none⟩ : Addr).add j) = some v := by
    intro j v hj
    have hadd : (⟨g, 0, none⟩ : Addr).add j = ⟨g, j, none⟩ := by unfold Addr.add; split <;> simp_all
    rw [List.getElem?_take] at hj
    split at hj
    · rw [hadd]
      show w.cell? _ = _
      rw [hg.cell, hj]
    · cases hj
  have hold := run_firstCells_some (P := P) w.drew i.size k ⟨g, 0, none⟩ k c (cur.take (k * s)) (by rw [List.length_take, hsz]; omega) hcells
  have hb1 : cnt * bytes ≤ 281474976710656 := by
    have : cnt * bytes ≤ (k + cnt) * bytes := Nat.mul_le_mul_right _ (by omega)
    omega
  have hr := Lib.run_append_grow_zeros (P := P) w t tn o.type e i z .i64 kn E.slice htn hi hz (some ⟨g, 0, none⟩) k c (cur.take (k * s)) hold cnt h0 (by rw [hsz]; exact E.pos) hc
    (by simp [maxLen] at h63; omega) (by rw [hby]; exact hb1) (by rw [hby]; exact growslice_fits hc hbytes)
  obtain ⟨hc1, hc2⟩ := grownCap_bounds w (k + cnt) c e h63
  refine Lib.wpList_append_run w hgd sv x t tn ho _ _ hs hx _ _ hr ?_
  refine h _ (Builtin.zeroCells z.cells cnt ++ Builtin.zeroCells z.cells (grownCap w (k + cnt) c e - (k + cnt))).toList _ ?_ ?_ hc1 hc2 ⟨rfl, rfl, rfl, by simp, fun j hj _ => heap_alloc_old w.drew _ hj⟩ (by simp)
  · have := heap_alloc_new w.drew (.cells ((cur.take (k * s)).toArray ++ Builtin.zeroCells z.cells cnt ++ Builtin.zeroCells z.cells (grownCap w (k + cnt) c e - (k + cnt))) e)
    unfold Bk
    rw [show ((cur.take (k * s) ++ (Builtin.zeroCells z.cells cnt ++ Builtin.zeroCells z.cells (grownCap w (k + cnt) c e - (k + cnt))).toList).toArray : Array Value) = (cur.take (k * s)).toArray ++ Builtin.zeroCells z.cells cnt ++ Builtin.zeroCells z.cells (grownCap w (k + cnt) c e - (k + cnt)) from by apply Array.ext'; simp]
    exact this
  · simp only [Array.toList_append, List.length_append, Array.length_toList, size_zeroCells, E.cells]
    rw [← Nat.add_mul]
    congr 1
    omega
theorem setRow_grown (w : World) (g : Nat) (cs : Array Value) : w.grownBy (w.setRow g cs) (some g) :=
  ⟨rfl, rfl, rfl, by simp [World.setRow], fun k hk hne => setRow_other w g k cs (fun h => hne (by rw [h]))⟩
theorem Bk.setRow {w : World} {g : Nat} {cur cs : List Value} {t : TypeId} (h : Bk w g cur t) : Bk (w.setRow g cs.toArray) g cs t := setRow_heap w g _ _ t _ h
theorem wp_cp {w : World} {o : Oper} {a : Act} {K : Act → World → Prop} {Q : Exit → Act → World → Prop} (d x : Operand) (dT sT : TypeId)
    (ho : o.op = .call { callee := .builtin .copy, args := #[d, x], argTypes := #[dT, sT] }) {e : TypeId} {z : Value} {s bytes : Nat} (E : El P dT e z s bytes) {g off dLen dCap : Nat} {ad : Addr} {sLen sCap : Nat} {cur : List Value} {t : TypeId} {cs : List Value}
    (hd : a.eval d = .slice (some ⟨g, off, none⟩) dLen dCap) (hx : a.eval x = .slice (some ad) sLen sCap) (hg : Bk w g cur t) (hn : cs.length = Nat.min sLen dLen * s)
    (hsrc : ∀ j v, cs[j]? = some v → w.cell? (ad.add j) = some v) (hfit : off + cs.length ≤ cur.length) (h1 : ∀ v ∈ cs, v.oneCell' = true)
    (h : ∀ w', Bk w' g (splice cur off cs) t → w.grownBy w' (some g) → w'.heap.size = w.heap.size → K (a.put o.dst (goInt (Nat.min sLen dLen))) w') : o.wp P a w K Q := by
  have hr := run_copy_blk (P := P) (ty := o.type) (sT := sT) (dCap := dCap) (sCap := sCap) E.slice (by obtain ⟨i, hi, _, hsz, _⟩ := info_of E.info; rw [hi, ← hsz]; rfl) hg hn hsrc hfit h1
  unfold Oper.wp execOp
  simp only [ho, resolve, invoke, builtin, Sem.run_bind, Sem.run_pure, Result.andThen_ok, List.map_toArray, List.map_cons, List.map_nil, hd, hx, hr]
  exact h _ hg.setRow (setRow_grown _ _ _) (by simp [World.setRow])
theorem wpList_cp {w : World} {ops : Array Oper} {rest : List Oper} {o : Oper} {a : Act} {Q : Exit → Act → World → Prop} (hgd : o.guard = none) (d x : Operand) (dT sT : TypeId)
    (ho : o.op = .call { callee := .builtin .copy, args := #[d, x], argTypes := #[dT, sT] }) {e : TypeId} {z : Value} {s bytes : Nat} (E : El P dT e z s bytes) {g off dLen dCap : Nat} {ad : Addr} {sLen sCap : Nat} {cur : List Value} {t : TypeId} {cs : List Value}
    (hd : a.eval d = .slice (some ⟨g, off, none⟩) dLen dCap) (hx : a.eval x = .slice (some ad) sLen sCap) (hg : Bk w g cur t) (hn : cs.length = Nat.min sLen dLen * s)
    (hsrc : ∀ j v, cs[j]? = some v → w.cell? (ad.add j) = some v) (hfit : off + cs.length ≤ cur.length) (h1 : ∀ v ∈ cs, v.oneCell' = true)
    (h : ∀ w', Bk w' g (splice cur off cs) t → w.grownBy w' (some g) → w'.heap.size = w.heap.size → wpList P ops Q rest (a.put o.dst (goInt (Nat.min sLen dLen))) w') : wpList P ops Q (o :: rest) a w :=
  wpList_plain hgd fun _ hK => wp_cp d x dT sT ho E hd hx hg hn hsrc hfit h1 fun w' h2 h3 h4 => hK _ _ (h w' h2 h3 h4)
theorem step_cp {w : World} {ops : Array Oper} {o : Oper} {a : Act} {K : Act → World → Prop} {Q : Exit → Act → World → Prop} {EE : Prop} (hgd : o.guard = none) (d x : Operand) (dT sT : TypeId)
    (ho : o.op = .call { callee := .builtin .copy, args := #[d, x], argTypes := #[dT, sT] }) {e : TypeId} {z : Value} {s bytes : Nat} (E : El P dT e z s bytes) {g off dLen dCap : Nat} {ad : Addr} {sLen sCap : Nat} {cur : List Value} {t : TypeId} {cs : List Value}
    (hd : a.eval d = .slice (some ⟨g, off, none⟩) dLen dCap) (hx : a.eval x = .slice (some ad) sLen sCap) (hg : Bk w g cur t) (hn : cs.length = Nat.min sLen dLen * s)
    (hsrc : ∀ j v, cs[j]? = some v → w.cell? (ad.add j) = some v) (hfit : off + cs.length ≤ cur.length) (h1 : ∀ v ∈ cs, v.oneCell' = true)
    (h : ∀ w', Bk w' g (splice cur off cs) t → w.grownBy w' (some g) → w'.heap.size = w.heap.size → K (a.put o.dst (goInt (Nat.min sLen dLen))) w') : if Region.wanted o (yielded ops a.tmps) = true then Oper.wp P o a w K Q else EE := by
  have hw : Region.wanted o (yielded ops a.tmps) = true := by simp [Region.wanted, hgd]
  rw [if_pos hw]
  exact wp_cp d x dT sT ho E hd hx hg hn hsrc hfit h1 h
/-- guards, for arms of a walk: the next operation is a copy -/
theorem wpList_atcp {ops : Array Oper} {rest : List Oper} {d : Option Tmp} {args : Array Operand} {ts : Array TypeId} {ty : TypeId} {pos : String} {af : Array Edge} {g : Option (Nat × Bool)} {a : Act} {w : World} {Q : Exit → Act → World → Prop}
    (h : wpList P ops Q (⟨d, .call { callee := .builtin .copy, args := args, argTypes := ts }, ty, pos, af, g⟩ :: rest) a w) : wpList P ops Q (⟨d, .call { callee := .builtin .copy, args := args, argTypes := ts }, ty, pos, af, g⟩ :: rest) a w := h
theorem Bk.shape {w : World} {g : Nat} {cs : List Value} {t : TypeId} (h : Bk w g cs t) : w.shape? g = some (t, cs.length) := by unfold Bk at h; simp [World.shape?, h]
/-- slices.overlaps of two slices in two blocks: no -/
theorem overlaps_no {F : FuncId} {fn : Func} {tS tB e : TypeId} {z : Value} {s bytes : Nat} (E : El P tS e z s bytes) (hf : P.funcs[F]? = some fn) (hname : (fn.name == "runtime.NumGoroutine") = false)
    (hb : fn.body.isNone = true) (hn : Extern.findNext fn = none) (he : Extern.find fn = some (Extern.SlicesOverlaps.overlaps #[tS, tS] #[tB])) {w : World} {g vb : Nat} {xs cur : List Value} {t t' : TypeId} (hv : Bk w vb xs t) (hg : Bk w g cur t') (hne : vb ≠ g) (h0 : cur.length ≠ 0)
    (off la ca lb cb : Nat) : (callFunc F #[.slice (some ⟨vb, 0, none⟩) la ca, .slice (some ⟨g, off, none⟩) lb cb]).run P w = .ok (.value (.bool false)) w := by
  rw [run_callFunc_extern hf hname hb hn he, Lib.run_overlaps_apart w tS tB e E.slice s (fun w => by obtain ⟨i, hi, _, hsz, _⟩ := info_of E.info; simp [sizeOf, typeInfo, hi, hsz]) ⟨vb, 0, none⟩ ⟨g, off, none⟩ la ca lb cb hne t t' _ _ hv.shape hg.shape h0 (hv.frozen 0) (hv.frozen _)]
  rfl
end
end Go.Proofs.YtfoglgeiipafeaaDoor

/- rows of the call's own: general lemmas (once part of T4). -/
namespace Go.Proofs.YtfoglgeiipafeaaDoor
open Go.RowKit
/-- what a call that writes into its own row leaves: a row of these elements -/
def Rowed {α : Type} (f : α → List Value) (s : Nat) (e : TypeId) (B n : Nat) (l : List α) (row : Option Nat) (w : World) (r : Ending) (w' : World) : Prop :=
  ∃ A c, r = .returned (.slice A n c) ∧ Ow f s e w' B (.slice A n c) l ∧ w.grownBy w' row ∧ ((Value.slice A n c).ownBlock = row ∨ (Value.slice A n c).ownBlock = some w.heap.size)

theorem Ow.is_slice {α : Type} {f : α → List Value} {s : Nat} {e : TypeId} {w : World} {B : Nat} {v : Value} {l : List α} {m : Nat} (h : Ow f s e w B v l) (hm : l.length = m) : ∃ A c, v = .slice A m c := by
  obtain ⟨A, c, h, _⟩ := h.form
  exact ⟨A, c, by rw [h, hm]⟩
/-- a one-element slice over a block that is known -/
theorem Sl.blk {α : Type} {f : α → List Value} {s : Nat} {w : World} {g : Nat} {x : α} {e : TypeId} (hs : (f x).length = s) (h : Bk w g (f x) e) : Sl f s w (.slice (some ⟨g, 0, none⟩) 1 1) [x] := by
  refine ⟨some ⟨g, 0, none⟩, 1, rfl, Nat.le_refl _, by simp [maxLen], by simpa using hs, fun _ => ⟨_, _, rfl, h.lt, fun i y hy j u hu => ?_⟩⟩
  cases i with
  | zero =>
    simp at hy
    subst hy
    rw [show 0 + 0 * s + j = j from by omega, h.cell]
    exact hu
  | succ i => simp at hy
theorem flatMap_split {α : Type} {f : α → List Value} {s : Nat} {l : List α} (hf : ∀ x ∈ l, (f x).length = s) (k : Nat) : (l.take k).flatMap f = (l.flatMap f).take (k * s) ∧ (l.drop k).flatMap f = (l.flatMap f).drop (k * s) := by
  induction l generalizing k with
  | nil => simp
  | cons y l ih =>
    have hy : (f y).length = s := hf y (by simp)
    cases k with
    | zero => simp
    | succ k =>
      have h := ih (fun z hz => hf z (by simp [hz])) k
      have e1 : (k + 1) * s = (f y).length + k * s := by rw [hy, Nat.succ_mul, Nat.add_comm]
      constructor
      · rw [List.take_succ_cons, List.flatMap_cons, h.1, List.flatMap_cons, e1, List.take_length_add_append]
      · rw [List.drop_succ_cons, h.2, List.flatMap_cons, e1, List.drop_length_add_append]
/-- an owned row, opened -/
theorem Ow.blk {α : Type} {f : α → List Value} {s : Nat} {e : TypeId} {w : World} {B n c : Nat} {A : Option Addr} {l : List α} (h : Ow f s e w B (.slice A n c) l) (h0 : 0 < n) :
    ∃ g J, A = some ⟨g, 0, none⟩ ∧ B ≤ g ∧ Bk w g (l.flatMap f ++ J) e ∧ (l.flatMap f ++ J).length = c * s ∧ n ≤ c ∧ c ≤ maxLen ∧ n = l.length := by
  obtain ⟨_, _, hf1, _⟩ := h.form
  injection hf1 with _ e2 _
  rcases h.1.2 with ⟨hn, _⟩ | ⟨g, cap, cur, hv, hB, hg, h1, h2, h3, h4⟩
  · injection hn with _ e3 _; omega
  · injection hv with v1 v2 v3
    subst v3
    refine ⟨g, cur.toList.drop (l.length * s), v1, hB, ?_, ?_, by omega, h2, e2⟩
    · rw [← h4, List.take_append_drop]
      unfold Bk
      simpa using hg
    · rw [← h4, List.take_append_drop]
      simpa using h3
theorem Ow.of_blk {α : Type} {f : α → List Value} {s : Nat} {e : TypeId} {w : World} {B g c : Nat} {l : List α} {cur J : List Value} (hf : ∀ x ∈ l, (f x).length = s) (hB : B ≤ g) (hb : Bk w g cur e) (hcur : cur = l.flatMap f ++ J) (hl : cur.length = c * s) (hn : l.length ≤ c) (hc : c ≤ maxLen) :
    Ow f s e w B (.slice (some ⟨g, 0, none⟩) l.length c) l := by
  refine ⟨⟨flatMap_length hf, .inr ⟨g, c, cur.toArray, rfl, hB, hb, hn, hc, by simpa using hl, ?_⟩⟩, hf⟩
  rw [← flatMap_length hf]
  simp only [hcur]
  rw [List.take_left]

end Go.Proofs.YtfoglgeiipafeaaDoor

/- writing one element of a row of one's own; a row in a grown world. -/
namespace Go.Proofs.YtfoglgeiipafeaaDoor
open Go.RowKit
theorem Bk.put {w : World} {g : Nat} {cs : List Value} {t : TypeId} (h : Bk w g cs t) (j : Nat) (v : Value) : Bk (w.setCell ⟨g, j, none⟩ v) g (cs.set j v) t := by
  have hlt := h.lt
  unfold Bk at h ⊢
  unfold World.setCell
  simp only [Array.getElem?_modify, h]
  simp
theorem grownBy_setCell (w : World) (g j : Nat) (v : Value) : w.grownBy (w.setCell ⟨g, j, none⟩ v) (some g) := by
  refine ⟨rfl, rfl, rfl, by simp [World.setCell], fun k hk hne => ?_⟩
  unfold World.setCell
  simp only [Array.getElem?_modify]
  split
  · rename_i e; subst e; exact absurd rfl hne
  · rfl
theorem Bk.puts {g : Nat} {t : TypeId} : ∀ (vs : List Value) (o : Nat) {w : World} {cs : List Value}, Bk w g cs t → o + vs.length ≤ cs.length → Bk (w.setCells g o vs) g (splice cs o vs) t
  | [], o, w, cs, h, _ => by simpa [World.setCells, splice] using h
  | v :: r, o, w, cs, h, hl => by
    have := Bk.puts (t := t) r (o + 1) (h.put o v) (by simp at hl ⊢; omega)
    rw [World.setCells]
    have e : splice (cs.set o v) (o + 1) r = splice cs o (v :: r) := by
      simp only [List.length_cons] at hl
      unfold splice
      have h1 : (cs.set o v).take (o + 1) = cs.take o ++ [v] := by
        rw [List.take_add_one, List.getElem?_set_self (by omega), List.take_set_of_le (by omega)]
        rfl
      rw [h1, List.drop_set_of_lt (by omega), List.length_cons, show o + (r.length + 1) = o + 1 + r.length from by omega]
      simp
    rw [← e]
    exact this
theorem grownBy_setCells (g : Nat) : ∀ (vs : List Value) (o : Nat) (w : World), w.grownBy (w.setCells g o vs) (some g)
  | [], _, _ => World.grownBy.refl _ _
  | v :: r, o, w => (grownBy_setCell w g o v).trans (grownBy_setCells g r (o + 1) _)
theorem flatMap_set {α : Type} {f : α → List Value} {s : Nat} {l : List α} (hf : ∀ x ∈ l, (f x).length = s) {k : Nat} (hk : k < l.length) (x : α) (hx : (f x).length = s) (J : List Value) : splice (l.flatMap f ++ J) (k * s) (f x) = (l.set k x).flatMap f ++ J := by
  have e : l = l.take k ++ l[k] :: l.drop (k + 1) := by rw [List.getElem_cons_drop, List.take_append_drop]
  have hA : ((l.take k).flatMap f).length = k * s := by rw [flatMap_length (fun y hy => hf y (List.mem_of_mem_take hy)), List.length_take, Nat.min_eq_left (by omega)]
  have hm : (f l[k]).length = s := hf _ (List.getElem_mem _)
  have e2 : l.set k x = l.take k ++ x :: l.drop (k + 1) := by rw [List.set_eq_take_append_cons_drop, if_pos hk]
  rw [e2]
  have e3 : l.flatMap f = (l.take k).flatMap f ++ (f l[k] ++ (l.drop (k + 1)).flatMap f) := by
    conv => lhs; rw [e]
    rw [List.flatMap_append, List.flatMap_cons]
  rw [e3]
  unfold splice
  rw [List.append_assoc, ← hA, List.take_left, List.flatMap_append, List.flatMap_cons]
  have e4 : ((l.take k).flatMap f ++ (f l[k] ++ (l.drop (k + 1)).flatMap f ++ J)).drop (((l.take k).flatMap f).length + (f x).length) = (l.drop (k + 1)).flatMap f ++ J := by
    rw [List.append_assoc, ← List.drop_drop, List.drop_left, hx, ← hm, List.drop_left]
  rw [e4]
  simp
/-- a row of one's own, one element written -/
theorem Ow.put {α : Type} {f : α → List Value} {s : Nat} {e : TypeId} {w : World} {B n c g : Nat} {l : List α} {cur J : List Value} (hf : ∀ x ∈ l, (f x).length = s) (hb : Bk w g cur e) (hcur : cur = l.flatMap f ++ J) (hl : cur.length = c * s) (hB : B ≤ g) (hn : n = l.length) (hc : n ≤ c) (hcm : c ≤ maxLen)
    {k : Nat} (hk : k < l.length) (x : α) (hx : (f x).length = s) : Ow f s e (w.setCells g (k * s) (f x)) B (.slice (some ⟨g, 0, none⟩) n c) (l.set k x) := by
  have hks : k * s + (f x).length ≤ cur.length := by
    rw [hl, hx]
    calc k * s + s = (k + 1) * s := (Nat.succ_mul k s).symm
      _ ≤ c * s := Nat.mul_le_mul_right s (by omega)
  have h1 := hb.puts (f x) (k * s) hks
  rw [hcur, flatMap_set hf hk x hx J] at h1
  have hlen : (l.set k x).length = n := by rw [List.length_set, hn]
  rw [← hlen]
  refine ⟨⟨flatMap_length (fun y hy => ?_), .inr ⟨g, c, ((l.set k x).flatMap f ++ J).toArray, rfl, hB, h1, by omega, hcm, ?_, ?_⟩⟩, fun y hy => ?_⟩
  · rcases List.mem_or_eq_of_mem_set hy with h | rfl
    · exact hf y h
    · exact hx
  · have h2 := splice_length (l.flatMap f ++ J) (k * s) (f x) (by rw [← hcur]; exact hks)
    rw [flatMap_set hf hk x hx J, ← hcur] at h2
    simp only [List.size_toArray]
    rw [h2, hl]
  · rw [← flatMap_length (f := f) (s := s) (fun y hy => by rcases List.mem_or_eq_of_mem_set hy with h | rfl; exact hf y h; exact hx)]
    simp
  · rcases List.mem_or_eq_of_mem_set hy with h | rfl
    · exact hf y h
    · exact hx
theorem grown_after {W w w' : World} {row : Option Nat} (hb : Below W.heap.size W w) (hg : w.grownBy w' row) (hrow : ∀ k, row = some k → W.heap.size ≤ k) : ∃ ext d, w' = grow W ext d :=
  Below.grown_eq _ (hb.grown hg hb.size hrow)
theorem Ow.own_in {α : Type} {f : α → List Value} {s : Nat} {e : TypeId} {w : World} {B : Nat} {v : Value} {l : List α} (h : Ow f s e w B v l) {k : Nat} (hk : v.ownBlock = some k) : B ≤ k ∧ k < w.heap.size := by
  rcases h.1.2 with ⟨rfl, _⟩ | ⟨g, cap, cur, rfl, hB, hg, _⟩
  · simp [Value.ownBlock] at hk
  · obtain rfl : g = k := by simpa [Value.ownBlock] using hk
    exact ⟨hB, (Array.getElem?_eq_some_iff.1 hg).1⟩
theorem Bk.regrow {W W' : World} {ext : Array Obj} {d d' g : Nat} {cs : List Value} {t : TypeId} (h : Bk (grow W ext d) g cs t) (hg : W.heap.size ≤ g) (hs : W'.heap.size = W.heap.size) : Bk (grow W' ext d') g cs t := by
  unfold Bk grow at h ⊢
  simp only [Array.getElem?_append] at h ⊢
  rw [if_neg (by omega)] at h
  rw [if_neg (by omega), hs]
  exact h
/-- what the walk asks of the cells of one's own row, two layers deep -/
theorem Bk.cells2 {W : World} {ext : Array Obj} {d g n : Nat} {cs : List Value} {t : TypeId} (h : Bk (grow W ext d) g cs t) (hg : n ≤ g) (hn : W.heap.size = n) (j : Nat) (v : Value) (hv : cs[j]? = some v) :
    (∀ (W' : World) (d' : Nat) (e1 : Array Obj) (d1 : Nat), W'.heap.size = n → (grow (grow W' ext d') e1 d1).cell? ⟨g, j, none⟩ = some v) ∧ (∀ (W' : World) (d' : Nat) (e1 : Array Obj) (d1 : Nat), W'.heap.size = n → (grow (grow W' ext d') e1 d1).frozen? ⟨g, j, none⟩ = false) := by
  constructor
  · intro W' d' e1 d1 hs
    have h2 := (h.regrow (W' := W') (d' := d') (by omega) (by omega)).below (below_grow0 e1 d1 (Below.refl _ _))
    rw [h2.cell, hv]
  · intro W' d' e1 d1 hs
    have h2 := (h.regrow (W' := W') (d' := d') (by omega) (by omega)).below (below_grow0 e1 d1 (Below.refl _ _))
    exact h2.frozen _
/-- one's own row, its q-th element's cells laid open for a store -/
theorem Ow.open3 {α : Type} {f : α → List Value} {e : TypeId} {W : World} {ext : Array Obj} {d B N n c q : Nat} {A : Option Addr} {l : List α} (h : Ow f 3 e (grow W ext d) B (.slice A n c) l) (hB : N ≤ B) (hN : W.heap.size = N) (hq : q < l.length) :
    ∃ g J, A = some ⟨g, 0, none⟩ ∧ N ≤ g ∧ Bk (grow W ext d) g (l.flatMap f ++ J) e ∧ (l.flatMap f ++ J).length = c * 3 ∧ n ≤ c ∧ c ≤ maxLen ∧ n = l.length ∧ ∃ v0 v1 v2,
      (∀ (W' : World) (d' : Nat) (e1 : Array Obj) (d1 : Nat), W'.heap.size = N → (grow (grow W' ext d') e1 d1).cell? ⟨g, q * 3, none⟩ = some v0) ∧ (∀ (W' : World) (d' : Nat) (e1 : Array Obj) (d1 : Nat), W'.heap.size = N → (grow (grow W' ext d') e1 d1).frozen? ⟨g, q * 3, none⟩ = false) ∧
      (∀ (W' : World) (d' : Nat) (e1 : Array Obj) (d1 : Nat), W'.heap.size = N → (grow (grow W' ext d') e1 d1).cell? ⟨g, q * 3 + 1, none⟩ = some v1) ∧ (∀ (W' : World) (d' : Nat) (e1 : Array Obj) (d1 : Nat), W'.heap.size = N → (grow (grow W' ext d') e1 d1).frozen? ⟨g, q * 3 + 1, none⟩ = false) ∧
      (∀ (W' : World) (d' : Nat) (e1 : Array Obj) (d1 : Nat), W'.heap.size = N → (grow (grow W' ext d') e1 d1).cell? ⟨g, q * 3 + 2, none⟩ = some v2) ∧ (∀ (W' : World) (d' : Nat) (e1 : Array Obj) (d1 : Nat), W'.heap.size = N → (grow (grow W' ext d') e1 d1).frozen? ⟨g, q * 3 + 2, none⟩ = false) := by
  have hnl : n = l.length := by obtain ⟨_, _, h1, _⟩ := h.form; injection h1
  obtain ⟨g, J, rfl, hg, hb, hl, h1, h2, h3⟩ := h.blk (by omega)
  obtain ⟨x0, y0⟩ := hb.cells2 (n := N) (by omega) hN (q * 3) _ (List.getElem?_eq_getElem (by rw [hl]; omega))
  obtain ⟨x1, y1⟩ := hb.cells2 (n := N) (by omega) hN (q * 3 + 1) _ (List.getElem?_eq_getElem (by rw [hl]; omega))
  obtain ⟨x2, y2⟩ := hb.cells2 (n := N) (by omega) hN (q * 3 + 2) _ (List.getElem?_eq_getElem (by rw [hl]; omega))
  exact ⟨g, J, rfl, by omega, hb, hl, h1, h2, h3, _, _, _, x0, y0, x1, y1, x2, y2⟩
theorem Below.put {w w1 : World} {g j : Nat} {v : Value} (h : Below w.heap.size w w1) (hg : w.heap.size ≤ g) : Below w.heap.size w (w1.setCell ⟨g, j, none⟩ v) :=
  h.grown (grownBy_setCell w1 g j v) h.size (by rintro k ⟨⟩; exact hg)
theorem Ow.far {α : Type} {f : α → List Value} {s : Nat} {e : TypeId} {w : World} {B n c g g2 j : Nat} {l : List α} {v : Value} (h : Ow f s e w B (.slice (some ⟨g, 0, none⟩) n c) l) (hg : g ≠ g2) : Ow f s e (w.setCell ⟨g2, j, none⟩ v) B (.slice (some ⟨g, 0, none⟩) n c) l :=
  h.kept (grownBy_setCell w g2 j v) (.inr (by simpa [Value.ownBlock] using hg))
theorem Ow.put3 {α : Type} {f : α → List Value} {e : TypeId} {w : World} {B n c g : Nat} {l : List α} {J : List Value} {a0 a1 a2 : Value} {L : List α} (hf : ∀ x ∈ l, (f x).length = 3) (hb : Bk w g (l.flatMap f ++ J) e) (hl : (l.flatMap f ++ J).length = c * 3) (hB : B ≤ g) (hn : n = l.length) (hc : n ≤ c) (hcm : c ≤ maxLen)
    {k : Nat} (hk : k < l.length) (x : α) (hx : f x = [a0, a1, a2]) (hL : L = l.set k x) : Ow f 3 e (((w.setCell ⟨g, k * 3, none⟩ a0).setCell ⟨g, k * 3 + 1, none⟩ a1).setCell ⟨g, k * 3 + 2, none⟩ a2) B (.slice (some ⟨g, 0, none⟩) n c) L := by
  subst hL
  have h := Ow.put hf hb rfl hl hB hn hc hcm hk x (by rw [hx]; rfl)
  rw [hx] at h
  exact h
end Go.Proofs.YtfoglgeiipafeaaDoor

/- wire.put: bytes of a number, the highest first, behind a row of one's own. -/
namespace Go.Proofs.YtfoglgeiipafeaaDoor
open Go.RowKit Go.ChangeShapes Go.WideShapes Go.ChangeAt
theorem cByte_ones : ∀ x : UInt8, ∀ u ∈ cByte x, u.oneCell' = true := by
  intro x u hu
  simp [cByte] at hu
  subst hu
  rfl
def be : Nat → Nat → List UInt8
  | 0, _ => []
  | n + 1, x => UInt8.ofNat (x / 256 ^ n) :: be n x
theorem be_length : ∀ n x, (be n x).length = n
  | 0, _ => rfl
  | n + 1, x => by simp [be, be_length n x]
end Go.Proofs.YtfoglgeiipafeaaDoor

/- Contracts of package zxid (numbers alone), and of the laws' 'numbers'. -/
namespace Go.Proofs.YtfoglgeiipafeaaDoor
open Go.RowKit

theorem ret_int {k : IntKind} {a b : Int} (h : a = b) : Ending.returned (.int k a) = Ending.returned (.int k b) := by rw [h]
theorem ret_bool {a b : Bool} (h : a = b) : Ending.returned (.bool a) = Ending.returned (.bool b) := by rw [h]
theorem ret_ii {k k' : IntKind} {a b c d : Int} (h : a = b) (h' : c = d) : Ending.returned (.tuple #[.int k a, .int k' c]) = Ending.returned (.tuple #[.int k b, .int k' d]) := by rw [h, h']

theorem bv_nat (a : Nat) (ha : a < 9223372036854775808) : (BitVec.ofInt 64 (a : Int)).toNat = a := by
  rw [BitVec.ofInt_natCast, BitVec.toNat_ofNat]
  exact Nat.mod_eq_of_lt (by omega)
theorem bits_mask (a : Int) (h0 : 0 ≤ a) (h1 : a < 4611686018427387904) : bits .and .i64 a 2147483647 = a % 2147483648 := by
  obtain ⟨n, rfl⟩ := Int.eq_ofNat_of_zero_le h0
  have hx : n &&& 2147483647 = n % 2147483648 := Nat.and_two_pow_sub_one_eq_mod n 31
  show IntKind.i64.wrap ((BitVec.ofInt 64 (n : Int) &&& BitVec.ofInt 64 ((2147483647 : Nat) : Int)).toNat : Int) = _
  rw [BitVec.toNat_and, bv_nat n (by omega), bv_nat 2147483647 (by omega), hx, IntKind.wrap_i64]
  omega
theorem bits_join (a b : Int) (h0 : 0 ≤ a) (h1 : a ≤ 2147483647) (h2 : 0 ≤ b) (h3 : b ≤ 2147483647) : bits .or .i64 (a * 2147483648) b = a * 2147483648 + b := by
  obtain ⟨n, rfl⟩ := Int.eq_ofNat_of_zero_le h0
  obtain ⟨m, rfl⟩ := Int.eq_ofNat_of_zero_le h2
  have hx : n * 2147483648 ||| m = n * 2147483648 + m := by
    have := Nat.shiftLeft_add_eq_or_of_lt (b := m) (i := 31) (by omega) n
    rw [Nat.shiftLeft_eq] at this
    exact this.symm
  show IntKind.i64.wrap ((BitVec.ofInt 64 (((n * 2147483648 : Nat) : Int)) ||| BitVec.ofInt 64 (m : Int)).toNat : Int) = _
  rw [BitVec.toNat_or, bv_nat _ (by omega), bv_nat m (by omega), hx, IntKind.wrap_i64]
  omega

/-- a zxid -/
def Zx (a : Int) : Prop := 0 ≤ a ∧ a < 4611686018427387904
/-- an epoch, a count -/
def Half (a : Int) : Prop := 0 ≤ a ∧ a ≤ 2147483647

theorem zgood_yes (a : Int) (w : World) (h : Zx a) :
    Calls Tryd.prog 19 #[.int .i64 a] w fun e w' => e = .returned (.bool true) ∧ w = w' := by
  obtain ⟨ha, ha'⟩ := h
  go_enter Tryd.func19, Tryd.ntmps19
  go_wp2
  go_ret
  exact ⟨rfl, rfl⟩
theorem zgood_no (a : Int) (w : World) (h : ¬ Zx a) :
    Calls Tryd.prog 19 #[.int .i64 a] w fun e w' => e = .returned (.bool false) ∧ w = w' := by
  have ha : a < 0 ∨ (0 ≤ a ∧ ¬ a < 4611686018427387904) := by unfold Zx at h; omega
  clear h
  rcases ha with ha | ⟨h0, ha⟩
  · go_enter Tryd.func19, Tryd.ntmps19
    go_wp2
    go_ret
    exact ⟨rfl, rfl⟩
  · go_enter Tryd.func19, Tryd.ntmps19
    go_wp2
    go_ret
    exact ⟨ret_bool (by simp), rfl⟩
end Go.Proofs.YtfoglgeiipafeaaDoor

/- zxid.small: a number of at most ten digits, without noughts ahead. -/
namespace Go.Proofs.YtfoglgeiipafeaaDoor
open Go.RowKit
def digit (c : UInt8) : Bool := decide (48 ≤ c.toNat ∧ c.toNat ≤ 57)
def valD (l : List UInt8) : Nat := l.foldl (fun n c => n * 10 + (c.toNat - 48)) 0
def smallOk (l : List UInt8) : Bool := decide (l ≠ []) && (decide (l.length ≤ 10) && (!(decide (1 < l.length) && decide (l[0]? = some 48)) && l.all digit))
def smallV (l : List UInt8) : Int := if smallOk l then (valD l : Nat) else 0
theorem valD_snoc (l : List UInt8) (c : UInt8) : valD (l ++ [c]) = valD l * 10 + (c.toNat - 48) := by unfold valD; rw [List.foldl_append]; rfl
theorem valD_lt (l : List UInt8) (h : l.all digit = true) : ∀ k, k ≤ l.length → valD (l.take k) < 10 ^ k
  | 0, _ => by simp [valD]
  | k + 1, hk => by
    have ih := valD_lt l h k (by omega)
    have hx := List.getElem?_eq_getElem (l := l) (i := k) (by omega)
    have h2 : digit l[k] = true := List.all_eq_true.1 h _ (List.getElem_mem (by omega))
    unfold digit at h2
    rw [decide_eq_true_iff] at h2
    rw [List.take_add_one, hx, Option.toList_some, valD_snoc, Nat.pow_succ]
    omega
theorem valD_lt' (l : List UInt8) : ∀ k, (l.take k).all digit = true → k ≤ l.length → valD (l.take k) < 10 ^ k := by
  intro k h hk
  have := valD_lt (l.take k) h k (by rw [List.length_take]; omega)
  rwa [List.take_take, Nat.min_self] at this
theorem bs_inj0 {s : ByteArray} (h : bs s = []) : s = ⟨#[]⟩ := ByteArray.ext (Array.toList_inj.mp h)
theorem bytes_row (s : ByteArray) (cap : Nat) : bytesRow s cap = ((bs s).map (fun c : UInt8 => Value.int .u8 (c.toNat : Int)) ++ List.replicate (cap - s.size) (Value.int .u8 0)).toArray := by
  apply Array.ext'
  simp only [bytesRow, Array.toList_append, Array.toList_map, Array.toList_replicate]
  rfl
theorem row_cell (w : World) (s : ByteArray) (cap e : Nat) (f : Nat × Nat) (j : Nat) (c : UInt8) (h : (bs s)[j]? = some c) : ((w.drew).alloc (.cells (bytesRow s cap) e f)).cell? ⟨w.heap.size, j, none⟩ = some (.int .u8 (c.toNat : Int)) := by
  have h1 : ((w.drew).alloc (.cells (bytesRow s cap) e f)).heap[w.heap.size]? = some (.cells (bytesRow s cap) e f) := heap_alloc_new w.drew _
  unfold World.cell?
  simp only [h1]
  rw [bytes_row]
  have hj : j < (bs s).length := (List.getElem?_eq_some_iff.1 h).1
  simp only [List.getElem?_toArray]
  rw [List.getElem?_append_left (by simpa using hj), List.getElem?_map, h]
  rfl
end Go.Proofs.YtfoglgeiipafeaaDoor

/- wire's cursor: text, number. -/
namespace Go.Proofs.YtfoglgeiipafeaaDoor
open Go.RowKit Go.ChangeShapes Go.WideShapes Go.ChangeAt
/-- a cursor in the block g -/
def Cur (w : World) (g : Nat) (s : ByteArray) (bad : Bool) : Prop := w.cell? ⟨g, 0, none⟩ = some (.string s) ∧ w.cell? ⟨g, 1, none⟩ = some (.bool bad) ∧ w.frozen? ⟨g, 0, none⟩ = false ∧ w.frozen? ⟨g, 1, none⟩ = false
def badT (s : ByteArray) (bad : Bool) (n : Nat) : Bool := bad || decide (s.size < n)
def takeT (s : ByteArray) (bad : Bool) (n : Nat) : ByteArray := if badT s bad n then ⟨#[]⟩ else s.extract 0 n
def restT (s : ByteArray) (bad : Bool) (n : Nat) : ByteArray := if badT s bad n then s else s.extract n s.size
theorem cur_set0 {w : World} {g : Nat} {s : ByteArray} {bad : Bool} (h : Cur w g s bad) (t : ByteArray) : Cur (w.setCell ⟨g, 0, none⟩ (.string t)) g t bad := by
  obtain ⟨h1, h2, h3, h4⟩ := h
  exact ⟨World.cell?_setCell_same' _ _ _ (by rw [h1]; rfl), (World.cell?_setCell_other _ _ _ _ (fun e => by injection e with _ e; exact absurd e (by decide))).trans h2, (World.frozen?_setCell ..).trans h3, (World.frozen?_setCell ..).trans h4⟩
theorem cur_set1 {w : World} {g : Nat} {s : ByteArray} {bad : Bool} (h : Cur w g s bad) (b : Bool) : Cur (w.setCell ⟨g, 1, none⟩ (.bool b)) g s b := by
  obtain ⟨h1, h2, h3, h4⟩ := h
  exact ⟨(World.cell?_setCell_other _ _ _ _ (fun e => by injection e with _ e; exact absurd e (by decide))).trans h1, World.cell?_setCell_same' _ _ _ (by rw [h2]; rfl), (World.frozen?_setCell ..).trans h3, (World.frozen?_setCell ..).trans h4⟩
end Go.Proofs.YtfoglgeiipafeaaDoor

/- wire's cursor: number. -/
namespace Go.Proofs.YtfoglgeiipafeaaDoor
open Go.RowKit Go.ChangeShapes Go.WideShapes Go.ChangeAt
def valI (l : List UInt8) : Int := l.foldl (fun v c => wrap64 (v * 256 + (c.toNat : Int))) 0
theorem valI_snoc (l : List UInt8) (c : UInt8) : valI (l ++ [c]) = wrap64 (valI l * 256 + (c.toNat : Int)) := by unfold valI; rw [List.foldl_append]; rfl
theorem ofInt64_toNat (a : Int) : (BitVec.ofInt 64 a).toNat = (a % 18446744073709551616).toNat := by
  simp [BitVec.ofInt, Int.emod_def]
theorem bits_or8 (n : Int) (c : Nat) (hc : c < 256) : bits .or .i64 (wrap64 (n * 256)) (c : Int) = wrap64 (n * 256 + (c : Int)) := by
  have h1 : (BitVec.ofInt 64 (wrap64 (n * 256))).toNat = ((n % 72057594037927936).toNat) * 256 := by
    rw [ofInt64_toNat]; unfold wrap64; omega
  have h2 : (BitVec.ofInt 64 (c : Int)).toNat = c := by rw [ofInt64_toNat]; omega
  show IntKind.i64.wrap ((BitVec.ofInt 64 (wrap64 (n * 256)) ||| BitVec.ofInt 64 (c : Int)).toNat : Int) = _
  rw [BitVec.toNat_or, h1, h2]
  have h3 : (n % 72057594037927936).toNat * 256 ||| c = (n % 72057594037927936).toNat * 256 + c := by
    have := Nat.two_pow_add_eq_or_of_lt (i := 8) (b := c) (by omega) ((n % 72057594037927936).toNat)
    rw [Nat.mul_comm] at this
    exact this.symm
  rw [h3]
  unfold IntKind.wrap wrap64
  simp [IntKind.signed, IntKind.bits]
  omega
theorem takeT_size (s : ByteArray) (bad : Bool) (n : Nat) : (takeT s bad n).size ≤ s.size := by
  unfold takeT
  split
  · exact Nat.zero_le _
  · rw [ByteArray.size_extract]; omega
theorem cur_below {w w' : World} {g : Nat} {s : ByteArray} {bad : Bool} (h : Cur w g s bad) (hb : Below w.heap.size w w') : Cur w' g s bad := by
  obtain ⟨h1, h2, h3, h4⟩ := h
  have hg : g < w.heap.size := World.block_lt_of_cell? w _ h1
  exact ⟨(hb.cell (p := ⟨g, 0, none⟩) hg).trans h1, (hb.cell (p := ⟨g, 1, none⟩) hg).trans h2, (World.frozen?_of_block (a := ⟨g, 0, none⟩) (hb.block g hg)).trans h3, (World.frozen?_of_block (a := ⟨g, 1, none⟩) (hb.block g hg)).trans h4⟩
theorem below_grownBy {w w' : World} (hb : Below w.heap.size w w') (g : Nat) : w.grownBy w' (some g) := ⟨hb.os, hb.tape, hb.output, hb.size, fun k hk _ => hb.block k hk⟩
end Go.Proofs.YtfoglgeiipafeaaDoor

/- package snap: the reader's text, number. -/
namespace Go.Proofs.YtfoglgeiipafeaaDoor
open Go.RowKit Go.ChangeShapes Go.WideShapes Go.ChangeAt
/-- a reader in the block g -/
def Rdr (w : World) (g : Nat) (s : ByteArray) (bad : Bool) : Prop := Bk w g [.string s, .bool bad] 60
theorem Rdr.cur {w : World} {g : Nat} {s : ByteArray} {bad : Bool} (h : Rdr w g s bad) : Cur w g s bad := ⟨Bk.cell h 0, Bk.cell h 1, Bk.frozen h 0, Bk.frozen h 1⟩
theorem Rdr.set0 {w : World} {g : Nat} {s : ByteArray} {bad : Bool} (h : Rdr w g s bad) (t : ByteArray) : Rdr (w.setCell ⟨g, 0, none⟩ (.string t)) g t bad := Bk.put h 0 _
theorem Rdr.set1 {w : World} {g : Nat} {s : ByteArray} {bad : Bool} (h : Rdr w g s bad) (b : Bool) : Rdr (w.setCell ⟨g, 1, none⟩ (.bool b)) g s b := Bk.put h 1 _
theorem Rdr.below {w w' : World} {g : Nat} {s : ByteArray} {bad : Bool} (h : Rdr w g s bad) (hb : Below w.heap.size w w') : Rdr w' g s bad := Bk.below h hb
set_option maxHeartbeats 1000000 in
theorem stext_any (g : Nat) (s : ByteArray) (bad : Bool) (n : Nat) (w : World) (h : Rdr w g s bad) (hn : n < 4611686018427387904) (_hs : s.size ≤ 4611686018427387904) :
    Calls Tryd.prog 25 #[.pointer (some ⟨g, 0, none⟩), .int .i64 n] w fun e w' => e = .returned (.string (takeT s bad n)) ∧ Rdr w' g (restT s bad n) (badT s bad n) ∧ w.grownBy w' (some g) := by
  have HC := Lib.hid h
  obtain ⟨h1, h2, h3, h4⟩ := h.cur
  clear h
  unfold takeT restT
  cases bad with
  | true =>
    have hb : badT s true n = true := rfl
    rw [hb]
    simp only [if_true]
    go_enter Tryd.func25, Tryd.ntmps25
    go_wp2_with fail
    go_ret
    exact ⟨rfl, HC.out.set1 true, grownBy_setCell _ _ _ _⟩
  | false =>
    by_cases hlt : s.size < n
    · have hb : badT s false n = true := by unfold badT; rw [decide_eq_true hlt]; rfl
      rw [hb]
      simp only [if_true]
      have hi : (decide ((s.size : Int) < (n : Int))) = true := decide_eq_true (by omega)
      clear hb
      go_enter Tryd.func25, Tryd.ntmps25
      go_wp2_with fail
      go_ret
      exact ⟨rfl, HC.out.set1 true, grownBy_setCell _ _ _ _⟩
    · have hb : badT s false n = false := by unfold badT; rw [decide_eq_false hlt]; rfl
      rw [hb]
      simp only [Bool.false_eq_true, if_false]
      have hi : (decide ((s.size : Int) < (n : Int))) = false := decide_eq_false (by omega)
      clear hb
      go_enter Tryd.func25, Tryd.ntmps25
      go_wp2_with fail
      go_ret
      exact ⟨rfl, HC.out.set0 _, grownBy_setCell _ _ _ _⟩
set_option maxHeartbeats 1000000 in
theorem snum_any (g : Nat) (s : ByteArray) (bad : Bool) (n : Nat) (w : World) (h : Rdr w g s bad) (hn : n < 4611686018427387904) (hs : s.size ≤ 4611686018427387904) :
    Calls Tryd.prog 24 #[.pointer (some ⟨g, 0, none⟩), .int .i64 n] w fun e w' => e = .returned (.int .i64 (valI (bs (takeT s bad n)))) ∧ Rdr w' g (restT s bad n) (badT s bad n) ∧ w.grownBy w' (some g) := by
  have hconv := fun (w : World) (s : ByteArray) => run_bytes_of_string (P := Tryd.prog) w 9 40 5 s Tryd.underlying9 Tryd.underlying40 Tryd.underlying5
  have HT := Lib.hid (stext_any g s bad n w h hn hs)
  have hz := takeT_size s bad n
  generalize takeT s bad n = t at *
  generalize restT s bad n = r at *
  generalize badT s bad n = b' at *
  clear h
  go_enter Tryd.func24, Tryd.ntmps24
  go_wp2_with (go_at_call 25; refine (HT.out).mono ?_; rintro e w1 ⟨rfl, hc1, hg1⟩; have HC1 := Lib.hid hc1; have HG1 := Lib.hid hg1; clear hc1 hg1 HT)
  have HC2 := Lib.hid (fun (j : Nat) (c : UInt8) (h : (bs t)[j]? = some c) => show ((w1.alloc (.cells (bytesRow t (grownCap w1 t.size 0 5)) 5 ((bytesRow t (grownCap w1 t.size 0 5)).size, (bytesRow t (grownCap w1 t.size 0 5)).size + 1))).drew).cell? ⟨w1.heap.size, j, none⟩ = some (.int .u8 (c.toNat : Int)) from row_cell w1 t _ _ _ j c h)
  have hB1 : Below w1.heap.size w1 ((w1.alloc (.cells (bytesRow t (grownCap w1 t.size 0 5)) 5 ((bytesRow t (grownCap w1 t.size 0 5)).size, (bytesRow t (grownCap w1 t.size 0 5)).size + 1))).drew) := (by repeat (first | exact Below.refl _ _ | assumption | refine Below.drew ?_ | refine Below.drewN' ?_ _ | refine below_grow0 _ _ ?_ | refine below_alloc0 _ ?_ | refine Below.alloc ?_ (by first | omega | (simp; done) | (simp; omega)) _ | refine Below.setCell ?_ (by first | omega | (simp; done) | (simp; omega)) _ | refine Below.grow _ _ _ ?_ (by first | omega | (simp; done) | (simp; omega))))
  have HCU := Lib.hid (HC1.out.below hB1)
  have HGR := Lib.hid (HG1.out.trans (below_grownBy hB1 g))
  clear HC1 HG1 hB1
  generalize ((w1.alloc (.cells (bytesRow t (grownCap w1 t.size 0 5)) 5 ((bytesRow t (grownCap w1 t.size 0 5)).size, (bytesRow t (grownCap w1 t.size 0 5)).size + 1))).drew) = W1 at *
  generalize grownCap w1 t.size 0 5 = cap at *
  go_loopw [5, 13] (fun v i wr => ∃ k : Nat, k ≤ t.size ∧ v = .int .i64 (valI ((bs t).take k)) ∧ i = .int .i64 k ∧ wr = W1) (fun _ i _ => t.size - (intOf i).toNat)
  case atStart => exact ⟨0, Nat.zero_le _, rfl, rfl, rfl⟩
  case round =>
    obtain ⟨k, hk, rfl, rfl, rfl⟩ := hrel
    have hlen := length_bs t
    by_cases hlt : k < t.size
    · have hx : (bs t)[k]? = some ((bs t)[k]'(by omega)) := List.getElem?_eq_getElem _
      have hc := HC2.out k _ hx
      have htk : (bs t).take (k + 1) = (bs t).take k ++ [(bs t)[k]'(by omega)] := by rw [List.take_add_one, hx]; rfl
      generalize (bs t)[k]'(by omega) = c at *
      have hc255 : c.toNat < 256 := c.toNat_lt
      have HV := Lib.hid (show valI ((bs t).take (k + 1)) = wrap64 (valI ((bs t).take k) * 256 + (c.toNat : Int)) by rw [htk, valI_snoc])
      generalize valI ((bs t).take k) = n0 at *
      clear htk hx
      go_wp2_with fail
      exact ⟨⟨k + 1, by omega, by rw [HV.out, bits_or8 n0 c.toNat hc255], by go_num, trivial⟩, by simp [intOf]; omega⟩
    · have hk' : k = t.size := by omega
      subst hk'
      rw [List.take_of_length_le (by omega)]
      go_wp2_with fail
      go_ret
      exact ⟨rfl, HCU.out, HGR.out⟩
end Go.Proofs.YtfoglgeiipafeaaDoor

/- The search by halves, as a function on places; the comparing of bytes. -/
namespace Go.Proofs.YtfoglgeiipafeaaDoor
open Go.RowKit
def bsF (lt : Nat → Bool) : Nat → Nat → Nat → Nat
  | 0, i, _ => i
  | f + 1, i, j => if i < j then (if lt ((i + j) / 2) then bsF lt f ((i + j) / 2 + 1) j else bsF lt f i ((i + j) / 2)) else i
theorem bsF_fuel (lt : Nat → Bool) : ∀ (f g i j : Nat), j - i ≤ f → j - i ≤ g → bsF lt f i j = bsF lt g i j
  | 0, 0, i, j, _, _ => rfl
  | 0, g + 1, i, j, h, _ => by
    have : ¬ i < j := by omega
    simp [bsF, this]
  | f + 1, 0, i, j, _, h => by
    have : ¬ i < j := by omega
    simp [bsF, this]
  | f + 1, g + 1, i, j, h, h' => by
    simp only [bsF]
    split
    · split
      · exact bsF_fuel lt f g _ _ (by omega) (by omega)
      · exact bsF_fuel lt f g _ _ (by omega) (by omega)
    · rfl
/-- where the search ends that begins with i and j -/
def bsr (lt : Nat → Bool) (i j : Nat) : Nat := bsF lt (j - i) i j
theorem bsr_end (lt : Nat → Bool) (i j : Nat) (h : ¬ i < j) : bsr lt i j = i := by
  unfold bsr
  rw [show j - i = 0 from by omega]
  rfl
theorem bsr_up (lt : Nat → Bool) (i j : Nat) (h : i < j) (hl : lt ((i + j) / 2) = true) : bsr lt i j = bsr lt ((i + j) / 2 + 1) j := by
  unfold bsr
  obtain ⟨f, hf⟩ : ∃ f, j - i = f + 1 := ⟨j - i - 1, by omega⟩
  rw [hf]
  simp only [bsF, h, hl, if_true]
  exact bsF_fuel lt _ _ _ _ (by omega) (by omega)
theorem bsr_down (lt : Nat → Bool) (i j : Nat) (h : i < j) (hl : lt ((i + j) / 2) = false) : bsr lt i j = bsr lt i ((i + j) / 2) := by
  unfold bsr
  obtain ⟨f, hf⟩ : ∃ f, j - i = f + 1 := ⟨j - i - 1, by omega⟩
  rw [hf]
  simp only [bsF, h, hl, if_true, Bool.false_eq_true, if_false]
  exact bsF_fuel lt _ _ _ _ (by omega) (by omega)
theorem bsr_range (lt : Nat → Bool) : ∀ (f i j : Nat), j - i ≤ f → i ≤ j → i ≤ bsr lt i j ∧ bsr lt i j ≤ j
  | 0, i, j, h, hij => by rw [bsr_end lt i j (by omega)]; omega
  | f + 1, i, j, h, hij => by
    by_cases hlt : i < j
    · cases hl : lt ((i + j) / 2)
      · rw [bsr_down lt i j hlt hl]
        have := bsr_range lt f i ((i + j) / 2) (by omega) (by omega)
        omega
      · rw [bsr_up lt i j hlt hl]
        have := bsr_range lt f ((i + j) / 2 + 1) j (by omega) (by omega)
        omega
    · rw [bsr_end lt i j hlt]; omega
theorem bsr_le (lt : Nat → Bool) (n : Nat) : bsr lt 0 n ≤ n := (bsr_range lt n 0 n (by omega) (by omega)).2
/-- where what is less stands first, the search finds the border -/
theorem bsr_sorted (lt : Nat → Bool) (m : Nat) : ∀ (f i j : Nat), j - i ≤ f → i ≤ m → m ≤ j → (∀ k, k < m → lt k = true) → (∀ k, m ≤ k → k < j → lt k = false) → bsr lt i j = m
  | 0, i, j, h, h1, h2, _, _ => by rw [bsr_end lt i j (by omega)]; omega
  | f + 1, i, j, h, h1, h2, hl, hg => by
    by_cases hlt : i < j
    · cases hx : lt ((i + j) / 2)
      · rw [bsr_down lt i j hlt hx]
        have : m ≤ (i + j) / 2 := by
          rcases Nat.lt_or_ge ((i + j) / 2) m with h3 | h3
          · rw [hl _ h3] at hx; cases hx
          · exact h3
        exact bsr_sorted lt m f i _ (by omega) h1 this hl (fun k hk hk' => hg k hk (by omega))
      · rw [bsr_up lt i j hlt hx]
        have : (i + j) / 2 + 1 ≤ m := by
          rcases Nat.lt_or_ge ((i + j) / 2) m with h3 | h3
          · omega
          · rw [hg _ h3 (by omega)] at hx; cases hx
        exact bsr_sorted lt m f _ j (by omega) this h2 hl hg
    · rw [bsr_end lt i j hlt]; omega
end Go.Proofs.YtfoglgeiipafeaaDoor

namespace Go.Proofs.YtfoglgeiipafeaaDoor
open Go.RowKit
def bs3 (s : ByteArray) : List UInt8 := s.data.toList
def cmpB (a b : ByteArray) : Int := Lib.compareBytes a.data.toList b.data.toList
/-- is the k-th of these texts less? -/
def ltK (ks : List ByteArray) (p : ByteArray) (k : Nat) : Bool := decide (cmpB (ks.getD k ByteArray.empty) p < 0)
def posK (ks : List ByteArray) (p : ByteArray) : Nat := bsr (ltK ks p) 0 ks.length
def isK (ks : List ByteArray) (p : ByteArray) : Bool := decide (posK ks p < ks.length) && decide (cmpB (ks.getD (posK ks p) ByteArray.empty) p = 0)

theorem ltK_of {α : Type} {g : α → ByteArray} {l : List α} {k : Nat} {x : α} (h : l[k]? = some x) (p : ByteArray) : ltK (l.map g) p k = decide (cmpB (g x) p < 0) := by
  unfold ltK
  rw [List.getD_eq_getElem?_getD, List.getElem?_map, h]
  rfl
theorem isK_in {α : Type} {g : α → ByteArray} {l : List α} {p : ByteArray} {k : Nat} {x : α} (hp : posK (l.map g) p = k) (h : l[k]? = some x) : isK (l.map g) p = (cmpB (g x) p == 0) := by
  have hk : k < l.length := (List.getElem?_eq_some_iff.1 h).1
  unfold isK
  rw [hp, List.getD_eq_getElem?_getD, List.getElem?_map, h]
  simp [hk]
  rfl
theorem isK_out {α : Type} {g : α → ByteArray} {l : List α} {p : ByteArray} {k : Nat} (hp : posK (l.map g) p = k) (h : ¬ k < l.length) : isK (l.map g) p = false := by
  unfold isK
  rw [hp]
  simp
  omega
end Go.Proofs.YtfoglgeiipafeaaDoor

namespace Go.Proofs.YtfoglgeiipafeaaDoor
open Go.RowKit
end Go.Proofs.YtfoglgeiipafeaaDoor

/- slices.Clone at the program's element types: a new slice of the call's own, with the same elements. -/
namespace Go.Proofs.YtfoglgeiipafeaaDoor
open Go.RowKit
end Go.Proofs.YtfoglgeiipafeaaDoor

/- Contracts of package client: New, copied, See, and the laws' 'starts'. -/
namespace Go.Proofs.YtfoglgeiipafeaaDoor
open Go.RowKit
/-- an end and an error's number -/
def ClIs2 (s n : Int) (l : List Entry) (c : Int) (w : World) (e : Ending) (w' : World) : Prop := ∃ A k, e = .returned (.tuple #[.agg #[.int .i64 s, .int .i64 n, .slice A l.length k], .int .i64 c]) ∧ Sl cEntry 3 w' (.slice A l.length k) l ∧ Below w.heap.size w w'
/- See: an end behind an answer that is not older -/
end Go.Proofs.YtfoglgeiipafeaaDoor

/- Contracts of package client: find, Look, Keep. -/
namespace Go.Proofs.YtfoglgeiipafeaaDoor
open Go.RowKit
def noEntry : Entry := ⟨ByteArray.empty, ByteArray.empty, false⟩
def lookE (l : List Entry) (p : ByteArray) : Entry := if isK (l.map Entry.path) p then l.getD (posK (l.map Entry.path) p) noEntry else noEntry
def stripE (e : Entry) : Entry := if e.there_ then e else { e with data := ByteArray.empty }
def keepL (l : List Entry) (e : Entry) : List Entry := if isK (l.map Entry.path) e.path then l.set (posK (l.map Entry.path) e.path) (stripE e) else l.take (posK (l.map Entry.path) e.path) ++ stripE e :: l.drop (posK (l.map Entry.path) e.path)
theorem isK_lt {l : List Entry} {p : ByteArray} (h : isK (l.map Entry.path) p = true) : posK (l.map Entry.path) p < l.length := by
  unfold isK at h
  simp at h
  exact h.1
end Go.Proofs.YtfoglgeiipafeaaDoor

/- client.Keep at an entry whose path is in the cache. -/
namespace Go.Proofs.YtfoglgeiipafeaaDoor
open Go.RowKit
end Go.Proofs.YtfoglgeiipafeaaDoor

/- The laws' 'caching': an end with entries. -/
namespace Go.Proofs.YtfoglgeiipafeaaDoor
open Go.RowKit
def cacheK (l : List Entry) (k : Nat) : List Entry := (l.take k).foldl keepL []
theorem keepL_length (l : List Entry) (x : Entry) : (keepL l x).length ≤ l.length + 1 := by
  unfold keepL
  split
  · simp
  · simp; omega
theorem cacheK_succ {l : List Entry} {k : Nat} {x : Entry} (h : l[k]? = some x) : cacheK l (k + 1) = keepL (cacheK l k) x := by
  unfold cacheK
  rw [List.take_add_one, h]
  simp
theorem cacheK_length (l : List Entry) (k : Nat) : (cacheK l k).length ≤ k := by
  induction k with
  | zero => simp [cacheK]
  | succ k ih =>
    cases h : l[k]? with
    | none =>
      have : cacheK l (k + 1) = cacheK l k := by unfold cacheK; rw [List.take_add_one, h]; simp
      rw [this]; omega
    | some x => rw [cacheK_succ h]; have := keepL_length (cacheK l k) x; omega
def cacheL (l : List Entry) : List Entry := cacheK l (Nat.min l.length 60)
end Go.Proofs.YtfoglgeiipafeaaDoor
