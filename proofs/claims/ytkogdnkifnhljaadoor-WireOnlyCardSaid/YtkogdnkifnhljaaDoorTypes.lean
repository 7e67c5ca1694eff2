/- The program's flat structs as structures of Lean, the cells in which they lie, and what is known of slices of them. -/
import Derived.Test.YtkogdnkifnhljaaDoorBase
namespace Go.Proofs.YtkogdnkifnhljaaDoor
open Go.RowKit
theorem cInt_one : ∀ x : Int, ∀ u ∈ cInt x, u.oneCell' = true := by intro x u hu; simp [cInt] at hu; subst hu; rfl
def cStr (z : ByteArray) : List Value := [.string z]
theorem cStr_one : ∀ x : ByteArray, ∀ u ∈ cStr x, u.oneCell' = true := by intro x u hu; simp [cStr] at hu; subst hu; rfl
def cByte (z : UInt8) : List Value := [.int .u8 z.toNat]
theorem elByte : El Tryd.prog 67 5 (.int .u8 0) 1 1 := ⟨Tryd.underlying67, by kernel_rfl, rfl, by decide⟩

structure Watch where
  session : Int
  kind : Int
  path : ByteArray
def cWatch (x : Watch) : List Value := [.int .i64 x.session, .int .i64 x.kind, .string x.path]
def Watch.ok (x : Watch) : Prop := I64 x.session ∧ I64 x.kind ∧ x.path.size ≤ maxLen
theorem cWatch_one : ∀ x : Watch, ∀ u ∈ cWatch x, u.oneCell' = true := by
  intro x u hu
  simp [cWatch] at hu
  rcases hu with rfl | rfl | rfl <;> rfl
theorem fitsWatch {x : List Value} (h : Fits [.i .i64, .i .i64, .s] x) : ∃ t : Watch, x = cWatch t ∧ t.ok := by
  have r0 := h
  obtain ⟨z0, u0, rfl, o0, r1⟩ := fits_i r0
  obtain ⟨z1, u1, rfl, o1, r2⟩ := fits_i r1
  obtain ⟨z2, u2, rfl, o2, r3⟩ := fits_s r2
  obtain rfl := r3.nil
  exact ⟨⟨z0, z1, z2⟩, rfl, o0, o1, o2⟩
theorem Sl.Watch_at {w : World} {A : Option Addr} {n c : Nat} {l : List Watch} (h : Sl cWatch 3 w (.slice A n c) l) {i : Nat} {x : Watch} (hx : l[i]? = some x) : ∃ b off, A = some ⟨b, off, none⟩ ∧ b < w.heap.size ∧ w.cell? ⟨b, off + i * 3, none⟩ = some (.int .i64 x.session) ∧ w.cell? ⟨b, off + i * 3 + 1, none⟩ = some (.int .i64 x.kind) ∧ w.cell? ⟨b, off + i * 3 + 2, none⟩ = some (.string x.path) := by
  obtain ⟨b, off, rfl, hb, hc⟩ := h.at_ hx
  exact ⟨b, off, rfl, hb, hc 0 _ rfl, hc 1 _ rfl, hc 2 _ rfl⟩
theorem elWatch : El Tryd.prog 33 35 (.agg #[.int .i64 0, .int .i64 0, .string ByteArray.empty]) 3 32 := ⟨Tryd.underlying33, by kernel_rfl, rfl, by decide⟩

structure Event where
  kind : Int
  path : ByteArray
def cEvent (x : Event) : List Value := [.int .i64 x.kind, .string x.path]
def Event.ok (x : Event) : Prop := I64 x.kind ∧ x.path.size ≤ maxLen
theorem cEvent_one : ∀ x : Event, ∀ u ∈ cEvent x, u.oneCell' = true := by
  intro x u hu
  simp [cEvent] at hu
  rcases hu with rfl | rfl <;> rfl
theorem fitsEvent {x : List Value} (h : Fits [.i .i64, .s] x) : ∃ t : Event, x = cEvent t ∧ t.ok := by
  have r0 := h
  obtain ⟨z0, u0, rfl, o0, r1⟩ := fits_i r0
  obtain ⟨z1, u1, rfl, o1, r2⟩ := fits_s r1
  obtain rfl := r2.nil
  exact ⟨⟨z0, z1⟩, rfl, o0, o1⟩
theorem Sl.Event_at {w : World} {A : Option Addr} {n c : Nat} {l : List Event} (h : Sl cEvent 2 w (.slice A n c) l) {i : Nat} {x : Event} (hx : l[i]? = some x) : ∃ b off, A = some ⟨b, off, none⟩ ∧ b < w.heap.size ∧ w.cell? ⟨b, off + i * 2, none⟩ = some (.int .i64 x.kind) ∧ w.cell? ⟨b, off + i * 2 + 1, none⟩ = some (.string x.path) := by
  obtain ⟨b, off, rfl, hb, hc⟩ := h.at_ hx
  exact ⟨b, off, rfl, hb, hc 0 _ rfl, hc 1 _ rfl⟩
theorem elEvent : El Tryd.prog 66 65 (.agg #[.int .i64 0, .string ByteArray.empty]) 2 24 := ⟨Tryd.underlying66, by kernel_rfl, rfl, by decide⟩

structure Note where
  session : Int
  kind : Int
  path : ByteArray
def cNote (x : Note) : List Value := [.int .i64 x.session, .int .i64 x.kind, .string x.path]
def Note.ok (x : Note) : Prop := I64 x.session ∧ I64 x.kind ∧ x.path.size ≤ maxLen
theorem cNote_one : ∀ x : Note, ∀ u ∈ cNote x, u.oneCell' = true := by
  intro x u hu
  simp [cNote] at hu
  rcases hu with rfl | rfl | rfl <;> rfl
theorem fitsNote {x : List Value} (h : Fits [.i .i64, .i .i64, .s] x) : ∃ t : Note, x = cNote t ∧ t.ok := by
  have r0 := h
  obtain ⟨z0, u0, rfl, o0, r1⟩ := fits_i r0
  obtain ⟨z1, u1, rfl, o1, r2⟩ := fits_i r1
  obtain ⟨z2, u2, rfl, o2, r3⟩ := fits_s r2
  obtain rfl := r3.nil
  exact ⟨⟨z0, z1, z2⟩, rfl, o0, o1, o2⟩
theorem Sl.Note_at {w : World} {A : Option Addr} {n c : Nat} {l : List Note} (h : Sl cNote 3 w (.slice A n c) l) {i : Nat} {x : Note} (hx : l[i]? = some x) : ∃ b off, A = some ⟨b, off, none⟩ ∧ b < w.heap.size ∧ w.cell? ⟨b, off + i * 3, none⟩ = some (.int .i64 x.session) ∧ w.cell? ⟨b, off + i * 3 + 1, none⟩ = some (.int .i64 x.kind) ∧ w.cell? ⟨b, off + i * 3 + 2, none⟩ = some (.string x.path) := by
  obtain ⟨b, off, rfl, hb, hc⟩ := h.at_ hx
  exact ⟨b, off, rfl, hb, hc 0 _ rfl, hc 1 _ rfl, hc 2 _ rfl⟩
theorem elNote : El Tryd.prog 61 85 (.agg #[.int .i64 0, .int .i64 0, .string ByteArray.empty]) 3 32 := ⟨Tryd.underlying61, by kernel_rfl, rfl, by decide⟩

structure Entry where
  path : ByteArray
  data : ByteArray
  there_ : Bool
def cEntry (x : Entry) : List Value := [.string x.path, .string x.data, .bool x.there_]
def Entry.ok (x : Entry) : Prop := x.path.size ≤ maxLen ∧ x.data.size ≤ maxLen
theorem cEntry_one : ∀ x : Entry, ∀ u ∈ cEntry x, u.oneCell' = true := by
  intro x u hu
  simp [cEntry] at hu
  rcases hu with rfl | rfl | rfl <;> rfl
theorem fitsEntry {x : List Value} (h : Fits [.s, .s, .b] x) : ∃ t : Entry, x = cEntry t ∧ t.ok := by
  have r0 := h
  obtain ⟨z0, u0, rfl, o0, r1⟩ := fits_s r0
  obtain ⟨z1, u1, rfl, o1, r2⟩ := fits_s r1
  obtain ⟨z2, u2, rfl, r3⟩ := fits_b r2
  obtain rfl := r3.nil
  exact ⟨⟨z0, z1, z2⟩, rfl, o0, o1⟩
theorem Sl.Entry_at {w : World} {A : Option Addr} {n c : Nat} {l : List Entry} (h : Sl cEntry 3 w (.slice A n c) l) {i : Nat} {x : Entry} (hx : l[i]? = some x) : ∃ b off, A = some ⟨b, off, none⟩ ∧ b < w.heap.size ∧ w.cell? ⟨b, off + i * 3, none⟩ = some (.string x.path) ∧ w.cell? ⟨b, off + i * 3 + 1, none⟩ = some (.string x.data) ∧ w.cell? ⟨b, off + i * 3 + 2, none⟩ = some (.bool x.there_) := by
  obtain ⟨b, off, rfl, hb, hc⟩ := h.at_ hx
  exact ⟨b, off, rfl, hb, hc 0 _ rfl, hc 1 _ rfl, hc 2 _ rfl⟩

structure Txn where
  zxid : Int
  op : Int
  session : Int
  path : ByteArray
  data : ByteArray
  version : Int
  owner : Int
def cTxn (x : Txn) : List Value := [.int .i64 x.zxid, .int .i64 x.op, .int .i64 x.session, .string x.path, .string x.data, .int .i64 x.version, .int .i64 x.owner]
def Txn.ok (x : Txn) : Prop := I64 x.zxid ∧ I64 x.op ∧ I64 x.session ∧ x.path.size ≤ maxLen ∧ x.data.size ≤ maxLen ∧ I64 x.version ∧ I64 x.owner
theorem cTxn_one : ∀ x : Txn, ∀ u ∈ cTxn x, u.oneCell' = true := by
  intro x u hu
  simp [cTxn] at hu
  rcases hu with rfl | rfl | rfl | rfl | rfl | rfl | rfl <;> rfl
theorem fitsTxn {x : List Value} (h : Fits [.i .i64, .i .i64, .i .i64, .s, .s, .i .i64, .i .i64] x) : ∃ t : Txn, x = cTxn t ∧ t.ok := by
  have r0 := h
  obtain ⟨z0, u0, rfl, o0, r1⟩ := fits_i r0
  obtain ⟨z1, u1, rfl, o1, r2⟩ := fits_i r1
  obtain ⟨z2, u2, rfl, o2, r3⟩ := fits_i r2
  obtain ⟨z3, u3, rfl, o3, r4⟩ := fits_s r3
  obtain ⟨z4, u4, rfl, o4, r5⟩ := fits_s r4
  obtain ⟨z5, u5, rfl, o5, r6⟩ := fits_i r5
  obtain ⟨z6, u6, rfl, o6, r7⟩ := fits_i r6
  obtain rfl := r7.nil
  exact ⟨⟨z0, z1, z2, z3, z4, z5, z6⟩, rfl, o0, o1, o2, o3, o4, o5, o6⟩
theorem Sl.Txn_at {w : World} {A : Option Addr} {n c : Nat} {l : List Txn} (h : Sl cTxn 7 w (.slice A n c) l) {i : Nat} {x : Txn} (hx : l[i]? = some x) : ∃ b off, A = some ⟨b, off, none⟩ ∧ b < w.heap.size ∧ w.cell? ⟨b, off + i * 7, none⟩ = some (.int .i64 x.zxid) ∧ w.cell? ⟨b, off + i * 7 + 1, none⟩ = some (.int .i64 x.op) ∧ w.cell? ⟨b, off + i * 7 + 2, none⟩ = some (.int .i64 x.session) ∧ w.cell? ⟨b, off + i * 7 + 3, none⟩ = some (.string x.path) ∧ w.cell? ⟨b, off + i * 7 + 4, none⟩ = some (.string x.data) ∧ w.cell? ⟨b, off + i * 7 + 5, none⟩ = some (.int .i64 x.version) ∧ w.cell? ⟨b, off + i * 7 + 6, none⟩ = some (.int .i64 x.owner) := by
  obtain ⟨b, off, rfl, hb, hc⟩ := h.at_ hx
  exact ⟨b, off, rfl, hb, hc 0 _ rfl, hc 1 _ rfl, hc 2 _ rfl, hc 3 _ rfl, hc 4 _ rfl, hc 5 _ rfl, hc 6 _ rfl⟩

structure File where
  name : ByteArray
  safe : ByteArray
  tail : ByteArray
def cFile (x : File) : List Value := [.string x.name, .string x.safe, .string x.tail]
def File.ok (x : File) : Prop := x.name.size ≤ maxLen ∧ x.safe.size ≤ maxLen ∧ x.tail.size ≤ maxLen
theorem cFile_one : ∀ x : File, ∀ u ∈ cFile x, u.oneCell' = true := by
  intro x u hu
  simp [cFile] at hu
  rcases hu with rfl | rfl | rfl <;> rfl
theorem fitsFile {x : List Value} (h : Fits [.s, .s, .s] x) : ∃ t : File, x = cFile t ∧ t.ok := by
  have r0 := h
  obtain ⟨z0, u0, rfl, o0, r1⟩ := fits_s r0
  obtain ⟨z1, u1, rfl, o1, r2⟩ := fits_s r1
  obtain ⟨z2, u2, rfl, o2, r3⟩ := fits_s r2
  obtain rfl := r3.nil
  exact ⟨⟨z0, z1, z2⟩, rfl, o0, o1, o2⟩
theorem Sl.File_at {w : World} {A : Option Addr} {n c : Nat} {l : List File} (h : Sl cFile 3 w (.slice A n c) l) {i : Nat} {x : File} (hx : l[i]? = some x) : ∃ b off, A = some ⟨b, off, none⟩ ∧ b < w.heap.size ∧ w.cell? ⟨b, off + i * 3, none⟩ = some (.string x.name) ∧ w.cell? ⟨b, off + i * 3 + 1, none⟩ = some (.string x.safe) ∧ w.cell? ⟨b, off + i * 3 + 2, none⟩ = some (.string x.tail) := by
  obtain ⟨b, off, rfl, hb, hc⟩ := h.at_ hx
  exact ⟨b, off, rfl, hb, hc 0 _ rfl, hc 1 _ rfl, hc 2 _ rfl⟩

structure Node where
  path : ByteArray
  data : ByteArray
  czxid : Int
  mzxid : Int
  pzxid : Int
  version : Int
  cversion : Int
  owner : Int
  kids : Int
def cNode (x : Node) : List Value := [.string x.path, .string x.data, .int .i64 x.czxid, .int .i64 x.mzxid, .int .i64 x.pzxid, .int .i64 x.version, .int .i64 x.cversion, .int .i64 x.owner, .int .i64 x.kids]
def Node.ok (x : Node) : Prop := x.path.size ≤ maxLen ∧ x.data.size ≤ maxLen ∧ I64 x.czxid ∧ I64 x.mzxid ∧ I64 x.pzxid ∧ I64 x.version ∧ I64 x.cversion ∧ I64 x.owner ∧ I64 x.kids
theorem cNode_one : ∀ x : Node, ∀ u ∈ cNode x, u.oneCell' = true := by
  intro x u hu
  simp [cNode] at hu
  rcases hu with rfl | rfl | rfl | rfl | rfl | rfl | rfl | rfl | rfl <;> rfl
theorem fitsNode {x : List Value} (h : Fits [.s, .s, .i .i64, .i .i64, .i .i64, .i .i64, .i .i64, .i .i64, .i .i64] x) : ∃ t : Node, x = cNode t ∧ t.ok := by
  have r0 := h
  obtain ⟨z0, u0, rfl, o0, r1⟩ := fits_s r0
  obtain ⟨z1, u1, rfl, o1, r2⟩ := fits_s r1
  obtain ⟨z2, u2, rfl, o2, r3⟩ := fits_i r2
  obtain ⟨z3, u3, rfl, o3, r4⟩ := fits_i r3
  obtain ⟨z4, u4, rfl, o4, r5⟩ := fits_i r4
  obtain ⟨z5, u5, rfl, o5, r6⟩ := fits_i r5
  obtain ⟨z6, u6, rfl, o6, r7⟩ := fits_i r6
  obtain ⟨z7, u7, rfl, o7, r8⟩ := fits_i r7
  obtain ⟨z8, u8, rfl, o8, r9⟩ := fits_i r8
  obtain rfl := r9.nil
  exact ⟨⟨z0, z1, z2, z3, z4, z5, z6, z7, z8⟩, rfl, o0, o1, o2, o3, o4, o5, o6, o7, o8⟩
theorem Sl.Node_at {w : World} {A : Option Addr} {n c : Nat} {l : List Node} (h : Sl cNode 9 w (.slice A n c) l) {i : Nat} {x : Node} (hx : l[i]? = some x) : ∃ b off, A = some ⟨b, off, none⟩ ∧ b < w.heap.size ∧ w.cell? ⟨b, off + i * 9, none⟩ = some (.string x.path) ∧ w.cell? ⟨b, off + i * 9 + 1, none⟩ = some (.string x.data) ∧ w.cell? ⟨b, off + i * 9 + 2, none⟩ = some (.int .i64 x.czxid) ∧ w.cell? ⟨b, off + i * 9 + 3, none⟩ = some (.int .i64 x.mzxid) ∧ w.cell? ⟨b, off + i * 9 + 4, none⟩ = some (.int .i64 x.pzxid) ∧ w.cell? ⟨b, off + i * 9 + 5, none⟩ = some (.int .i64 x.version) ∧ w.cell? ⟨b, off + i * 9 + 6, none⟩ = some (.int .i64 x.cversion) ∧ w.cell? ⟨b, off + i * 9 + 7, none⟩ = some (.int .i64 x.owner) ∧ w.cell? ⟨b, off + i * 9 + 8, none⟩ = some (.int .i64 x.kids) := by
  obtain ⟨b, off, rfl, hb, hc⟩ := h.at_ hx
  exact ⟨b, off, rfl, hb, hc 0 _ rfl, hc 1 _ rfl, hc 2 _ rfl, hc 3 _ rfl, hc 4 _ rfl, hc 5 _ rfl, hc 6 _ rfl, hc 7 _ rfl, hc 8 _ rfl⟩

structure Request where
  op : Int
  session : Int
  path : ByteArray
  data : ByteArray
  version : Int
  flags : Int
def cRequest (x : Request) : List Value := [.int .i64 x.op, .int .i64 x.session, .string x.path, .string x.data, .int .i64 x.version, .int .i64 x.flags]
def Request.ok (x : Request) : Prop := I64 x.op ∧ I64 x.session ∧ x.path.size ≤ maxLen ∧ x.data.size ≤ maxLen ∧ I64 x.version ∧ I64 x.flags
theorem cRequest_one : ∀ x : Request, ∀ u ∈ cRequest x, u.oneCell' = true := by
  intro x u hu
  simp [cRequest] at hu
  rcases hu with rfl | rfl | rfl | rfl | rfl | rfl <;> rfl
theorem fitsRequest {x : List Value} (h : Fits [.i .i64, .i .i64, .s, .s, .i .i64, .i .i64] x) : ∃ t : Request, x = cRequest t ∧ t.ok := by
  have r0 := h
  obtain ⟨z0, u0, rfl, o0, r1⟩ := fits_i r0
  obtain ⟨z1, u1, rfl, o1, r2⟩ := fits_i r1
  obtain ⟨z2, u2, rfl, o2, r3⟩ := fits_s r2
  obtain ⟨z3, u3, rfl, o3, r4⟩ := fits_s r3
  obtain ⟨z4, u4, rfl, o4, r5⟩ := fits_i r4
  obtain ⟨z5, u5, rfl, o5, r6⟩ := fits_i r5
  obtain rfl := r6.nil
  exact ⟨⟨z0, z1, z2, z3, z4, z5⟩, rfl, o0, o1, o2, o3, o4, o5⟩
theorem Sl.Request_at {w : World} {A : Option Addr} {n c : Nat} {l : List Request} (h : Sl cRequest 6 w (.slice A n c) l) {i : Nat} {x : Request} (hx : l[i]? = some x) : ∃ b off, A = some ⟨b, off, none⟩ ∧ b < w.heap.size ∧ w.cell? ⟨b, off + i * 6, none⟩ = some (.int .i64 x.op) ∧ w.cell? ⟨b, off + i * 6 + 1, none⟩ = some (.int .i64 x.session) ∧ w.cell? ⟨b, off + i * 6 + 2, none⟩ = some (.string x.path) ∧ w.cell? ⟨b, off + i * 6 + 3, none⟩ = some (.string x.data) ∧ w.cell? ⟨b, off + i * 6 + 4, none⟩ = some (.int .i64 x.version) ∧ w.cell? ⟨b, off + i * 6 + 5, none⟩ = some (.int .i64 x.flags) := by
  obtain ⟨b, off, rfl, hb, hc⟩ := h.at_ hx
  exact ⟨b, off, rfl, hb, hc 0 _ rfl, hc 1 _ rfl, hc 2 _ rfl, hc 3 _ rfl, hc 4 _ rfl, hc 5 _ rfl⟩

structure Deed where
  kind : Int
  client : Int
  server : Int
  op : Int
  session : Int
  path : ByteArray
  data : ByteArray
  version : Int
  flags : Int
  lost : Int
  slow : Int
  keep : Int
  watch : Bool
def cDeed (x : Deed) : List Value := [.int .i64 x.kind, .int .i64 x.client, .int .i64 x.server, .int .i64 x.op, .int .i64 x.session, .string x.path, .string x.data, .int .i64 x.version, .int .i64 x.flags, .int .i64 x.lost, .int .i64 x.slow, .int .i64 x.keep, .bool x.watch]
def Deed.ok (x : Deed) : Prop := I64 x.kind ∧ I64 x.client ∧ I64 x.server ∧ I64 x.op ∧ I64 x.session ∧ x.path.size ≤ maxLen ∧ x.data.size ≤ maxLen ∧ I64 x.version ∧ I64 x.flags ∧ I64 x.lost ∧ I64 x.slow ∧ I64 x.keep
theorem cDeed_one : ∀ x : Deed, ∀ u ∈ cDeed x, u.oneCell' = true := by
  intro x u hu
  simp [cDeed] at hu
  rcases hu with rfl | rfl | rfl | rfl | rfl | rfl | rfl | rfl | rfl | rfl | rfl | rfl | rfl <;> rfl
theorem fitsDeed {x : List Value} (h : Fits [.i .i64, .i .i64, .i .i64, .i .i64, .i .i64, .s, .s, .i .i64, .i .i64, .i .i64, .i .i64, .i .i64, .b] x) : ∃ t : Deed, x = cDeed t ∧ t.ok := by
  have r0 := h
  obtain ⟨z0, u0, rfl, o0, r1⟩ := fits_i r0
  obtain ⟨z1, u1, rfl, o1, r2⟩ := fits_i r1
  obtain ⟨z2, u2, rfl, o2, r3⟩ := fits_i r2
  obtain ⟨z3, u3, rfl, o3, r4⟩ := fits_i r3
  obtain ⟨z4, u4, rfl, o4, r5⟩ := fits_i r4
  obtain ⟨z5, u5, rfl, o5, r6⟩ := fits_s r5
  obtain ⟨z6, u6, rfl, o6, r7⟩ := fits_s r6
  obtain ⟨z7, u7, rfl, o7, r8⟩ := fits_i r7
  obtain ⟨z8, u8, rfl, o8, r9⟩ := fits_i r8
  obtain ⟨z9, u9, rfl, o9, r10⟩ := fits_i r9
  obtain ⟨z10, u10, rfl, o10, r11⟩ := fits_i r10
  obtain ⟨z11, u11, rfl, o11, r12⟩ := fits_i r11
  obtain ⟨z12, u12, rfl, r13⟩ := fits_b r12
  obtain rfl := r13.nil
  exact ⟨⟨z0, z1, z2, z3, z4, z5, z6, z7, z8, z9, z10, z11, z12⟩, rfl, o0, o1, o2, o3, o4, o5, o6, o7, o8, o9, o10, o11⟩
theorem Sl.Deed_at {w : World} {A : Option Addr} {n c : Nat} {l : List Deed} (h : Sl cDeed 13 w (.slice A n c) l) {i : Nat} {x : Deed} (hx : l[i]? = some x) : ∃ b off, A = some ⟨b, off, none⟩ ∧ b < w.heap.size ∧ w.cell? ⟨b, off + i * 13, none⟩ = some (.int .i64 x.kind) ∧ w.cell? ⟨b, off + i * 13 + 1, none⟩ = some (.int .i64 x.client) ∧ w.cell? ⟨b, off + i * 13 + 2, none⟩ = some (.int .i64 x.server) ∧ w.cell? ⟨b, off + i * 13 + 3, none⟩ = some (.int .i64 x.op) ∧ w.cell? ⟨b, off + i * 13 + 4, none⟩ = some (.int .i64 x.session) ∧ w.cell? ⟨b, off + i * 13 + 5, none⟩ = some (.string x.path) ∧ w.cell? ⟨b, off + i * 13 + 6, none⟩ = some (.string x.data) ∧ w.cell? ⟨b, off + i * 13 + 7, none⟩ = some (.int .i64 x.version) ∧ w.cell? ⟨b, off + i * 13 + 8, none⟩ = some (.int .i64 x.flags) ∧ w.cell? ⟨b, off + i * 13 + 9, none⟩ = some (.int .i64 x.lost) ∧ w.cell? ⟨b, off + i * 13 + 10, none⟩ = some (.int .i64 x.slow) ∧ w.cell? ⟨b, off + i * 13 + 11, none⟩ = some (.int .i64 x.keep) ∧ w.cell? ⟨b, off + i * 13 + 12, none⟩ = some (.bool x.watch) := by
  obtain ⟨b, off, rfl, hb, hc⟩ := h.at_ hx
  exact ⟨b, off, rfl, hb, hc 0 _ rfl, hc 1 _ rfl, hc 2 _ rfl, hc 3 _ rfl, hc 4 _ rfl, hc 5 _ rfl, hc 6 _ rfl, hc 7 _ rfl, hc 8 _ rfl, hc 9 _ rfl, hc 10 _ rfl, hc 11 _ rfl, hc 12 _ rfl⟩
end Go.Proofs.YtkogdnkifnhljaaDoor
