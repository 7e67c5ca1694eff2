/-L-/
import Derived.Test.YtjnooagaghdkdaaGreatDoorZ40
set_option maxHeartbeats 10000000
set_option maxRecDepth 100000
set_option linter.all false
namespace Go.Proofs.YtjnooagaghdkdaaGreatDoor
section
open Go.RowKit Go.ChangeShapes Go.WideShapes Go.ChangeAt
theorem wLeader (p0:Nat->Prop) (b:Nat) (w:World) (σ:Wd) (sv:Nat->SrvV) (cv:Nat->ClV) (dv:Value) (h:WIn p0 b w σ sv cv dv) :
  Calls Tryz.prog 15 #[.pointer (some ⟨b,0,none⟩)] w fun e w'=>e=.returned (.int .i64 σ.lead)/\w'=w:=by
 have k0:w.cell? ⟨b,78,none⟩=some (.int .i64 σ.lead):=h.restAt (j:=0) rfl;have hlt:b<w.heap.size:=h.lt;clear h;go_enter Tryz.func15,Tryz.ntmps15
 go_wp2_with fail;refine zA1 (v:=.int .i64 σ.lead) (by simp [results,Tryz.results15,go_sem]) rfl ⟨rfl,rfl⟩
theorem wAck (p0:Nat->Prop) (b:Nat) (w:World) (σ:Wd) (sv:Nat->SrvV) (cv:Nat->ClV) (dv:Value) (h:WIn p0 b w σ sv cv dv) (hn:σ.dn.length<=300) :
  Calls Tryz.prog 14 #[.pointer (some ⟨b,0,none⟩)] w fun e w'=>∃ A c,e=.returned (.slice A σ.dn.length c)/\Ow cTxn 7 39 w' w.heap.size (.slice A σ.dn.length c) σ.dn/\Below w.heap.size w w':=by
 obtain ⟨Ad,kd,rfl,_⟩:=h.dn.form;have k0:w.cell? ⟨b,82,none⟩=some (.slice Ad σ.dn.length kd):=h.restAt (j:=4) rfl;have hlt:b<w.heap.size:=h.lt;have HD:=zA0 h.dn.sl;clear h;go_enter Tryz.func14,Tryz.ntmps14
 go_wp2_with (at_builtin; refine Jaf _ rfl (.const (.slice none 0 0)) (.tmp 8) _ rfl Jfr (B:=w.heap.size) (l:=([]:List Txn)) (m:=σ.dn) rfl rfl (Ow.nil _ _ _ _ _) HD.out JbY qs0 qB1 (zA3 _) ?_; intro v2 w2 hown2 hg2 hat2; obtain ⟨A2,c2,rfl,_⟩:=hown2.form; have HO2:=zA0 hown2; have HG2:=zA0 hg2; clear hown2 hg2 hat2);refine zA1 (v:=.slice A2 ([] ++ σ.dn).length c2) (by simp [results,Tryz.results14,go_sem]) rfl ⟨A2,c2,by simp,by simpa using HO2.out,Below.of_grown HG2.out⟩
end
end Go.Proofs.YtjnooagaghdkdaaGreatDoor
