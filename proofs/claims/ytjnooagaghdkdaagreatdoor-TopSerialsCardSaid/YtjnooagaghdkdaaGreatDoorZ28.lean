/-L-/
import Derived.Test.YtjnooagaghdkdaaGreatDoorZ26
set_option maxHeartbeats 10000000
set_option maxRecDepth 100000
set_option linter.all false
namespace Go.Proofs.YtjnooagaghdkdaaGreatDoor
section
open Go.RowKit Go.ChangeShapes Go.WideShapes Go.ChangeAt
theorem Jf4 (p:Nat->Prop) (s:Srv) (v:SrvV) (u:Value) (l:List Txn) (ep:Int) (w:World) (q:Option (ByteArray × ByteArray)) (A B:ByteArray) (h:SrvIn p w s v) (hu:Sl cTxn 7 w u l) (hp:∀ q,p q->q<w.heap.size)
  (hs:SrvOk s q A B) (hl:LogP l) (hn:l.length<=400) (hd:(comK l s.log:Int)<s.done_) :
  Calls Tryz.prog 81 #[vSrv s v,u,.int .i64 ep] w (Jdu p JcQ 13 w):=by
 obtain ⟨LA,LC,rfl,hc1,hc2⟩:=hu.form;have HP:=zA0 hp;have HL:=zA0 hu;obtain ⟨up,disk,id,ep0,log,dn,tz,nodes,sess,wat⟩:=s;obtain ⟨da,dc,la,lc,na,nc,sa,sc,wa,wc⟩:=v;have hsz:=hs.size;obtain ⟨e1,hq,hlog,hok,hlen⟩:=hs;obtain ⟨hD,hG,hN,hS,hW⟩:=h;simp only at e1 hlog hok hlen hD hG hN hS hW hd;subst e1;have HD:=zA0 hD;have HG:Hid (Sl cTxn 7 w (.slice la log.length lc) log):=zA0 hG.1;have HN:=zA0 hN;have HS:=zA0 hS;have HW:=zA0 hW;have hcl:=JdI l log;generalize hK:comK l log=K at *;have HKK:=zA0 hK;generalize hD0:dskB q A B=D0 at *;clear hD hG hN hS hW hu hp hK hD0;go_enter Tryz.func81,Tryz.ntmps81
 go_upto_block 0 with fail
 go_cut [8] (fun s8 wx=>∃ n,s8=.int .i64 (K:Nat)/\wx=((w.alloc (.cells #[.bool up,.slice da D0.length dc,.int .i64 id,.int .i64 ep0,.slice la log.length lc,.int .i64 dn,.int .i64 tz,.slice na nodes.length nc,.slice sa sess.length sc,.slice wa wat.length wc] 71)).alloc (.cells #[.bool false,.slice none 0 0,.int .i64 0,.int .i64 0,.slice none 0 0,.int .i64 0,.int .i64 0,.slice none 0 0,.slice none 0 0,.slice none 0 0] 71)).drewN n)
 case first=>
  clear HD HN HS HW hd;go_wp2_with fail;go_loopw [8] (fun i wr=>∃ (k n:Nat),k<=K/\i=.int .i64 k/\wr=((w.alloc (.cells #[.bool up,.slice da D0.length dc,.int .i64 id,.int .i64 ep0,.slice la log.length lc,.int .i64 dn,.int .i64 tz,.slice na nodes.length nc,.slice sa sess.length sc,.slice wa wat.length wc] 71)).alloc (.cells #[.bool false,.slice none 0 0,.int .i64 0,.int .i64 0,.slice none 0 0,.int .i64 0,.int .i64 0,.slice none 0 0,.slice none 0 0,.slice none 0 0] 71)).drewN n) (fun i _=>K - (intOf i).toNat)
  case atStart=>exact ⟨0,0,zB9 _,rfl,rfl⟩
  case round=>
   obtain ⟨k,n,hk,rfl,rfl⟩:=hrel
   by_cases h1:k<l.length
   ·have hx:l[k]?=some (l[k]'h1):=zA8 _
    obtain ⟨b,off,rfl,hb,x0,_⟩:=HL.out.Txn_at hx
    by_cases h2:k<log.length
    ·have hy:log[k]?=some (log[k]'h2):=zA8 _
     obtain ⟨b2,off2,rfl,hb2,y0,_⟩:=HG.out.Txn_at hy
     by_cases h3:(l[k]'h1).zxid=(log[k]'h2).zxid
     ·have hgo:k+1<=K:=by rw [<-HKK.out]; exact Jo1 qo0 hx hy h3
      rw [h3] at x0;generalize (log[k]'h2).zxid=z at *;clear hx hy h3;go_wp2_with fail;go_quiet (fail);go_wp2_with fail;go_roundw
      case rel=>exact ⟨k+1,_,hgo,by go_num,rfl⟩
      case measure=>simp [intOf]; omega
     ·have hend:k=K:=by rw [<-HKK.out]; exact Jd2 qo0 (.inr (.inr ⟨_,_,hx,hy,h3⟩))
      have hne:((l[k]'h1).zxid == (log[k]'h2).zxid)=false:=zB7.2 h3;generalize (l[k]'h1).zxid=z1 at *;generalize (log[k]'h2).zxid=z2 at *;clear hx hy h3;subst hend;go_wp2_with fail;go_quiet (fail);go_wp2_with fail;go_meet;exact ⟨_,rfl,World.drewN_drewN _ _ _⟩
    ·have hend:k=K:=by rw [<-HKK.out]; exact Jd2 qo0 (.inr (.inl h2))
     subst hend;clear hx;go_wp2_with fail;go_quiet (fail);go_wp2_with fail;go_meet;exact ⟨_,rfl,World.drewN_drewN _ _ _⟩
   ·have hend:k=K:=by rw [<-HKK.out]; exact Jd2 qo0 (.inl h1)
    subst hend;go_wp2_with fail;go_quiet (fail);go_wp2_with fail;go_meet;exact ⟨_,rfl,World.drewN_drewN _ _ _⟩
 case rest=>
  obtain ⟨n,rfl,rfl⟩:=hcut;have hdn:decide ((K:Int)<dn)=true:=zB0 hd;clear hd;go_wp2_with fail;refine zA1 (v:=.tuple #[vSrv JcQ Jdr,.int .i64 13]) (by simp [results,Tryz.results81,go_sem]) rfl ⟨Jdr,rfl,JcE _ _,zR⟩
end
end Go.Proofs.YtjnooagaghdkdaaGreatDoor
