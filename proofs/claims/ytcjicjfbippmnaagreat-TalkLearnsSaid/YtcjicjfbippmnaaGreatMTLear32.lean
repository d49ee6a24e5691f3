/- TalkLearns -/
import Derived.Test.YtcjicjfbippmnaaGreatMTLear31
set_option maxRecDepth 100000
set_option maxHeartbeats 32000000
namespace Go.Proofs.YtcjicjfbippmnaaGreat
open Go.RowKit Ear

theorem Y1 (A:Option Addr) (c:Nat) (l:List Int) (hi:Int) (w:World) (h:Lies w A (ics l)) (hn:l.length <= 9223372036854775807) (b:Bool) (hb':Hid (Xy 1 hi l = b)) :
  Calls Tryz.prog 106 #[.slice A l.length c,.int .i64 hi] w fun e w'=>e = .returned (.bool b) /\ w = w':=by
 go_enter Tryz.func106,Tryz.ntmps106;go_wp2;go_loop [5] (fun i=>∃ k:Nat,k <= l.length /\ i = .int .i64 k /\ (l.take k).all (inR 1 hi) = true) (fun i=>l.length - (intOf i).toNat)
 case atStart=>exact ⟨0,Nat.zero_le _,rfl,rfl⟩
 case round=>
  obtain ⟨k,hk,rfl,hp⟩:=hrel;by_cases hlt:k < l.length
  ·obtain ⟨bk,off,rfl,hb,hc⟩:=h.at_ hlt;have HP:=zH hp;clear hp;go_wp2
   ·go_ret;exact ⟨Jr (by rw [<- hb'.out];exact (YJ hlt (by simp [inR];omega)).symm),rfl⟩
   ·exact ⟨⟨k + 1,by omega,by go_num,VH hlt HP.out (by simp [inR];omega)⟩,by simp [intOf];omega⟩
   ·go_ret;exact ⟨Jr (by rw [<- hb'.out];exact (YJ hlt (by simp [inR];omega)).symm),rfl⟩
  ·have HP:=zH hp;clear hp;go_wp2;go_ret;exact ⟨Jr (by rw [<- hb'.out];have hh:=HP.out;rw [List.take_of_length_le (by omega)] at hh;exact hh.symm),rfl⟩
theorem ZbP (p:Nat) (o v:Int) (A SA NA:Option Addr) (c sc nc:Nat) (L:List Gm) (S:List Inn) (Ns:List Int) (w:World) (h:RlI w p o v A c L SA sc S NA nc Ns) (hl:Ns.length = S.length) (hsc:S.length <= sc) (hnc:Ns.length <= nc) (h3:S.length <= 300) :
  Calls Tryz.prog 46 #[.pointer (some ⟨p,0,none⟩)] w fun e w'=>(S.length = 0 /\ e = .returned (.int .i64 7) /\ w' = w) ∨ (0 < S.length /\ e = .returned (.int .i64 0) /\ w.heap.size = w'.heap.size /\ w.grownBy w' (some p) /\ w'.heap[p]? = some (.cells #[.int .i64 o,.int .i64 v,.slice A L.length c,.slice SA (S.length - 1) sc,.slice NA (S.length - 1) nc] 93 (0,0))):=by
 obtain ⟨q0,q1,q2,q3,q4⟩:=h.cells;have f3:=Jp h.cell 3;have f4:=Jp h.cell 4;have HC:=zH h.cell;clear h;by_cases h0:S.length = 0
 ·have e0:((S.length:Int) == 0) = true:=by rw [h0];rfl
  go_enter Tryz.func46,Tryz.ntmps46;go_wp2_with fail;go_ret;exact .inl ⟨h0,rfl,rfl⟩
 ·have e0:((S.length:Int) == 0) = false:=by simpa using h0
  obtain ⟨m,hm⟩:∃ m,S.length = m + 1:=⟨S.length - 1,by omega⟩;rw [hl] at q4;rw [hm] at q3 q4 e0;have p1:IntKind.i64.wrap (((m + 1:Nat):Int) - 1) = (m:Int):=by rw [IntWalk.i64_in _ (by omega)];omega
  have hs1:=fun W=>Zba (t:=22) (by kernel_rfl) (fun W=>by kernel_rfl) SA (m + 1) sc m (by omega) (by omega) W;have hs2:=fun W=>Zba (t:=40) (by kernel_rfl) (fun W=>by kernel_rfl) NA (m + 1) nc m (by omega) (by omega) W;go_enter Tryz.func46,Tryz.ntmps46;go_wp2_with fail;go_upto_region 4 with fail;go_region;go_wp2_with fail;go_ret;refine .inr ⟨by omega,rfl,by simp [World.setCell],?_,?_⟩
  ·have h9:=JS (p:=⟨p,4,none⟩) (JS (p:=⟨p,3,none⟩) (World.grownBy.refl w (some p)) (.inl rfl) (.slice SA m sc)) (.inl rfl) (.slice NA m nc);exact ⟨h9.os,h9.tape,h9.output,h9.size,h9.block⟩
  ·rw [show S.length - 1 = m by omega];exact (JF (JF HC.out 3 (.slice SA m sc)) 4 (.slice NA m nc)).trans rfl
end Go.Proofs.YtcjicjfbippmnaaGreat
