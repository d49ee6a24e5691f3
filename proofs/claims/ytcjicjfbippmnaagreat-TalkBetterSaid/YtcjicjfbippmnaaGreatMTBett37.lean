/- TalkBetter -/
import Derived.Test.YtcjicjfbippmnaaGreatMTBett36
set_option maxRecDepth 100000
set_option maxHeartbeats 32000000
namespace Go.Proofs.YtcjicjfbippmnaaGreat
open Go.RowKit Ear

theorem Zes (w:World) (o1 o2:Obj):((w.alloc o1).alloc o2).drew.heap[w.heap.size]? = some o1:=(Below.heap_alloc _ _ _ (by simp)).trans (heap_alloc_new w _)
theorem Zer (w:World) (o1 o2:Obj):((w.alloc o1).alloc o2).drew.heap[w.heap.size + 1]? = some o2:=by
 have h:=heap_alloc_new (w.alloc o1) o2;rw [show (w.alloc o1).heap.size = w.heap.size + 1 by simp] at h;exact h
abbrev Stp:=Int × Inn × Int
abbrev Zgd (L:List Stp):List Value:=L.flatMap fun s=>[Value.int .i64 s.1,Value.slice s.2.1.1 s.2.1.2.2.length s.2.1.2.1,Value.int .i64 s.2.2]
theorem Zb0 (L:List Stp):(Zgd L).length = L.length * 3:=by
 induction L with
 | nil=>rfl
 | cons g L ih=>simp [Zgd] at ih ⊢;omega
theorem ZcP:∀ (L:List Stp) {k:Nat} (hk:k < L.length),(Zgd L)[k * 3]? = some (.int .i64 L[k].1) /\ (Zgd L)[k * 3 + 1]? = some (.slice L[k].2.1.1 L[k].2.1.2.2.length L[k].2.1.2.1) /\ (Zgd L)[k * 3 + 2]? = some (.int .i64 L[k].2.2)
 | [],k,hk=>by simp at hk
 | g :: L,0,_=>by simp [Zgd]
 | g :: L,k + 1,hk=>by
  have:=ZcP L (k:=k) (by simpa using hk);rw [show (k + 1) * 3 = k * 3 + 1 + 1 + 1 by omega];simpa [Zgd] using this
theorem Lies.stp {w:World} {A:Option Addr} {L:List Stp} (h:Lies w A (Zgd L)) {k:Nat} (hk:k < L.length) :
  ∃ b off,A = some ⟨b,off,none⟩ /\ b < w.heap.size /\ w.cell? ⟨b,off + k * 3,none⟩ = some (.int .i64 L[k].1) /\ w.cell? ⟨b,off + k * 3 + 1,none⟩ = some (.slice L[k].2.1.1 L[k].2.1.2.2.length L[k].2.1.2.1) /\ w.cell? ⟨b,off + k * 3 + 2,none⟩ = some (.int .i64 L[k].2.2):=by
 obtain ⟨b,off,e,hlt,hc⟩:=h (by rw [Zb0];omega);obtain ⟨h1,h2,h3⟩:=ZcP L hk;exact ⟨b,off,e,hlt,hc _ _ h1,by rw [Nat.add_assoc];exact hc _ _ h2,by rw [Nat.add_assoc];exact hc _ _ h3⟩
def ZhD (n:Nat):Bool:=(decide (8 < n) && decide (n <= 500)) || decide (600 < n)
def QI (n:Nat) (ns:List Nat) (m:Int):Bool:=decide (n <= 60) && decide ((ns.length:Int) <= m) && ns.all (fun k=>!ZhD k)
theorem ZeD (o v:Int) (TA A:Option Addr) (tc n c:Nat) (L:List Stp) (m:Int) (w:World) (h:Lies w A (Zgd L)) (hn:L.length <= 9223372036854775807) (hnn:n <= 9223372036854775807) (hln:Hid (∀ s ∈ L,s.2.1.2.2.length <= 9223372036854775807)) (r:Bool) (hr:Hid (QI n (L.map fun s=>s.2.1.2.2.length) m = r)) :
  Calls Tryz.prog 40 #[.agg #[.int .i64 o,.int .i64 v,.slice TA n tc],.slice A L.length c,.int .i64 m] w (Zdq r w):=by
 obtain ⟨W,hW⟩:∃ W:World,W = w.alloc (.cells #[.int .i64 o,.int .i64 v,.slice TA n tc] 84):=⟨_,rfl⟩;have HB0:Hid (Below w.heap.size w W):=zH (by rw [hW];exact bR.alloc nR _);have HL:=zH (h.below HB0.out);clear h;by_cases h1 : 60 < n
 ·have hz:r = false:=by rw [<- hr.out];unfold QI;rw [dF (by omega:¬ n <= 60)];rfl
  subst hz;go_enter Tryz.func40,Tryz.ntmps40;go_wp2_with fail;go_ret;exact ⟨rfl,by rw [<- hW];exact HB0.out⟩
 ·by_cases h2:m < (L.length:Int)
  ·have hz:r = false:=by rw [<- hr.out];unfold QI;rw [List.length_map,dF (by omega:¬ (L.length:Int) <= m)];simp
   subst hz;go_enter Tryz.func40,Tryz.ntmps40;go_wp2_with fail;go_ret;exact ⟨rfl,by rw [<- hW];exact HB0.out⟩
  ·have HR:Hid ((L.map fun s=>s.2.1.2.2.length).all (fun k=>!ZhD k) = r):=zH (by
    rw [<- hr.out];unfold QI;rw [List.length_map,decide_eq_true (by omega:n <= 60),decide_eq_true (by omega:(L.length:Int) <= m)];simp)
   clear hr;go_enter Tryz.func40,Tryz.ntmps40;go_wp2_with fail;rw [<- hW];clear hW;go_loop [7] (fun i=>∃ k:Nat,k <= L.length /\ i = .int .i64 k /\ Hid (((L.map fun s=>s.2.1.2.2.length).take k).all (fun k=>!ZhD k) = true)) (fun i=>L.length - (intOf i).toNat)
   case atStart=>exact ⟨0,by omega,rfl,zH (by simp)⟩
   case round=>
    obtain ⟨k,hk,rfl,HOK⟩:=hrel;by_cases hlt:k < L.length
    ·obtain ⟨b,off,rfl,hb,hc0,hc1,hc2⟩:=HL.out.stp hlt;have hxn:=hln.out _ (yM hlt);have HT:Hid (((L.map fun s=>s.2.1.2.2.length).take (k + 1)) = ((L.map fun s=>s.2.1.2.2.length).take k) ++ [L[k].2.1.2.2.length]):=zH (by rw [List.take_succ_eq_append_getElem (by simpa using hlt)];simp);have HF:Hid (ZhD L[k].2.1.2.2.length = true -> r = false):=zH (fun hb=>by
      rw [<- HR.out,List.all_eq_false];exact ⟨_,List.mem_map_of_mem (f:=fun s:Stp=>s.2.1.2.2.length) (yM hlt),by simp [hb]⟩)
     generalize L[k] = g at *
     obtain ⟨sk,⟨SA,Sc,sl⟩,st⟩:=g;simp only at *
     generalize sl.length = N at *
     by_cases hm:ZhD N = true
     ·have hz:=HF.out hm;subst hz;unfold ZhD at hm;simp only [Bool.or_eq_true,Bool.and_eq_true,decide_eq_true_eq] at hm;rcases (show (8 < N /\ N <= 500) ∨ (8 < N /\ ¬ N <= 500 /\ 600 < N) by omega) with ⟨m1,m2⟩ | ⟨m1,m2,m3⟩
      ·clear hm HF HT HOK HR;go_wp2_with fail;go_ret;exact ⟨rfl,HB0.out⟩
      ·clear hm HF HT HOK HR;go_wp2_with fail;go_ret;exact ⟨rfl,HB0.out⟩
     ·have HOK2:Hid (((L.map fun s=>s.2.1.2.2.length).take (k + 1)).all (fun k=>!ZhD k) = true):=zH (by rw [HT.out,List.all_append,HOK.out];simpa using hm);unfold ZhD at hm;simp only [Bool.or_eq_true,Bool.and_eq_true,decide_eq_true_eq] at hm;rcases (show (¬ 8 < N) ∨ (8 < N /\ ¬ N <= 500 /\ ¬ 600 < N) by omega) with m1 | ⟨m1,m2,m3⟩
      ·have m4:¬ 600 < N:=(by omega);clear hm HF HT HOK HR;go_wp2_with fail;exact ⟨⟨k + 1,by omega,by go_num,HOK2⟩,by simp [intOf];omega⟩
      ·clear hm HF HT HOK HR;go_wp2_with fail;exact ⟨⟨k + 1,by omega,by go_num,HOK2⟩,by simp [intOf];omega⟩
    ·obtain rfl:k = L.length:=(by omega);have hz:r = true:=by
      rw [<- HR.out];have:=HOK.out
      rwa [List.take_of_length_le (by simp)] at this
     subst hz;go_wp2_with fail;go_ret;exact ⟨rfl,HB0.out⟩
end Go.Proofs.YtcjicjfbippmnaaGreat
namespace Ear
def ZQ (T:Tbl) (g:List Int):Nat:=T.findIdx fun x=>decide (¬ Xb x.1 g < 0)
def ZaS (T:Tbl) (g:List Int) (n:Int):Tbl:=
 match T[ZQ T g]? with
 | some x=>if Xb x.1 g = 0 then T.set (ZQ T g) (x.1,x.2 + n) else T.take (ZQ T g) ++ (g,n) :: T.drop (ZQ T g)
 | none=>T.take (ZQ T g) ++ (g,n) :: T.drop (ZQ T g)
theorem Zic (T:Tbl) (g:List Int):ZQ T g <= T.length:=List.findIdx_le_length
end Ear
