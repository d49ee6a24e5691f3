/- a part of TalkApart -/
import Derived.Test.YtcjicjfbippmnaaGreatMTApar2
import Derived.Test.YtcjicjfbippmnaaGreatMTApar0
import Derived.Test.YtcjicjfbippmnaaGreatMTApar1
import Derived.Laws.BitsAllLaws
import Init.Data.Int.DivMod.Lemmas
set_option maxRecDepth 100000
set_option maxHeartbeats 32000000
namespace Go.Proofs.YtcjicjfbippmnaaGreat
open Go.RowKit Ear

theorem drewN_ex3 (w:World) (a b c:Nat):∃ n,((w.drewN a).drewN b).drewN c = w.drewN n:=⟨a + (b + c),by rw [World.drewN_drewN,World.drewN_drewN]⟩
theorem zer_len (l:List Int):zer l l.length:=fun q hq=>by rw [List.getElem?_eq_none hq];rfl
theorem zer_pred {l:List Int} {n:Nat} (hn : 0 < n) (h:zer l n) (hx:l[n - 1]?.getD 0 = 0):zer l (n - 1):=fun q hq=>by
 by_cases e:q = n - 1
 ·subst e;exact hx
 ·exact h q (by omega)
theorem Lies.ndl {w:World} {A:Option Addr} {l:List Int} (h:Lies w A (ucs l)) (hd:dgs l) {v:Nat} (hv:vl l = v):Lies w A (ucs (nd v)):=by
 have key:∀ k,∀ l:List Int,l.length = k -> dgs l -> ∃ m,m <= l.length /\ zer l m /\ (m = 0 ∨ l[m - 1]?.getD 0 ≠ 0):=by
  intro k l hk _
  have:∀ m,m <= l.length -> zer l m -> ∃ m,m <= l.length /\ zer l m /\ (m = 0 ∨ l[m - 1]?.getD 0 ≠ 0):=by
   intro m
   induction m with
   | zero=>intro h1 h2;exact ⟨0,h1,h2,.inl rfl⟩
   | succ m ih=>
    intro h1 h2
    by_cases hx:l[m]?.getD 0 = 0
    ·exact ih (by omega) (zer_pred (by omega) h2 hx)
    ·exact ⟨m + 1,h1,h2,.inr hx⟩
  exact this l.length (Nat.le_refl _) (zer_len l)
 obtain ⟨m,_,hz,hm⟩:=key l.length l rfl hd
 have e:=take_nd hd hz hm
 rw [hv,Int.toNat_natCast] at e
 rw [<- e]
 have h2:=h.take m
 rwa [show (ucs l).take m = ucs (l.take m) from List.map_take.symm] at h2
theorem nd_le_len {l:List Int} (hd:dgs l) {v:Nat} (hv:vl l = v):(nd v).length <= l.length:=by
 apply nd_len_le
 have:=(vl_bd hd).2
 rw [hv,BB_nat] at this
 omega
theorem trim_any (A:Option Addr) (c:Nat) (l:List Int) (w:World) (h:Lies w A (ucs l)) (hd:Hid (dgs l)) (hlc:l.length <= c) (hn:l.length <= 9223372036854775807) (v:Nat) (hv:Hid (vl l = v)) :
  Calls Tryz.prog 71 #[.slice A l.length c] w fun e w'=>e = .returned (.slice A (nd v).length c) /\ w = w':=by
 have HZ:=zH (zer_len l)
 go_enter Tryz.func71,Tryz.ntmps71
 go_wp2
 go_loop [3] (fun i=>∃ k:Nat,k <= l.length /\ i = .int .i64 k /\ Hid (zer l k)) (fun i=>(intOf i).toNat)
 case atStart=>exact ⟨_,Nat.le_refl _,rfl,HZ⟩
 case round=>
  obtain ⟨k,hk,rfl,hz⟩:=hrel
  clear HZ
  have fin:∀ (hm:k = 0 ∨ l[k - 1]?.getD 0 ≠ 0),Hid ((nd v).length = k):=fun hm=>zH (by
   have e:=take_nd hd.out hz.out hm
   rw [hv.out,Int.toNat_natCast] at e
   rw [<- e,List.length_take]
   omega)
  have FIN:=zH fin
  clear fin
  by_cases h0:k = 0
  ·subst h0
   have F:=FIN.out (.inl rfl)
   go_wp2_with fail
   go_ret
   exact ⟨by rw [F.out];rfl,rfl⟩
  ·obtain ⟨b,off,rfl,hb,hc⟩:=h.uat (k:=k - 1) (by omega)
   have i0:((k:Int) - 1).toNat = k - 1:=by omega
   by_cases hx:l[k - 1]?.getD 0 = 0
   ·have HZ1:=zH (zer_pred (by omega) hz.out hx)
    rw [hx] at hc
    clear hx
    go_wp2_with fail
    exact ⟨⟨k - 1,by omega,by go_num,HZ1⟩,by simp [intOf];omega⟩
   ·have F:=FIN.out (.inr hx)
    have hd1:=dgs_at hd.out (k - 1)
    generalize hx1:l[k - 1]?.getD 0 = x at *
    have HX:=zH hx1
    clear hx1
    have q:(x == 0) = false:=by simpa using hx
    have hkc:k <= c:=by omega
    go_wp2_with fail
    go_ret
    exact ⟨by rw [F.out];rfl,rfl⟩
theorem one_any (A:Option Addr) (c n:Nat) (w:World) (h:Lies w A (ucs (nd n))) (hn:(nd n).length <= 9223372036854775807) (b:Bool) (hb:Hid (decide (n = 1) = b)) :
  Calls Tryz.prog 145 #[.slice A (nd n).length c] w fun e w'=>e = .returned (.bool b) /\ w = w':=by
 by_cases h1:(nd n).length = 1
 ·have hn0:n ≠ 0:=by rintro rfl;rw [nd_zero] at h1;simp at h1
  have e:=nd_pos hn0
  have e2:n / 4294967296 = 0:=by
   have:=h1
   rw [e,List.length_cons] at this
   exact nd_len_zero.1 (by omega)
  obtain ⟨bk,off,rfl,hbk,hc⟩:=h.uat (k:=0) (by omega)
  rw [e] at hc
  simp only [List.getElem?_cons_zero,Option.getD_some,Nat.add_zero] at hc
  have hlt:n % 4294967296 = n:=by omega
  rw [hlt] at hc
  have HB:Hid (b = decide ((n:Int) = 1)):=zH (by rw [<- hb.out];simp;omega)
  have HL:=zH h1
  rw [h1]
  have b1:n < 4294967296:=by omega
  clear e e2 hlt h1
  go_enter Tryz.func145,Tryz.ntmps145
  go_wp2_with fail
  go_ret
  exact ⟨ret_bool (by rw [HB.out];rfl),rfl⟩
 ·have HB:Hid (b = false):=zH (by
   rw [<- hb.out]
   simp
   rintro rfl
   exact h1 (by rw [nd_one];rfl))
  have q:(((nd n).length:Int) == 1) = false:=by simp;omega
  generalize (nd n).length = m at *
  go_enter Tryz.func145,Tryz.ntmps145
  go_wp2_with fail
  go_ret
  exact ⟨ret_bool (by rw [HB.out]),rfl⟩
theorem order_any (A B:Option Addr) (c d:Nat) (a b:List Int) (w:World) (hA:Lies w A (ucs a)) (hB:Lies w B (ucs b)) (da:Hid (dgs a)) (db:Hid (dgs b)) (hac:a.length <= c) (hbd:b.length <= d) (hn:a.length <= 9223372036854775807) (hm:b.length <= 9223372036854775807)
  (x y:Nat) (hx:Hid (vl a = x)) (hy:Hid (vl b = y)) (r:Int) (hr:Hid (cmpN x y = r)) :
  Calls Tryz.prog 123 #[.slice A a.length c,.slice B b.length d] w (RetI r w):=by
 have LA:=zH (hA.ndl da.out hx.out)
 have LB:=zH (hB.ndl db.out hy.out)
 have na:=nd_le_len da.out hx.out
 have nb:=nd_le_len db.out hy.out
 have nx:(nd x).length <= 9223372036854775807:=by omega
 have ny:(nd y).length <= 9223372036854775807:=by omega
 clear na nb
 go_enter Tryz.func123,Tryz.ntmps123
 go_wp2_with fail
 refine (trim_any A c a w hA da hac hn x hx).mono ?_
 rintro e w' ⟨rfl,rfl⟩
 go_wp2_with fail
 refine (trim_any B d b w hB db hbd hm y hy).mono ?_
 rintro e w' ⟨rfl,rfl⟩
 by_cases h1:(nd x).length < (nd y).length
 ·have HR:Hid (r = -1):=zH (by rw [<- hr.out];exact cmpN_lt (nd_len_lt h1))
  have q:(((nd x).length:Int) != (nd y).length) = true:=by simp;omega
  generalize (nd x).length = m at *
  generalize (nd y).length = n at *
  go_wp2_with fail
  go_ret
  exact ⟨ret_int (by rw [HR.out]),0,rfl⟩
 ·by_cases h2:(nd y).length < (nd x).length
  ·have HR:Hid (r = 1):=zH (by rw [<- hr.out];exact cmpN_gt (nd_len_lt h2))
   have q:(((nd x).length:Int) != (nd y).length) = true:=by simp;omega
   generalize (nd x).length = m at *
   generalize (nd y).length = n at *
   go_wp2_with fail
   go_ret
   exact ⟨ret_int (by rw [HR.out]),0,rfl⟩
  ·have hl:(nd y).length = (nd x).length:=by omega
   have DX:=zH (dgs_nd x)
   have DY:=zH (dgs_nd y)
   have VX:=zH (vl_nd x)
   have VY:=zH (vl_nd y)
   have LX:=LA.out
   have LY:=LB.out
   clear LA LB h1 h2
   generalize nd x = xs at *
   generalize nd y = ys at *
   have HL:=zH hl
   rw [hl] at ny ⊢
   clear hl
   go_wp2_with fail
   go_loopw [5] (fun i wr=>∃ k:Nat,k <= xs.length /\ i = .int .i64 ((k:Int) - 1) /\ Hid (xs.drop k = ys.drop k) /\ ∃ n,wr = w.drewN n) (fun i _=>(intOf i + 1).toNat)
   case atStart=>exact ⟨xs.length,Nat.le_refl _,rfl,zH (by rw [List.drop_eq_nil_of_le (Nat.le_refl _),List.drop_eq_nil_of_le (by rw [HL.out];exact Nat.le_refl _)]),0,rfl⟩
   case round=>
    obtain ⟨k,hk,rfl,hdr,n,hwd⟩:=hrel
    have L1:Lies wr A (ucs xs):=by rw [hwd];exact LX.drewN n
    have L2:Lies wr B (ucs ys):=by rw [hwd];exact LY.drewN n
    have WD:=zH hwd
    clear hwd
    by_cases h0:k = 0
    ·subst h0
     have HR:Hid (r = 0):=zH (by
      have e:xs = ys:=by simpa using hdr.out
      have h1:=VX.out
      rw [e,VY.out] at h1
      rw [<- hr.out];exact cmpN_eq (by omega))
     go_wp2_with fail
     go_ret
     exact ⟨ret_int (by rw [HR.out]),n,WD.out⟩
    ·obtain ⟨b1,o1,rfl,hb1,hc1⟩:=L1.uat (k:=k - 1) (by omega)
     obtain ⟨b2,o2,rfl,hb2,hc2⟩:=L2.uat (k:=k - 1) (by rw [HL.out];omega)
     have i0:((k:Int) - 1).toNat = k - 1:=by omega
     have d1:=dgs_at DX.out (k - 1)
     have d2:=dgs_at DY.out (k - 1)
     have ek:k - 1 + 1 = k:=by omega
     have lt1:xs[k - 1]?.getD 0 < ys[k - 1]?.getD 0 -> Hid (r = -1):=fun hlt=>zH (by
      have:=vl_top DX.out DY.out HL.out.symm (i:=k - 1) (by omega) (by rw [ek];exact hdr.out) hlt
      rw [VX.out,VY.out] at this
      rw [<- hr.out];exact cmpN_lt (by omega))
     have gt1:ys[k - 1]?.getD 0 < xs[k - 1]?.getD 0 -> Hid (r = 1):=fun hlt=>zH (by
      have:=vl_top DY.out DX.out HL.out (i:=k - 1) (by rw [HL.out];omega) (by rw [ek];exact hdr.out.symm) hlt
      rw [VX.out,VY.out] at this
      rw [<- hr.out];exact cmpN_gt (by omega))
     have eq1:xs[k - 1]?.getD 0 = ys[k - 1]?.getD 0 -> Hid (xs.drop (k - 1) = ys.drop (k - 1)):=fun he=>zH (drop_step HL.out.symm (by rw [ek];exact hdr.out) he)
     have LT:=zH lt1
     have GT:=zH gt1
     have EQ:=zH eq1
     clear lt1 gt1 eq1 ek
     generalize xs[k - 1]?.getD 0 = u at *
     generalize ys[k - 1]?.getD 0 = v at *
     by_cases hlt:u < v
     ·have HR:=LT.out hlt
      have q:(u != v) = true:=by simp;omega
      clear LT GT EQ
      go_wp2_with fail
      go_quiet (fail)
      go_wp2_with fail
      go_quiet (fail)
      go_wp2_with fail
      go_ret
      exact ⟨ret_int (by rw [HR.out]),by rw [WD.out];exact drewN_ex3 _ _ _ _⟩
     ·by_cases hgt:v < u
      ·have HR:=GT.out hgt
       have q:(u != v) = true:=by simp;omega
       clear LT GT EQ
       go_wp2_with fail
       go_quiet (fail)
       go_wp2_with fail
       go_quiet (fail)
       go_wp2_with fail
       go_ret
       exact ⟨ret_int (by rw [HR.out]),by rw [WD.out];exact drewN_ex3 _ _ _ _⟩
      ·have he:u = v:=by omega
       have HD:=EQ.out he
       subst he
       clear LT GT EQ hlt hgt
       go_wp2_with fail
       go_quiet (fail)
       go_wp2_with fail
       exact ⟨⟨k - 1,by omega,by go_num,HD,by rw [WD.out];exact drewN_ex _ _ _⟩,by simp [intOf];omega⟩
theorem below_drewN' {B:Nat} (w:World) (n:Nat):Below B w (w.drewN n):=⟨rfl,rfl,rfl,Nat.le_refl _,fun _ _=>rfl⟩
theorem ucs_one (l:List Int):∀ u ∈ ucs l,u.oneCell' = true:=by
 intro u hu
 obtain ⟨x,_,rfl⟩:=List.mem_map.1 hu
 rfl
theorem ucs_append (a b:List Int):ucs (a ++ b) = ucs a ++ ucs b:=List.map_append
def RetNd (n:Nat) (w:World) (e:Ending) (w':World):Prop:=
 ∃ A c,e = .returned (.slice A (nd n).length c) /\ Lies w' A (ucs (nd n)) /\ (nd n).length <= c /\ (A = none -> c = 0) /\ Below w.heap.size w w'
theorem lies_newu (w:World) (v:Value) (t:TypeId):Lies (w.alloc (.cells #[v] t)) (some ⟨w.heap.size,0,none⟩) [v]:=fun _=>⟨w.heap.size,0,rfl,by simp,fun k u hu=>by
 rw [Nat.zero_add,cell_of_row _ _ k _ _ _ (heap_alloc_new w _)]
 simpa using hu⟩
theorem own_capn {w:World} {base:Nat} {e:TypeId} {size n c:Nat} {A:Option Addr} {xs:List Value} (h:w.ownsRow base e size (.slice A n c) n xs):n <= c /\ (A = none -> c = 0):=by
 rcases h.2 with ⟨hv,hx⟩ | ⟨g,cap,cur,hv,_,hg,hcur,hle,rest⟩
 ·injection hv with e1 e2 e3
  subst e1 e2 e3
  exact ⟨Nat.le_refl _,fun _=>rfl⟩
 ·injection hv with e1 e2 e3
  subst e1 e3
  exact ⟨by first | exact hle | omega,fun h=>by cases h⟩
def RetNw (n:Nat) (w:World) (e:Ending) (w':World):Prop:=
 ∃ A c,e = .returned (.slice A (nd n).length c) /\ Lies w' A (ucs (nd n)) /\ (nd n).length <= c /\ (A = none -> c = 0) /\ Below w.heap.size w w' /\ (∀ ad,A = some ad -> w.heap.size <= ad.block)
theorem RetNw.nd {n:Nat} {w w':World} {e:Ending} (h:RetNw n w e w'):RetNd n w e w':=by
 obtain ⟨A,c,h1,h2,h3,h4,h5,_⟩:=h
 exact ⟨A,c,h1,h2,h3,h4,h5⟩
theorem own_base {w:World} {base:Nat} {e:TypeId} {size n c:Nat} {A:Option Addr} {xs:List Value} (h:w.ownsRow base e size (.slice A n c) n xs):∀ ad,A = some ad -> base <= ad.block:=by
 intro ad hA
 rcases h.2 with ⟨hv,_⟩ | ⟨g,cap,cur,hv,hg,_⟩
 ·cases hv;cases hA
 ·cases hv;cases hA;exact hg
theorem minus_own (A B:Option Addr) (c d:Nat) (a b:List Int) (w:World) (hA:Lies w A (ucs a)) (hB:Lies w B (ucs b)) (da:Hid (dgs a)) (db:Hid (dgs b)) (hl:b.length <= a.length) (hn:a.length <= 1000000)
  (v:Nat) (hv:Hid (vl a - vl b = v)) :
  Calls Tryz.prog 124 #[.slice A a.length c,.slice B b.length d] w (RetNw v w):=by
 obtain ⟨j0,hj0,ky0,ky1,ky2⟩:=info_parts u32_info
 have KI:=zH hj0;have KZ0:=zH ky0;have KZ1:=zH ky1;have KZ2:=zH ky2
 clear hj0 ky0 ky1 ky2
 have HST:=zH (MinusAt.start a b)
 go_enter Tryz.func124,Tryz.ntmps124
 go_wp2_with fail
 go_loopw [5,6,7,8,9] (fun s br i _ _ wr=>∃ k:Nat,k <= a.length /\ i = .int .i64 k /\ ∃ out A' c' q,Hid (MinusAt a b out k q) /\ br = .int .u64 q /\ s = .slice A' k c' /\ wr.ownsRow w.heap.size 173 1 (.slice A' k c') k (ucs out) /\ Below w.heap.size w wr) (fun _ _ i _ _ _=>a.length - (intOf i).toNat)
 case atStart=>exact ⟨0,by omega,rfl,[],none,0,0,HST,rfl,rfl,World.ownsRow_nil _ _ _ _,Below.refl _ _⟩
 case round=>
  obtain ⟨k,hk,rfl,out,A',c',q,HM,rfl,rfl,r1,r2⟩:=hrel
  clear HST
  have h0:=HM.out.c0
  have h1:=HM.out.c1
  by_cases hlt:k < a.length
  ·obtain ⟨b1,o1,rfl,hb1,hc1⟩:=(hA.below r2).uat hlt
   have d1:=dgs_at da.out k
   have d2:=dgs_at db.out k
   have HN:=zH (fun d' t (h2 : 0 <= d') (h3:d' <= 1) (h4:t = a[k]?.getD 0 - (q + b[k]?.getD 0) + 4294967296 * d')=>HM.out.next h2 h3 h4)
   have hs2:w.heap.size <= wr.heap.size:=r2.size
   have HB:=zH (hB.below r2)
   by_cases hkb:k < b.length
   ·obtain ⟨b2,o2,rfl,hb2,hc2⟩:=HB.out.uat hkb
    generalize a[k]?.getD 0 = x at *
    generalize b[k]?.getD 0 = y at *
    by_cases hxy:x < q + y
    ·have HX:=HN.out 1 (x + 4294967296 - (q + y)) (by omega) (by omega) (by omega) (by omega) (by omega)
     have HX':=zH HX
     clear HX HN
     go_wp2_with (at_builtin;refine wpList_append_srcG _ rfl (.tmp 38) (.tmp 43) _ rfl w.heap.size 173 j0 _ 1 4 Tryz.underlying26 KI.out KZ0.out KZ1.out KZ2.out rfl (by omega) (.slice A' k c') k (ucs out) rfl (r1.alloc _) (some ⟨wr.heap.size,0,none⟩) 1 1 [Value.int .u32 (x + 4294967296 - (q + y))] rfl (fun e=>by cases e) (lies_newu _ _ _) (by simp) (by simp [Value.oneCell']) (by unfold maxLen;omega) (by omega) (by simp;omega) (k + 1) rfl ?_;intro A4 c4 w4 ho4 hg4 _)
     have hbel:Below w.heap.size w w4:=(r2.alloc hs2 _).grown hg4 (by simp;omega) (fun k hk=>(r1.lt k hk).1)
     exact ⟨⟨k + 1,by omega,by go_num,_,A4,c4,1,HX',rfl,rfl,by rw [ucs_append];exact ho4,hbel⟩,by simp [intOf];omega⟩
    ·have HX:=HN.out 0 (x - (q + y) + 4294967296 * 0) (by omega) (by omega) rfl (by omega) (by omega)
     have HX':=zH HX
     clear HX HN
     go_wp2_with (at_builtin;refine wpList_append_srcG _ rfl (.tmp 38) (.tmp 43) _ rfl w.heap.size 173 j0 _ 1 4 Tryz.underlying26 KI.out KZ0.out KZ1.out KZ2.out rfl (by omega) (.slice A' k c') k (ucs out) rfl (r1.alloc _) (some ⟨wr.heap.size,0,none⟩) 1 1 [Value.int .u32 (x - (q + y))] rfl (fun e=>by cases e) (lies_newu _ _ _) (by simp) (by simp [Value.oneCell']) (by unfold maxLen;omega) (by omega) (by simp;omega) (k + 1) rfl ?_;intro A4 c4 w4 ho4 hg4 _)
     have hbel:Below w.heap.size w w4:=(r2.alloc hs2 _).grown hg4 (by simp;omega) (fun k hk=>(r1.lt k hk).1)
     exact ⟨⟨k + 1,by omega,by go_num,_,A4,c4,0,HX',rfl,rfl,by rw [ucs_append];simpa using ho4,hbel⟩,by simp [intOf];omega⟩
   ·have ey:b[k]?.getD 0 = 0:=by rw [List.getElem?_eq_none (by omega)];rfl
    rw [ey] at HN
    clear ey d2
    generalize a[k]?.getD 0 = x at *
    by_cases hxy:x < q
    ·have HX:=HN.out 1 (x + 4294967296 - q) (by omega) (by omega) (by omega) (by omega) (by omega)
     have HX':=zH HX
     clear HX HN
     go_wp2_with (at_builtin;refine wpList_append_srcG _ rfl (.tmp 38) (.tmp 43) _ rfl w.heap.size 173 j0 _ 1 4 Tryz.underlying26 KI.out KZ0.out KZ1.out KZ2.out rfl (by omega) (.slice A' k c') k (ucs out) rfl (r1.alloc _) (some ⟨wr.heap.size,0,none⟩) 1 1 [Value.int .u32 (x + 4294967296 - q)] rfl (fun e=>by cases e) (lies_newu _ _ _) (by simp) (by simp [Value.oneCell']) (by unfold maxLen;omega) (by omega) (by simp;omega) (k + 1) rfl ?_;intro A4 c4 w4 ho4 hg4 _)
     have hbel:Below w.heap.size w w4:=(r2.alloc hs2 _).grown hg4 (by simp;omega) (fun k hk=>(r1.lt k hk).1)
     exact ⟨⟨k + 1,by omega,by go_num,_,A4,c4,1,HX',rfl,rfl,by rw [ucs_append];exact ho4,hbel⟩,by simp [intOf];omega⟩
    ·have HX:=HN.out 0 (x - (q + 0) + 4294967296 * 0) (by omega) (by omega) rfl (by omega) (by omega)
     have HX':=zH HX
     clear HX HN
     go_wp2_with (at_builtin;refine wpList_append_srcG _ rfl (.tmp 38) (.tmp 43) _ rfl w.heap.size 173 j0 _ 1 4 Tryz.underlying26 KI.out KZ0.out KZ1.out KZ2.out rfl (by omega) (.slice A' k c') k (ucs out) rfl (r1.alloc _) (some ⟨wr.heap.size,0,none⟩) 1 1 [Value.int .u32 (x - q)] rfl (fun e=>by cases e) (lies_newu _ _ _) (by simp) (by simp [Value.oneCell']) (by unfold maxLen;omega) (by omega) (by simp;omega) (k + 1) rfl ?_;intro A4 c4 w4 ho4 hg4 _)
     have hbel:Below w.heap.size w w4:=(r2.alloc hs2 _).grown hg4 (by simp;omega) (fun k hk=>(r1.lt k hk).1)
     exact ⟨⟨k + 1,by omega,by go_num,_,A4,c4,0,HX',rfl,rfl,by rw [ucs_append];simpa using ho4,hbel⟩,by simp [intOf];omega⟩
  ·obtain rfl:k = a.length:=by omega
   have HD:=zH (HM.out.done hl (by have:=hv.out;omega))
   have DG:=zH HM.out.dig
   have LN:out.length = a.length:=HM.out.len
   have LO:=zH (Lies.of_own r1)
   have OB:=zH (own_base r1)
   obtain ⟨k1,k2⟩:=own_capn r1
   have VV:Hid (vl out = v):=zH (by rw [HD.out,hv.out])
   have hcall:=fun W (hW:Lies W A' (ucs out))=>trim_any A' c' out W hW DG (by omega) (by omega) v VV
   rw [LN] at hcall
   have HC:=zH hcall
   have LN':=zH LN
   clear hcall LN h0 h1
   go_wp2_with fail
   refine (HC.out _ LO.out).mono ?_
   rintro e w' ⟨rfl,rfl⟩
   go_wp2_with fail
   go_ret
   exact ⟨A',c',rfl,LO.out.ndl DG.out VV.out,by have:=nd_le_len DG.out VV.out;rw [LN'.out] at this;omega,k2,r2,OB.out⟩
theorem minus_any (A B:Option Addr) (c d:Nat) (a b:List Int) (w:World) (hA:Lies w A (ucs a)) (hB:Lies w B (ucs b)) (da:Hid (dgs a)) (db:Hid (dgs b)) (hl:b.length <= a.length) (hn:a.length <= 1000000)
  (v:Nat) (hv:Hid (vl a - vl b = v)) :
  Calls Tryz.prog 124 #[.slice A a.length c,.slice B b.length d] w (RetNd v w):=(minus_own A B c d a b w hA hB da db hl hn v hv).mono fun _ _ hR=>hR.nd
structure Fr where
 neg:Bool
 A:Option Addr
 c:Nat
 N:List Int
 B:Option Addr
 d:Nat
 D:List Int
abbrev Fr.val (x:Fr):Value:=.agg #[.bool x.neg,.slice x.A x.N.length x.c,.slice x.B x.D.length x.d]
structure Dg (w:World) (A:Option Addr) (c:Nat) (l:List Int):Prop where
 lies:Lies w A (ucs l)
 dig:dgs l
 cap:l.length <= c
 nil:A = none -> c = 0
structure FrOk (w:World) (x:Fr):Prop where
 n:Dg w x.A x.c x.N
 d:Dg w x.B x.d x.D
theorem Dg.below {w w':World} {A:Option Addr} {c:Nat} {l:List Int} (h:Dg w A c l) (hb:Below w.heap.size w w'):Dg w' A c l:=⟨h.lies.below hb,h.dig,h.cap,h.nil⟩
theorem Dg.nd {w:World} {A:Option Addr} {c:Nat} {l:List Int} (h:Dg w A c l) {v:Nat} (hv:vl l = v):Dg w A c (nd v):=⟨h.lies.ndl h.dig hv,dgs_nd v,Nat.le_trans (nd_le_len h.dig hv) h.cap,h.nil⟩
theorem Dg.none (w:World):Dg w none 0 []:=⟨Lies.nil _ _,fun x hx=>by simp at hx,Nat.le_refl _,fun _=>rfl⟩
theorem FrOk.below {w w':World} {x:Fr} (h:FrOk w x) (hb:Below w.heap.size w w'):FrOk w' x:=⟨h.n.below hb,h.d.below hb⟩
def den (d:Nat):List Int:=if d = 1 then [] else nd d
def RetFr (neg:Bool) (n d:Nat) (w:World) (e:Ending) (w':World):Prop:=
 ∃ x:Fr,e = .returned x.val /\ FrOk w' x /\ x.neg = neg /\ x.N = nd n /\ x.D = den d /\ Below w.heap.size w w'
theorem bcell' {W w1:World} (hb:Below W.heap.size W w1):(∀ b o,b < W.heap.size -> w1.cell? ⟨b,o,none⟩ = W.cell? ⟨b,o,none⟩) /\ (∀ b o,b < W.heap.size -> w1.frozen? ⟨b,o,none⟩ = W.frozen? ⟨b,o,none⟩):=
 ⟨fun b o h=>hb.cell (p:=⟨b,o,none⟩) h,fun b o h=>hb.frozen (p:=⟨b,o,none⟩) h⟩
theorem dg_lit (w:World) (v:Int) (h : 0 <= v /\ v <= 4294967295) (t:TypeId):Dg (w.alloc (.cells #[.int .u32 v] t)) (some ⟨w.heap.size,0,none⟩) 1 [v]:=
 ⟨lies_newu _ _ _,fun x hx=>by simp at hx;subst hx;exact h,by simp,fun e=>by cases e⟩

def Bx (w:World) (k:Nat):Prop:=w.heap[k]? = some (.cells #[.bool false,.slice none 0 0,.slice none 0 0] 28 (0,0))
theorem Bx.new (w:World):Bx (w.alloc (.cells #[.bool false,.slice none 0 0,.slice none 0 0] 28)) w.heap.size:=heap_alloc_new w _
theorem Bx.lt {w:World} {k:Nat} (h:Bx w k):k < w.heap.size:=(Array.getElem?_eq_some_iff.1 h).1
theorem Bx.below {w w':World} {k:Nat} (h:Bx w k) (hb:Below w.heap.size w w'):Bx w' k:=(hb.block k h.lt).trans h
theorem Bx.alloc {w:World} {k:Nat} (h:Bx w k) (o:Obj):Bx (w.alloc o) k:=h.below ((Below.refl _ w).alloc (Nat.le_refl _) o)
theorem Bx.facts {w:World} {k:Nat} (h:Bx w k):w.cell? ⟨k,0,none⟩ = some (.bool false) /\ w.cell? ⟨k,1,none⟩ = some (.slice none 0 0) /\ w.cell? ⟨k,2,none⟩ = some (.slice none 0 0) /\ w.frozen? ⟨k,0,none⟩ = false /\ w.frozen? ⟨k,1,none⟩ = false /\ w.frozen? ⟨k,2,none⟩ = false:=
 ⟨by rw [cell_of_row w k 0 _ _ _ h];rfl,by rw [cell_of_row w k 1 _ _ _ h];rfl,by rw [cell_of_row w k 2 _ _ _ h];rfl,by simp [World.frozen?,show w.heap[k]? = _ from h],by simp [World.frozen?,show w.heap[k]? = _ from h],by simp [World.frozen?,show w.heap[k]? = _ from h]⟩
theorem Lies.apartBox {w w':World} {A:Option Addr} {l:List Int} {k:Nat} (h:Lies w A (ucs l)) (hb:Bx w k) (hs:w.heap.size <= w'.heap.size) (hk:∀ b,b ≠ k -> b < w.heap.size -> w'.heap[b]? = w.heap[b]?):Lies w' A (ucs l):=fun h0=>by
 obtain ⟨b,off,e,hlt,hc⟩:=h h0
 have hne:b ≠ k:=by
  rintro rfl
  have hl : 0 < l.length:=by simpa using h0
  have:=hc 0 (.int .u32 l[0]) (by simp [List.getElem?_eq_getElem hl])
  rw [cell_of_row w b _ _ _ _ hb] at this
  rcases (show off + 0 = 0 ∨ off + 0 = 1 ∨ off + 0 = 2 ∨ 3 <= off + 0 by omega) with e | e | e | e
  ·rw [e] at this;simp at this
  ·rw [e] at this;simp at this
  ·rw [e] at this;simp at this
  ·rw [Array.getElem?_eq_none (by simpa using e)] at this;cases this
 exact ⟨b,off,e,by omega,fun j u hu=>by
  rw [<- hc j u hu]
  exact World.cell?_of_block (a:=⟨b,off + j,none⟩) (hk b hne hlt)⟩
theorem FrOk.boxed {w:World} {x:Fr} {k:Nat} (h:FrOk w x) (hb:Bx w k) (v0 v1 v2:Value):FrOk (((w.setCell ⟨k,0,none⟩ v0).setCell ⟨k,1,none⟩ v1).setCell ⟨k,2,none⟩ v2) x:=by
 have hk:∀ b,b ≠ k -> b < w.heap.size -> (((w.setCell ⟨k,0,none⟩ v0).setCell ⟨k,1,none⟩ v1).setCell ⟨k,2,none⟩ v2).heap[b]? = w.heap[b]?:=fun b hne _=>
  (Below.heap_setCell _ ⟨k,2,none⟩ v2 b hne).trans ((Below.heap_setCell _ ⟨k,1,none⟩ v1 b hne).trans (Below.heap_setCell _ ⟨k,0,none⟩ v0 b hne))
 exact ⟨⟨h.n.lies.apartBox hb (by simp) hk,h.n.dig,h.n.cap,h.n.nil⟩,⟨h.d.lies.apartBox hb (by simp) hk,h.d.dig,h.d.cap,h.d.nil⟩⟩
theorem natural_any (n:Nat) (w:World) (h:n <= 18446744073709551615):Calls Tryz.prog 95 #[.int .u64 n] w (RetNd n w):=by
 have b1:(n:Int) / 4294967296 <= 4294967295:=by omega
 have b0 : 0 <= (n:Int) / 4294967296:=by omega
 have hv:Hid (vl [(n:Int) % 4294967296,(n:Int) / 4294967296] = n):=zH (by simp [vl,BB];omega)
 have hd:Hid (dgs [(n:Int) % 4294967296,(n:Int) / 4294967296]):=zH (by
  intro x hx
  simp at hx
  rcases hx with rfl | rfl <;> omega)
 go_enter Tryz.func95,Tryz.ntmps95
 go_wp2_with fail
 obtain ⟨W,hW⟩:∃ W,W = w.alloc (Obj.cells #[.int .u32 ((n:Int) % 4294967296),.int .u32 ((n:Int) / 4294967296)] 173):=⟨_,rfl⟩
 have hL0:Lies W (some ⟨w.heap.size,0,none⟩) (ucs [(n:Int) % 4294967296,(n:Int) / 4294967296]):=by
  rw [hW]
  exact fun _=>⟨w.heap.size,0,rfl,by simp,fun k u hu=>by
   rw [Nat.zero_add,cell_of_row _ _ k _ _ _ (heap_alloc_new w _)]
   simpa using hu⟩
 have hB0:Below w.heap.size w W:=by rw [hW];exact (Below.refl _ _).alloc (Nat.le_refl _) _
 have HL:=zH (hL0.ndl hd.out hv.out)
 have HN:=nd_le_len hd.out hv.out
 simp only [List.length_cons,List.length_nil] at HN
 rw [<- hW]
 clear hW
 refine (trim_any (some ⟨w.heap.size,0,none⟩) 2 [(n:Int) % 4294967296,(n:Int) / 4294967296] W hL0 hd (by simp) (by simp) n hv).mono ?_
 rintro e w' ⟨rfl,rfl⟩
 go_wp2_with fail
 go_ret
 exact ⟨_,_,rfl,HL.out,HN,(fun e=>by cases e),hB0⟩
theorem size_pos (n:Nat) (w:World) (h:n <= 9223372036854775807):Calls Tryz.prog 96 #[.int .i64 n] w fun e w'=>e = .returned (.int .u64 n) /\ w = w':=by
 go_enter Tryz.func96,Tryz.ntmps96
 go_wp2_with fail
 go_ret
 exact ⟨rfl,rfl⟩
theorem size_neg (n:Nat) (w:World) (h : 0 < n) (h2:n <= 9223372036854775808):Calls Tryz.prog 96 #[.int .i64 (-(n:Int))] w fun e w'=>e = .returned (.int .u64 n) /\ w = w':=by
 have hn : -(n:Int) < 0:=by omega
 go_enter Tryz.func96,Tryz.ntmps96
 go_wp2_with fail
 go_ret
 exact ⟨ret_int (by rw [IntKind.wrap_u64,IntKind.wrap_u64];omega),rfl⟩
theorem size_any (z:Int) (w:World) (h1 : -9223372036854775808 <= z) (h2:z <= 9223372036854775807):Calls Tryz.prog 96 #[.int .i64 z] w fun e w'=>e = .returned (.int .u64 z.natAbs) /\ w = w':=by
 by_cases h:z < 0
 ·have:=size_neg z.natAbs w (by omega) (by omega)
  rwa [show -((z.natAbs:Nat):Int) = z by omega] at this
 ·have e:z = ((z.natAbs:Nat):Int):=by omega
  generalize z.natAbs = m at *
  subst e
  exact size_pos m w (by omega)
end Go.Proofs.YtcjicjfbippmnaaGreat
