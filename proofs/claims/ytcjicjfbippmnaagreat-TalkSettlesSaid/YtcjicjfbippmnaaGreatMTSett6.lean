/- a part of TalkSettles -/
import Derived.Test.YtcjicjfbippmnaaGreatMTSett5
set_option maxRecDepth 100000
set_option maxHeartbeats 32000000
namespace Go.Proofs.YtcjicjfbippmnaaGreat
open Go.RowKit Ear

def URet (l:List Int) (w:World) (e:Ending) (w':World):Prop:=
 ∃ A c,e = .returned (.slice A l.length c) /\ w'.ownsRow w.heap.size 173 1 (.slice A l.length c) l.length (ucs l) /\ Below w.heap.size w w'
theorem Dg.nl {w:World} {A:Option Addr} {c:Nat} {l:List Int} (h:Dg w A c l) (hA:A = Option.none):c = 0 /\ l = []:=by
 have h1:=h.nil hA
 have h2:=h.cap
 exact ⟨h1,List.length_eq_zero_iff.1 (by omega)⟩
theorem URet.nd {n:Nat} {w w':World} {e:Ending} (h:URet (nd n) w e w'):RetNd n w e w':=by
 obtain ⟨A,c,he,h1,h2⟩:=h
 exact ⟨A,c,he,Lies.of_own h1,(own_capn h1).1,(own_capn h1).2,h2⟩
theorem own_sliceU {w:World} {base:Nat} {e:TypeId} {size n:Nat} {v:Value} {xs:List Value} (h:w.ownsRow base e size v n xs):∃ A c,v = .slice A n c:=by
 rcases h.2 with ⟨rfl,rfl⟩ | ⟨g,cap,cur,rfl,_⟩
 ·exact ⟨_,_,rfl⟩
 ·exact ⟨_,_,rfl⟩
theorem Lies.newsU {w:World} {ad:Addr} {xs:List Value} (h:Lies w (some ad) xs) (o:Obj) (j:Nat) (u:Value) (hu:xs[j]? = some u):(w.alloc o).cell? (ad.add j) = some u:=by
 obtain ⟨b,off,e,hb,hc⟩:=h (Nat.lt_of_le_of_lt (Nat.zero_le _) (List.getElem?_eq_some_iff.1 hu).1)
 cases e
 rw [Addr.add_lit]
 exact (World.cell?_alloc_lt w o _ hb).trans (hc j u hu)
theorem CloneU_any (A:Option Addr) (c:Nat) (l:List Int) (w:World) (h:Dg w A c l) (hn:l.length <= 1000000) :
  Calls Tryz.prog 168 #[.slice A l.length c] w (URet l w):=by
 obtain ⟨i0,hi0,hz0,hz1,hz2⟩:=info_parts u32_info
 have HI:=zH hi0;have HZ0:=zH hz0;have HZ1:=zH hz1;have HZ2:=zH hz2
 clear hi0 hz0 hz1 hz2
 cases A with
 | none=>
  obtain ⟨rfl,rfl⟩:=h.nl rfl
  have hnil:∀ W,(binOp .eql 26 (.slice none 0 0) (.slice none 0 0)).run Tryz.prog W = .ok (.bool true) W:=fun W=>Lib.run_eql_slice_nil W 26 173 none 0 0 0 0 Tryz.underlying26
  go_enter Tryz.func168,Tryz.ntmps168
  go_wp2_with fail
  go_ret
  exact ⟨none,0,rfl,World.ownsRow_nil _ _ _ _,Below.refl _ _⟩
 | some ad=>
  have hnil:∀ W,(binOp .eql 26 (.slice (some ad) l.length c) (.slice none 0 0)).run Tryz.prog W = .ok (.bool false) W:=fun W=>Lib.run_eql_slice_nil W 26 173 (some ad) l.length c 0 0 Tryz.underlying26
  have hnews:=zH (h.lies.newsU)
  clear h
  go_enter Tryz.func168,Tryz.ntmps168
  go_wp2_with (at_builtin;refine wpList_append_own_at _ rfl (.tmp 5) (.tmp 6) _ rfl w.heap.size 173 i0 _ 1 4 Tryz.underlying26 HI.out HZ0.out HZ1.out HZ2.out rfl (by omega) (.slice (some ⟨w.heap.size,0,none⟩) 0 0) 0 [] rfl (World.ownsRow_lit w #[] 0 nR (by simp) rfl) ad l.length c (ucs l) rfl (by simp) (hnews.out _) (ucs_one l) (by unfold maxLen;omega) (by omega) (by simp) ?_;intro v' w1 hown1 hgrow _ hat)
  go_ret
  obtain ⟨A',c',rfl⟩:=own_sliceU hown1
  refine ⟨A',c',by rw [Nat.zero_add];rfl,by simpa using hown1,(bR.alloc nR _).grown hgrow (by simp) (fun k hk=>?_)⟩
  simp [Value.ownBlock] at hk
  omega
theorem CloneX_any (A:Option Addr) (c:Nat) (l:List Int) (w:World) (h:Dg w A c l) (hn:l.length <= 1000000) :
  Calls Tryz.prog 171 #[.slice A l.length c] w (URet l w):=by
 obtain ⟨i0,hi0,hz0,hz1,hz2⟩:=info_parts u32_info
 have HI:=zH hi0;have HZ0:=zH hz0;have HZ1:=zH hz1;have HZ2:=zH hz2
 clear hi0 hz0 hz1 hz2
 cases A with
 | none=>
  obtain ⟨rfl,rfl⟩:=h.nl rfl
  have hnil:∀ W,(binOp .eql 117 (.slice none 0 0) (.slice none 0 0)).run Tryz.prog W = .ok (.bool true) W:=fun W=>Lib.run_eql_slice_nil W 117 173 none 0 0 0 0 Tryz.underlying117
  go_enter Tryz.func171,Tryz.ntmps171
  go_wp2_with fail
  go_ret
  exact ⟨none,0,rfl,World.ownsRow_nil _ _ _ _,Below.refl _ _⟩
 | some ad=>
  have hnil:∀ W,(binOp .eql 117 (.slice (some ad) l.length c) (.slice none 0 0)).run Tryz.prog W = .ok (.bool false) W:=fun W=>Lib.run_eql_slice_nil W 117 173 (some ad) l.length c 0 0 Tryz.underlying117
  have hnews:=zH (h.lies.newsU)
  clear h
  go_enter Tryz.func171,Tryz.ntmps171
  go_wp2_with (at_builtin;refine wpList_append_own_at _ rfl (.tmp 5) (.tmp 6) _ rfl w.heap.size 173 i0 _ 1 4 Tryz.underlying117 HI.out HZ0.out HZ1.out HZ2.out rfl (by omega) (.slice (some ⟨w.heap.size,0,none⟩) 0 0) 0 [] rfl (World.ownsRow_lit w #[] 0 nR (by simp) rfl) ad l.length c (ucs l) rfl (by simp) (hnews.out _) (ucs_one l) (by unfold maxLen;omega) (by omega) (by simp) ?_;intro v' w1 hown1 hgrow _ hat)
  go_ret
  obtain ⟨A',c',rfl⟩:=own_sliceU hown1
  refine ⟨A',c',by rw [Nat.zero_add];rfl,by simpa using hown1,(bR.alloc nR _).grown hgrow (by simp) (fun k hk=>?_)⟩
  simp [Value.ownBlock] at hk
  omega
theorem xtrim_own (A:Option Addr) (c:Nat) (l:List Int) (w:World) (h:Dg w A c l) (hn:l.length <= 1000000) (v:Nat) (hv:Hid (vl l = v)) :
  Calls Tryz.prog 126 #[.slice A l.length c] w (URet (nd v) w):=by
 have HZ:=zH (zer_len l)
 have hd:=zH h.dig
 have hlc:=h.cap
 have HL:=zH h.lies
 have HC:=zH (CloneU_any A c (nd v) w (h.nd hv.out) (by have:=nd_le_len hd.out hv.out;omega))
 clear h
 go_enter Tryz.func126,Tryz.ntmps126
 go_wp2
 go_loop [3] (fun i=>∃ k:Nat,k <= l.length /\ i = .int .i64 k /\ Hid (zer l k)) (fun i=>(intOf i).toNat)
 case atStart=>exact ⟨_,Nat.le_refl _,rfl,HZ⟩
 case round=>
  obtain ⟨k,hk,rfl,hz⟩:=hrel
  clear HZ
  have fin:∀ (hm:k = 0 ∨ l[k - 1]?.getD 0 ≠ 0),Hid ((nd v).length = k):=fun hm=>zH (by
   have e:=take_nd hd.out hz.out hm
   rw [hv.out,Int.toNat_natCast] at e
   rw [<- e,List.length_take]
   omega)
  have FIN:=zH fin
  clear fin
  by_cases h0:k = 0
  ·subst h0
   have F:=FIN.out (.inl rfl)
   have HC':=zH (show Calls Tryz.prog 168 #[.slice A 0 c] w (URet (nd v) w) by have:=HC.out;rwa [F.out] at this)
   go_wp2_with fail
   refine HC'.out.mono ?_
   rintro e w' ⟨A2,c2,rfl,r1,r2⟩
   go_wp2_with fail
   go_ret
   exact ⟨A2,c2,rfl,r1,r2⟩
  ·obtain ⟨b,off,rfl,hb,hc⟩:=HL.out.uat (k:=k - 1) (by omega)
   have i0:((k:Int) - 1).toNat = k - 1:=by omega
   by_cases hx:l[k - 1]?.getD 0 = 0
   ·have HZ1:=zH (zer_pred (by omega) hz.out hx)
    rw [hx] at hc
    clear hx
    go_wp2_with fail
    exact ⟨⟨k - 1,by omega,by go_num,HZ1⟩,by simp [intOf];omega⟩
   ·have F:=FIN.out (.inr hx)
    have HC':=zH (show Calls Tryz.prog 168 #[.slice (some ⟨b,off,none⟩) k c] w (URet (nd v) w) by have:=HC.out;rwa [F.out] at this)
    have hd1:=dgs_at hd.out (k - 1)
    generalize hx1:l[k - 1]?.getD 0 = x at *
    have HX:=zH hx1
    clear hx1
    have q:(x == 0) = false:=by simpa using hx
    have hkc:k <= c:=by omega
    go_wp2_with fail
    refine HC'.out.mono ?_
    rintro e w' ⟨A2,c2,rfl,r1,r2⟩
    go_wp2_with fail
    go_ret
    exact ⟨A2,c2,rfl,r1,r2⟩
theorem xtrim_any (A:Option Addr) (c:Nat) (l:List Int) (w:World) (h:Dg w A c l) (hn:l.length <= 1000000) (v:Nat) (hv:Hid (vl l = v)) :
  Calls Tryz.prog 126 #[.slice A l.length c] w (RetNd v w):=(xtrim_own A c l w h hn v hv).mono fun _ _ hR=>hR.nd
theorem xsmall_any (n:Nat) (w:World) (h:n <= 18446744073709551615):Calls Tryz.prog 127 #[.int .u64 n] w (RetNd n w):=by
 have b1:(n:Int) / 4294967296 <= 4294967295:=by omega
 have b0 : 0 <= (n:Int) / 4294967296:=by omega
 have hv:Hid (vl [(n:Int) % 4294967296,(n:Int) / 4294967296] = n):=zH (by simp [vl,BB];omega)
 have hd:Hid (dgs [(n:Int) % 4294967296,(n:Int) / 4294967296]):=zH (by
  intro x hx
  simp at hx
  rcases hx with rfl | rfl <;> omega)
 go_enter Tryz.func127,Tryz.ntmps127
 go_wp2_with fail
 obtain ⟨W,hW⟩:∃ W,W = w.alloc (Obj.cells #[.int .u32 ((n:Int) % 4294967296),.int .u32 ((n:Int) / 4294967296)] 173):=⟨_,rfl⟩
 have hL0:Lies W (some ⟨w.heap.size,0,none⟩) (ucs [(n:Int) % 4294967296,(n:Int) / 4294967296]):=by
  rw [hW]
  exact fun _=>⟨w.heap.size,0,rfl,by simp,fun k u hu=>by
   rw [Nat.zero_add,cell_of_row _ _ k _ _ _ (heap_alloc_new w _)]
   simpa using hu⟩
 have hB0:Below w.heap.size w W:=by rw [hW];exact bR.alloc nR _
 rw [<- hW]
 clear hW
 refine (xtrim_any (some ⟨w.heap.size,0,none⟩) 2 [(n:Int) % 4294967296,(n:Int) / 4294967296] W ⟨hL0,hd.out,by simp,fun e=>by cases e⟩ (by simp) n hv).mono ?_
 rintro e w' ⟨A2,c2,rfl,r1,r2,r3,r4⟩
 go_wp2_with fail
 go_ret
 exact ⟨A2,c2,rfl,r1,r2,r3,hB0.trans (r4.mono hB0.size)⟩
theorem xcmp_any (A B:Option Addr) (c d:Nat) (x y:Nat) (w:World) (hA:Dg w A c (nd x)) (hB:Dg w B d (nd y)) (nx:(nd x).length <= 1000000) (r:Int) (hr:Hid (cmpN x y = r)) :
  Calls Tryz.prog 132 #[.slice A (nd x).length c,.slice B (nd y).length d] w (RetI r w):=by
 have LA:=zH hA.lies
 have LB:=zH hB.lies
 clear hA hB
 go_enter Tryz.func132,Tryz.ntmps132
 by_cases h1:(nd x).length < (nd y).length
 ·have HR:Hid (r = -1):=zH (by rw [<- hr.out];exact cmpN_lt (nd_len_lt h1))
  have q:(((nd x).length:Int) != (nd y).length) = true:=by simp;omega
  generalize (nd x).length = m at *
  generalize (nd y).length = n at *
  go_wp2_with fail
  go_ret
  exact ⟨ret_int (by rw [HR.out]),0,rfl⟩
 ·by_cases h2:(nd y).length < (nd x).length
  ·have HR:Hid (r = 1):=zH (by rw [<- hr.out];exact cmpN_gt (nd_len_lt h2))
   have q:(((nd x).length:Int) != (nd y).length) = true:=by simp;omega
   generalize (nd x).length = m at *
   generalize (nd y).length = n at *
   go_wp2_with fail
   go_ret
   exact ⟨ret_int (by rw [HR.out]),0,rfl⟩
  ·have hl:(nd y).length = (nd x).length:=by omega
   have DX:=zH (dgs_nd x)
   have DY:=zH (dgs_nd y)
   have VX:=zH (vl_nd x)
   have VY:=zH (vl_nd y)
   have LX:=LA.out
   have LY:=LB.out
   clear LA LB h1 h2
   generalize nd x = xs at *
   generalize nd y = ys at *
   have HL:=zH hl
   rw [hl]
   clear hl
   go_wp2_with fail
   go_loopw [5] (fun i wr=>∃ k:Nat,k <= xs.length /\ i = .int .i64 ((k:Int) - 1) /\ Hid (xs.drop k = ys.drop k) /\ ∃ n,wr = w.drewN n) (fun i _=>(intOf i + 1).toNat)
   case atStart=>exact ⟨xs.length,Nat.le_refl _,rfl,zH (by rw [List.drop_eq_nil_of_le nR,List.drop_eq_nil_of_le (by rw [HL.out];exact Nat.le_refl _)]),0,rfl⟩
   case round=>
    obtain ⟨k,hk,rfl,hdr,n,hwd⟩:=hrel
    have L1:Lies wr A (ucs xs):=by rw [hwd];exact LX.drewN n
    have L2:Lies wr B (ucs ys):=by rw [hwd];exact LY.drewN n
    have WD:=zH hwd
    clear hwd
    by_cases h0:k = 0
    ·subst h0
     have HR:Hid (r = 0):=zH (by
      have e:xs = ys:=by simpa using hdr.out
      have h1:=VX.out
      rw [e,VY.out] at h1
      rw [<- hr.out];exact cmpN_eq (by omega))
     go_wp2_with fail
     go_ret
     exact ⟨ret_int (by rw [HR.out]),n,WD.out⟩
    ·obtain ⟨b1,o1,rfl,hb1,hc1⟩:=L1.uat (k:=k - 1) (by omega)
     obtain ⟨b2,o2,rfl,hb2,hc2⟩:=L2.uat (k:=k - 1) (by rw [HL.out];omega)
     have i0:((k:Int) - 1).toNat = k - 1:=by omega
     have d1:=dgs_at DX.out (k - 1)
     have d2:=dgs_at DY.out (k - 1)
     have ek:k - 1 + 1 = k:=by omega
     have lt1:xs[k - 1]?.getD 0 < ys[k - 1]?.getD 0 -> Hid (r = -1):=fun hlt=>zH (by
      have:=vl_top DX.out DY.out HL.out.symm (i:=k - 1) (by omega) (by rw [ek];exact hdr.out) hlt
      rw [VX.out,VY.out] at this
      rw [<- hr.out];exact cmpN_lt (by omega))
     have gt1:ys[k - 1]?.getD 0 < xs[k - 1]?.getD 0 -> Hid (r = 1):=fun hlt=>zH (by
      have:=vl_top DY.out DX.out HL.out (i:=k - 1) (by rw [HL.out];omega) (by rw [ek];exact hdr.out.symm) hlt
      rw [VX.out,VY.out] at this
      rw [<- hr.out];exact cmpN_gt (by omega))
     have eq1:xs[k - 1]?.getD 0 = ys[k - 1]?.getD 0 -> Hid (xs.drop (k - 1) = ys.drop (k - 1)):=fun he=>zH (drop_step HL.out.symm (by rw [ek];exact hdr.out) he)
     have LT:=zH lt1
     have GT:=zH gt1
     have EQ:=zH eq1
     clear lt1 gt1 eq1 ek
     generalize xs[k - 1]?.getD 0 = u at *
     generalize ys[k - 1]?.getD 0 = v at *
     by_cases hlt:u < v
     ·have HR:=LT.out hlt
      have q:(u != v) = true:=by simp;omega
      clear LT GT EQ
      go_wp2_with fail
      go_quiet (fail)
      go_wp2_with fail
      go_quiet (fail)
      go_wp2_with fail
      go_ret
      exact ⟨ret_int (by rw [HR.out]),by rw [WD.out];exact drewN_ex3 _ _ _ _⟩
     ·by_cases hgt:v < u
      ·have HR:=GT.out hgt
       have q:(u != v) = true:=by simp;omega
       clear LT GT EQ
       go_wp2_with fail
       go_quiet (fail)
       go_wp2_with fail
       go_quiet (fail)
       go_wp2_with fail
       go_ret
       exact ⟨ret_int (by rw [HR.out]),by rw [WD.out];exact drewN_ex3 _ _ _ _⟩
      ·have he:u = v:=by omega
       have HD:=EQ.out he
       subst he
       clear LT GT EQ hlt hgt
       go_wp2_with fail
       go_quiet (fail)
       go_wp2_with fail
       exact ⟨⟨k - 1,by omega,by go_num,HD,by rw [WD.out];exact drewN_ex _ _ _⟩,by simp [intOf];omega⟩
theorem own_nil {w:World} {base:Nat} {e:TypeId} {size n c:Nat} {A:Option Addr} {xs:List Value} (h:w.ownsRow base e size (.slice A n c) n xs):A = none -> c = 0:=by
 rintro rfl
 rcases h.2 with ⟨e1,_⟩ | ⟨g,cap,cur,e1,_⟩
 ·injection e1
 ·injection e1 with e1;cases e1
theorem Led.make {w0 w:World} {F:List (Option Addr × List Value)} (h:Led w0 w F) (cs:Array Value) (t:TypeId) (k:Nat) (hk:w.heap.size = k):Led w0 (w.alloc (.cells cs t)) (F ++ [(some ⟨k,0,none⟩,cs.toList)]):=
 (h.alloc _).row (by subst hk;exact heap_alloc_new w _)
theorem box3 {W:World} {k:Nat} {u0 u1 u2:Value} (v0 v1 v2:Value) (h0:W.cell? ⟨k,0,none⟩ = some u0) (h1:W.cell? ⟨k,1,none⟩ = some u1) (h2:W.cell? ⟨k,2,none⟩ = some u2) :
  (((W.setCell ⟨k,0,none⟩ v0).setCell ⟨k,1,none⟩ v1).setCell ⟨k,2,none⟩ v2).cell? ⟨k,0,none⟩ = some v0 /\ (((W.setCell ⟨k,0,none⟩ v0).setCell ⟨k,1,none⟩ v1).setCell ⟨k,2,none⟩ v2).cell? ⟨k,1,none⟩ = some v1 /\ (((W.setCell ⟨k,0,none⟩ v0).setCell ⟨k,1,none⟩ v1).setCell ⟨k,2,none⟩ v2).cell? ⟨k,2,none⟩ = some v2:=by
 simp [go_sem,h0,h1,h2]
theorem box3_alloc {W:World} {k:Nat} {u0 u1 u2:Value} (v0 v1 v2:Value) (o:Obj) (h0:W.cell? ⟨k,0,none⟩ = some u0) (h1:W.cell? ⟨k,1,none⟩ = some u1) (h2:W.cell? ⟨k,2,none⟩ = some u2) (hk:k < W.heap.size) :
  ((((W.setCell ⟨k,0,none⟩ v0).setCell ⟨k,1,none⟩ v1).setCell ⟨k,2,none⟩ v2).alloc o).cell? ⟨k,0,none⟩ = some v0 /\ ((((W.setCell ⟨k,0,none⟩ v0).setCell ⟨k,1,none⟩ v1).setCell ⟨k,2,none⟩ v2).alloc o).cell? ⟨k,1,none⟩ = some v1 /\ ((((W.setCell ⟨k,0,none⟩ v0).setCell ⟨k,1,none⟩ v1).setCell ⟨k,2,none⟩ v2).alloc o).cell? ⟨k,2,none⟩ = some v2:=by
 obtain ⟨e0,e1,e2⟩:=box3 v0 v1 v2 h0 h1 h2
 have hs:k < (((W.setCell ⟨k,0,none⟩ v0).setCell ⟨k,1,none⟩ v1).setCell ⟨k,2,none⟩ v2).heap.size:=by simpa using hk
 exact ⟨(World.cell?_alloc_lt _ o ⟨k,0,none⟩ hs).trans e0,(World.cell?_alloc_lt _ o ⟨k,1,none⟩ hs).trans e1,(World.cell?_alloc_lt _ o ⟨k,2,none⟩ hs).trans e2⟩
theorem one_lit (A:Option Addr) (c:Nat) (w:World) (h:Lies w A (ucs [1])):Calls Tryz.prog 145 #[.slice A 1 c] w fun e w'=>e = .returned (.bool true) /\ w = w':=by
 have h1:=one_any A c 1 w (by rw [nd_one];exact h) (by rw [nd_one];simp) true (zH (by simp))
 rw [nd_one] at h1
 simpa using h1
theorem own_dg {w:World} {base c:Nat} {A:Option Addr} {l:List Int} (h:w.ownsRow base 173 1 (.slice A l.length c) l.length (ucs l)) (hd:dgs l):Dg w A c l:=
 ⟨Lies.of_own h,hd,(own_capn h).1,(own_capn h).2⟩
theorem make1_zero (neg:Bool) (A B:Option Addr) (c d:Nat) (a b:List Int) (w:World) (hA:Dg w A c a) (hB:Dg w B d b) (hn:a.length <= 1000000) (hm:b.length <= 1000000) (hx:Hid (vl a = 0)) :
  Calls Tryz.prog 94 #[.bool neg,.slice A a.length c,.slice B b.length d] w (RetFr false 0 1 w):=by
 have DA:=zH hA.dig
 have DB:=zH hB.dig
 have ca:=hA.cap
 have cb:=hB.cap
 have LA:=zH (fun o=>hA.lies.alloc (w:=w) o)
 have LB:=zH (fun o=>hB.lies.alloc (w:=w) o)
 have hvb:=vl_nonneg DB.out
 have HV:Hid (vl b = ((vl b).toNat:Nat)):=zH (by omega)
 have HX:Hid (vl a = (0:Nat)):=zH (by rw [hx.out];rfl)
 have HZ:Hid ((nd 0).length = 0):=zH (by rw [nd_zero];rfl)
 clear hvb hA hB
 generalize (vl b).toNat = v at *
 go_enter Tryz.func94,Tryz.ntmps94
 go_wp2_with fail
 refine (trim_any A c a _ (LA.out _) DA ca (by omega) 0 HX).mono ?_
 rintro e w' ⟨rfl,rfl⟩
 rw [HZ.out]
 go_wp2_with fail
 refine (trim_any B d b _ (LB.out _) DB cb (by omega) v HV).mono ?_
 rintro e w' ⟨rfl,rfl⟩
 go_wp2_with fail
 refine bodyPost_ret (v:=.agg #[.bool false,.slice none 0 0,.slice none 0 0]) (by simp [results,Tryz.results94,go_sem]) rfl ?_
 refine ⟨⟨false,none,0,[],none,0,[]⟩,rfl,⟨Dg.none _,Dg.none _⟩,rfl,nd_zero.symm,rfl,?_⟩
 first
  | exact bR.alloc nR _
  | exact (((bR.alloc nR _).setCell (by simp) _).setCell (by simp) _).setCell (by simp) _
theorem make1_d0 (neg:Bool) (A B:Option Addr) (c d:Nat) (a b:List Int) (w:World) (hA:Dg w A c a) (hB:Dg w B d b) (hn:a.length <= 1000000) (hm:b.length <= 1000000) (x:Nat) (hx:Hid (vl a = x)) (h0:x ≠ 0) (hb0:Hid (vl b = 0)) :
  Calls Tryz.prog 94 #[.bool neg,.slice A a.length c,.slice B b.length d] w (RetFr neg x 1 w):=by
 obtain ⟨j0,hj0,ky0,ky1,ky2⟩:=info_parts u32_info
 have KI:=zH hj0;have KZ0:=zH ky0;have KZ1:=zH ky1;have KZ2:=zH ky2
 clear hj0 ky0 ky1 ky2
 have DA:=zH hA.dig
 have DB:=zH hB.dig
 have ca:=hA.cap
 have cb:=hB.cap
 have NA:=zH hA.nil
 have LA:=zH (fun o=>hA.lies.alloc (w:=w) o)
 have LB:=zH (fun o=>hB.lies.alloc (w:=w) o)
 have hB0:Hid (vl b = (0:Nat)):=zH (by rw [hb0.out];rfl)
 have HZ:Hid ((nd 0).length = 0):=zH (by rw [nd_zero];rfl)
 have DX:=zH (hA.nd hx.out)
 have hlx:=nd_le_len DA.out hx.out
 have hne:(nd x).length ≠ 0:=fun h=>h0 (nd_len_zero.1 h)
 have q0:(((nd x).length:Int) == 0) = false:=beq_eq_false_iff_ne.2 (by omega)
 clear hA hB
 go_enter Tryz.func94,Tryz.ntmps94
 go_wp2_with fail
 refine (trim_any A c a _ (LA.out _) DA ca (by omega) x hx).mono ?_
 rintro e w' ⟨rfl,rfl⟩
 go_wp2_with fail
 refine (trim_any B d b _ (LB.out _) DB cb (by omega) 0 hB0).mono ?_
 rintro e w' ⟨rfl,rfl⟩
 rw [HZ.out]
 go_wp2_with fail
 obtain ⟨W2,hW2⟩:∃ W2:World,W2 = (((w.alloc (.cells #[.bool false,.slice none 0 0,.slice none 0 0] 28)).alloc (.cells #[.int .u32 1] 173)).alloc (.cells #[.int .u32 1] 173)):=⟨_,rfl⟩
 have D2:=zH ((((Led.nil w).make #[.bool false,.slice none 0 0,.slice none 0 0] 28 w.heap.size rfl).make #[.int .u32 1] 173 (w.heap.size + 1) (by simp)).make #[.int .u32 1] 173 (w.heap.size + 2) (by simp))
 rw [<- hW2] at D2 ⊢
 have L2:Hid (Dg W2 A c (nd x)):=zH (by rw [hW2];exact (DX.out.below (((bR.alloc nR _).alloc (by simp) _).alloc (by simp;omega) _)))
 have hs2:w.heap.size + 3 = W2.heap.size:=by rw [hW2];simp
 have f2:W2.frozen? ⟨w.heap.size,0,none⟩ = false /\ W2.frozen? ⟨w.heap.size,1,none⟩ = false /\ W2.frozen? ⟨w.heap.size,2,none⟩ = false:=by rw [hW2];simp [go_sem]
 have HF2:=zH f2
 clear hW2 f2 LA LB DX
 refine (one_lit (some ⟨w.heap.size + 1,0,none⟩) 1 W2 (D2.out.lies 1 _ _ rfl)).mono ?_
 rintro e w' ⟨rfl,rfl⟩
 go_wp2_with fail
 refine (one_lit (some ⟨w.heap.size + 2,0,none⟩) 1 W2 (D2.out.lies 2 _ _ rfl)).mono ?_
 rintro e w' ⟨rfl,rfl⟩
 generalize hxs:nd x = xs at *
 have HXS:=zH hxs
 clear hxs
 have L2':=L2.out
 go_wp2_with (at_builtin;refine wpList_append_srcG _ rfl (.const (.slice none 0 0)) (.tmp 49) _ rfl W2.heap.size 173 j0 _ 1 4 Tryz.underlying26 KI.out KZ0.out KZ1.out KZ2.out rfl (by omega) (.slice none 0 0) 0 [] rfl (World.ownsRow_nil _ _ _ _) A xs.length c (ucs xs) rfl NA.out L2'.lies (by simp) (ucs_one _) (by unfold maxLen;omega) (by omega) nR xs.length (Nat.zero_add _) ?_;intro A4 c4 w4 ho4 hg4 _)
 have hb4:Below W2.heap.size W2 w4:=below_none hg4
 have D4:=zH (D2.out.below hb4)
 obtain ⟨-,hf4⟩:=bcell' hb4
 have r0:=D4.out.cell 0 rfl 0 rfl
 have r1:=D4.out.cell 0 rfl 1 rfl
 have r2:=D4.out.cell 0 rfl 2 rfl
 have s0:w4.frozen? ⟨w.heap.size,0,none⟩ = false:=by rw [hf4 _ _ (by omega)];exact HF2.out.1
 have s1:w4.frozen? ⟨w.heap.size,1,none⟩ = false:=by rw [hf4 _ _ (by omega)];exact HF2.out.2.1
 have s2:w4.frozen? ⟨w.heap.size,2,none⟩ = false:=by rw [hf4 _ _ (by omega)];exact HF2.out.2.2
 have hs4:w.heap.size + 3 <= w4.heap.size:=by have:=hb4.size;omega
 have hlt4:w.heap.size < w4.heap.size:=by omega
 have L4:=zH (D4.out.lies 1 _ _ rfl)
 have HO4:=zH ho4
 simp only [Nat.add_zero,Nat.zero_add] at r0 r1 r2
 clear hb4 hf4 ho4 hg4 L2'
 go_wp2_with fail
 refine (one_lit (some ⟨w.heap.size + 1,0,none⟩) 1 _ (L4.out.alloc _)).mono ?_
 rintro e w' ⟨rfl,rfl⟩
 go_wp2_with fail
 obtain ⟨e0,e1,e2⟩:=box3_alloc (.bool neg) (.slice A4 xs.length c4) (.slice none 0 0) (.cells #[.bool neg,.slice A4 xs.length c4,.slice none 0 0] 28) r0 r1 r2 hlt4
 refine bodyPost_ret (v:=.agg #[.bool neg,.slice A4 xs.length c4,.slice none 0 0]) (by simp [results,Tryz.results94,go_sem,e0,e1,e2]) rfl ?_
 refine ⟨⟨neg,A4,c4,xs,none,0,[]⟩,rfl,⟨own_dg ((ownsRow_far (ownsRow_far (ownsRow_far HO4.out (by simp;omega) _) (by simp;omega) _) (by simp;omega) _).alloc _) (by rw [<- HXS.out];exact dgs_nd _),Dg.none _⟩,rfl,HXS.out.symm,rfl,?_⟩
 exact ((((D4.out.bel).setCell nR _).setCell nR _).setCell nR _).alloc (by simp;omega) _
theorem make1_d1 (neg:Bool) (A B:Option Addr) (c d:Nat) (a b:List Int) (w:World) (hA:Dg w A c a) (hB:Dg w B d b) (hn:a.length <= 1000000) (hm:b.length <= 1000000) (x:Nat) (hx:Hid (vl a = x)) (h0:x ≠ 0) (hb0:Hid (vl b = 1)) :
  Calls Tryz.prog 94 #[.bool neg,.slice A a.length c,.slice B b.length d] w (RetFr neg x 1 w):=by
 obtain ⟨j0,hj0,ky0,ky1,ky2⟩:=info_parts u32_info
 have KI:=zH hj0;have KZ0:=zH ky0;have KZ1:=zH ky1;have KZ2:=zH ky2
 clear hj0 ky0 ky1 ky2
 have DA:=zH hA.dig
 have DB:=zH hB.dig
 have ca:=hA.cap
 have cb:=hB.cap
 have NA:=zH hA.nil
 have LA:=zH (fun o=>hA.lies.alloc (w:=w) o)
 have LB:=zH (fun o=>hB.lies.alloc (w:=w) o)
 have hB0:Hid (vl b = (1:Nat)):=zH (by rw [hb0.out];rfl)
 have HZ:Hid ((nd 1).length = 1):=zH (by rw [nd_one];rfl)
 have LB1:Hid (Dg w B d [1]):=zH (by have:=hB.nd hB0.out;rwa [nd_one] at this)
 have DX:=zH (hA.nd hx.out)
 have hlx:=nd_le_len DA.out hx.out
 have hne:(nd x).length ≠ 0:=fun h=>h0 (nd_len_zero.1 h)
 have q0:(((nd x).length:Int) == 0) = false:=beq_eq_false_iff_ne.2 (by omega)
 clear hA hB
 go_enter Tryz.func94,Tryz.ntmps94
 go_wp2_with fail
 refine (trim_any A c a _ (LA.out _) DA ca (by omega) x hx).mono ?_
 rintro e w' ⟨rfl,rfl⟩
 go_wp2_with fail
 refine (trim_any B d b _ (LB.out _) DB cb (by omega) 1 hB0).mono ?_
 rintro e w' ⟨rfl,rfl⟩
 rw [HZ.out]
 go_wp2_with fail
 obtain ⟨W2,hW2⟩:∃ W2:World,W2 = ((w.alloc (.cells #[.bool false,.slice none 0 0,.slice none 0 0] 28)).alloc (.cells #[.int .u32 1] 173)):=⟨_,rfl⟩
 have D2:=zH ((((Led.nil w).add LB1.out.lies).make #[.bool false,.slice none 0 0,.slice none 0 0] 28 w.heap.size rfl).make #[.int .u32 1] 173 (w.heap.size + 1) (by simp))
 rw [<- hW2] at D2 ⊢
 have L2:Hid (Dg W2 A c (nd x)):=zH (by rw [hW2];exact (DX.out.below ((bR.alloc nR _).alloc (by simp) _)))
 have hs2:w.heap.size + 2 = W2.heap.size:=by rw [hW2];simp
 have f2:W2.frozen? ⟨w.heap.size,0,none⟩ = false /\ W2.frozen? ⟨w.heap.size,1,none⟩ = false /\ W2.frozen? ⟨w.heap.size,2,none⟩ = false:=by rw [hW2];simp [go_sem]
 have HF2:=zH f2
 clear hW2 f2 LA LB DX
 refine (one_lit B d W2 (D2.out.lies 0 _ _ rfl)).mono ?_
 rintro e w' ⟨rfl,rfl⟩
 go_wp2_with fail
 refine (one_lit (some ⟨w.heap.size + 1,0,none⟩) 1 W2 (D2.out.lies 2 _ _ rfl)).mono ?_
 rintro e w' ⟨rfl,rfl⟩
 generalize hxs:nd x = xs at *
 have HXS:=zH hxs
 clear hxs
 have L2':=L2.out
 go_wp2_with (at_builtin;refine wpList_append_srcG _ rfl (.const (.slice none 0 0)) (.tmp 49) _ rfl W2.heap.size 173 j0 _ 1 4 Tryz.underlying26 KI.out KZ0.out KZ1.out KZ2.out rfl (by omega) (.slice none 0 0) 0 [] rfl (World.ownsRow_nil _ _ _ _) A xs.length c (ucs xs) rfl NA.out L2'.lies (by simp) (ucs_one _) (by unfold maxLen;omega) (by omega) nR xs.length (Nat.zero_add _) ?_;intro A4 c4 w4 ho4 hg4 _)
 have hb4:Below W2.heap.size W2 w4:=below_none hg4
 have D4:=zH (D2.out.below hb4)
 obtain ⟨-,hf4⟩:=bcell' hb4
 have r0:=D4.out.cell 1 rfl 0 rfl
 have r1:=D4.out.cell 1 rfl 1 rfl
 have r2:=D4.out.cell 1 rfl 2 rfl
 have s0:w4.frozen? ⟨w.heap.size,0,none⟩ = false:=by rw [hf4 _ _ (by omega)];exact HF2.out.1
 have s1:w4.frozen? ⟨w.heap.size,1,none⟩ = false:=by rw [hf4 _ _ (by omega)];exact HF2.out.2.1
 have s2:w4.frozen? ⟨w.heap.size,2,none⟩ = false:=by rw [hf4 _ _ (by omega)];exact HF2.out.2.2
 have hs4:w.heap.size + 2 <= w4.heap.size:=by have:=hb4.size;omega
 have hlt4:w.heap.size < w4.heap.size:=by omega
 have L4:=zH (D4.out.lies 0 _ _ rfl)
 have HO4:=zH ho4
 simp only [Nat.add_zero,Nat.zero_add] at r0 r1 r2
 clear hb4 hf4 ho4 hg4 L2'
 go_wp2_with fail
 refine (one_lit B d _ (L4.out.alloc _)).mono ?_
 rintro e w' ⟨rfl,rfl⟩
 go_wp2_with fail
 obtain ⟨e0,e1,e2⟩:=box3_alloc (.bool neg) (.slice A4 xs.length c4) (.slice none 0 0) (.cells #[.bool neg,.slice A4 xs.length c4,.slice none 0 0] 28) r0 r1 r2 hlt4
 refine bodyPost_ret (v:=.agg #[.bool neg,.slice A4 xs.length c4,.slice none 0 0]) (by simp [results,Tryz.results94,go_sem,e0,e1,e2]) rfl ?_
 refine ⟨⟨neg,A4,c4,xs,none,0,[]⟩,rfl,⟨own_dg ((ownsRow_far (ownsRow_far (ownsRow_far HO4.out (by simp;omega) _) (by simp;omega) _) (by simp;omega) _).alloc _) (by rw [<- HXS.out];exact dgs_nd _),Dg.none _⟩,rfl,HXS.out.symm,rfl,?_⟩
 exact ((((D4.out.bel).setCell nR _).setCell nR _).setCell nR _).alloc (by simp;omega) _
theorem make1_one (neg:Bool) (A B:Option Addr) (c d:Nat) (a b:List Int) (w:World) (hA:Dg w A c a) (hB:Dg w B d b) (hn:a.length <= 1000000) (hm:b.length <= 1000000) (x:Nat) (hx:Hid (vl a = x)) (hb0:Hid (vl b = 0 ∨ vl b = 1)) :
  Calls Tryz.prog 94 #[.bool neg,.slice A a.length c,.slice B b.length d] w (RetFr (neg && decide (x ≠ 0)) x 1 w):=by
 by_cases h0:x = 0
 ·subst h0
  simpa using make1_zero neg A B c d a b w hA hB hn hm (zH (by rw [hx.out];rfl))
 ·have e:(neg && decide (x ≠ 0)) = neg:=by simp [h0]
  rw [e]
  rcases hb0.out with h | h
  ·exact make1_d0 neg A B c d a b w hA hB hn hm x hx h0 (zH h)
  ·exact make1_d1 neg A B c d a b w hA hB hn hm x hx h0 (zH h)
theorem set_app {out l:List Int} {i:Nat} (ho:out.length = i) (hi:i < l.length) (t:Int):(out ++ l.drop i).set i t = (out ++ [t]) ++ l.drop (i + 1):=by
 rw [List.set_append_right _ _ (by omega),ho,Nat.sub_self,List.drop_eq_getElem_cons hi,List.set_cons_zero,List.append_assoc]
 rfl
theorem get_app {out l:List Int} {i:Nat} (ho:out.length = i) (k:Nat) (hk:i <= k):(out ++ l.drop i)[k]?.getD 0 = l[k]?.getD 0:=by
 rw [List.getElem?_append_right (by omega),ho,List.getElem?_drop]
 congr 2;omega
theorem len_app {out l:List Int} {i:Nat} (ho:out.length = i) (hi:i <= l.length):(out ++ l.drop i).length = l.length:=by simp;omega
theorem own_cellU {w:World} {base g n c:Nat} {l:List Int} (h:w.ownsRow base 173 1 (.slice (some ⟨g,0,none⟩) n c) n (ucs l)) (hl:l.length = n) {k:Nat} (hk:k < n):w.cell? ⟨g,k,none⟩ = some (.int .u32 (l[k]?.getD 0)) /\ w.frozen? ⟨g,k,none⟩ = false:=
 ⟨by rw [h.cellAt k (by omega)];simp only [List.getElem?_map,gE (show k < l.length by omega)];rfl,h.frozenAt k⟩
theorem own_setU {w:World} {base g n c:Nat} {l:List Int} (h:w.ownsRow base 173 1 (.slice (some ⟨g,0,none⟩) n c) n (ucs l)) (k:Nat) (v:Int):(w.setCell ⟨g,k,none⟩ (.int .u32 v)).ownsRow base 173 1 (.slice (some ⟨g,0,none⟩) n c) n (ucs (l.set k v)):=by
 have hst:=h.stored k (.int .u32 v)
 rw [<- List.map_set] at hst
 exact hst.1
theorem own_trimo {w:World} {base n c:Nat} {A:Option Addr} {l:List Int} (h:w.ownsRow base 173 1 (.slice A n c) n (ucs l)) (hl:l.length = n) (hd:dgs l) (hn:n <= 1000000) {v:Nat} (hv:vl l = v):Calls Tryz.prog 126 #[.slice A n c] w (URet (nd v) w):=by
 subst hl
 exact xtrim_own A c l w (own_dg h hd) hn v (zH hv)
theorem own_trim {w:World} {base n c:Nat} {A:Option Addr} {l:List Int} (h:w.ownsRow base 173 1 (.slice A n c) n (ucs l)) (hl:l.length = n) (hd:dgs l) (hn:n <= 1000000) {v:Nat} (hv:vl l = v):Calls Tryz.prog 126 #[.slice A n c] w (RetNd v w):=by
 subst hl
 exact xtrim_any A c l w (own_dg h hd) hn v (zH hv)
theorem xadd_any (A B:Option Addr) (c d:Nat) (a b:List Int) (w:World) (hA:Dg w A c a) (hB:Dg w B d b) (hn:a.length <= 900000) (hm:b.length <= 900000)
  (v:Nat) (hv:Hid (vl a + vl b = v)) :
  Calls Tryz.prog 131 #[.slice A a.length c,.slice B b.length d] w (RetNd v w):=by
 obtain ⟨N,hN⟩:∃ N:Nat,N = max a.length b.length:=⟨_,rfl⟩
 obtain ⟨w1,hmk,ho1,hb1⟩:=make_u32 w (N + 1) (by omega) w.heap.size nR
 have hmx:max (a.length:Int) (b.length:Int) = (N:Int):=by omega
 have e2:((N + 1:Nat):Int) = (N:Int) + 1:=by simp
 rw [e2] at hmk
 obtain ⟨g,hg⟩:∃ g,g = w.heap.size:=⟨_,rfl⟩
 rw [<- hg] at ho1 hmk
 have HG:Hid (w.heap.size <= g):=by show _ <= _;omega
 have HST:=zH (PlusAt.start a b)
 have la:a.length <= N:=by omega
 have lb:b.length <= N:=by omega
 have da:=zH hA.dig
 have db:=zH hB.dig
 have LA:=zH hA.lies
 have LB:=zH hB.lies
 have NB:N <= 900000:=by omega
 clear hg e2 hA hB hN
 go_enter Tryz.func131,Tryz.ntmps131
 go_wp2_with fail
 clear hmk hmx
 go_loopw [6,7,17] (fun cy _ i wr=>∃ k:Nat,k <= N + 1 /\ i = .int .i64 k /\ ∃ out q,Hid (PlusAt a b out k q) /\ cy = .int .u64 q /\ wr.ownsRow g 173 1 (.slice (some ⟨g,0,none⟩) (N + 1) (N + 1)) (N + 1) (ucs (out ++ (List.replicate (N + 1) 0).drop k)) /\ Below w.heap.size w wr) (fun _ _ i _=>N + 1 - (intOf i).toNat)
 case atStart=>exact ⟨0,by omega,rfl,[],0,HST,rfl,by simpa using ho1,hb1⟩
 case round=>
  obtain ⟨k,hk,rfl,out,q,HM,rfl,r1,r2⟩:=hrel
  clear HST ho1
  have h0:=HM.out.c0
  have h1:=HM.out.c1
  have hol:=HM.out.len
  by_cases hlt:k < N + 1
  ·have HA:=zH (LA.out.below r2)
   have HB:=zH (LB.out.below r2)
   have d1:=dgs_at da.out k
   have d2:=dgs_at db.out k
   have HN:=zH (fun t ht=>HM.out.next da.out db.out (t:=t) ht)
   have hq:=own_cellU r1 (by rw [len_app hol (by simp;omega)];simp) hlt
   rw [get_app hol k nR] at hq
   have hz:(List.replicate (N + 1) (0:Int))[k]?.getD 0 = 0:=by rw [List.getElem?_replicate];split <;> rfl
   rw [hz] at hq
   obtain ⟨q1,q2⟩:=hq
   have HS:Hid (∀ t,(out ++ (List.replicate (N + 1) 0).drop k).set k t = (out ++ [t]) ++ (List.replicate (N + 1) 0).drop (k + 1)):=zH (fun t=>set_app hol (by simp;omega) t)
   have HO:=zH r1
   have HR2:=zH r2
   clear r1 r2 hz hol
   have fin:∀ t,t = q + a[k]?.getD 0 + b[k]?.getD 0 -> ∀ W,(wr.setCell ⟨g,k,none⟩ (.int .u32 (t % 4294967296))) = W -> (∃ k':Nat,k' <= N + 1 /\ Value.int .i64 (k + 1:Int) = .int .i64 k' /\ ∃ out q,Hid (PlusAt a b out k' q) /\ Value.int .u64 (t / 4294967296) = .int .u64 q /\ W.ownsRow g 173 1 (.slice (some ⟨g,0,none⟩) (N + 1) (N + 1)) (N + 1) (ucs (out ++ (List.replicate (N + 1) 0).drop k')) /\ Below w.heap.size w W):=by
    rintro t ht W rfl
    refine ⟨k + 1,by omega,by simp,_,_,zH (HN.out t ht),rfl,?_,HR2.out.setCell HG.out _⟩
    rw [<- HS.out]
    exact own_setU HO.out k _
   have FIN:=zH fin
   clear fin
   by_cases hka:k < a.length
   ·obtain ⟨b1,o1,rfl,hb1,hc1⟩:=HA.out.uat hka
    by_cases hkb:k < b.length
    ·obtain ⟨b2,o2,rfl,hb2,hc2⟩:=HB.out.uat hkb
     have F:=zH (FIN.out _ rfl _ rfl)
     clear FIN
     generalize a[k]?.getD 0 = x at *
     generalize b[k]?.getD 0 = y at *
     go_wp2_with fail
     exact ⟨F.out,by simp [intOf];omega⟩
    ·have hy:b[k]?.getD 0 = 0:=by rw [List.getElem?_eq_none (by omega)];rfl
     have F:=zH (FIN.out _ rfl _ rfl)
     rw [hy,Int.add_zero] at F
     clear FIN hy
     generalize a[k]?.getD 0 = x at *
     go_wp2_with fail
     exact ⟨F.out,by simp [intOf];omega⟩
   ·have hx:a[k]?.getD 0 = 0:=by rw [List.getElem?_eq_none (by omega)];rfl
    by_cases hkb:k < b.length
    ·obtain ⟨b2,o2,rfl,hb2,hc2⟩:=HB.out.uat hkb
     have F:=zH (FIN.out _ rfl _ rfl)
     rw [hx,Int.add_zero] at F
     clear FIN hx
     generalize b[k]?.getD 0 = y at *
     go_wp2_with fail
     exact ⟨F.out,by simp [intOf];omega⟩
    ·have hy:b[k]?.getD 0 = 0:=by rw [List.getElem?_eq_none (by omega)];rfl
     have F:=zH (FIN.out _ rfl _ rfl)
     rw [hx,hy,Int.add_zero,Int.add_zero,show q % 4294967296 = q by omega] at F
     clear FIN hx hy
     go_wp2_with fail
     exact ⟨F.out,by simp [intOf];omega⟩
  ·obtain rfl:k = N + 1:=by omega
   have VV:Hid (vl out = v):=zH (by
    have hval:=HM.out.val
    rw [List.take_of_length_le (show a.length <= N + 1 by omega),List.take_of_length_le (show b.length <= N + 1 by omega)] at hval
    have e1:=nd_len_add (vl a).toNat (vl b).toNat N (Nat.le_trans (nd_le_len da.out (by have:=vl_nonneg da.out;omega)) la) (Nat.le_trans (nd_le_len db.out (by have:=vl_nonneg db.out;omega)) lb)
    have e2:v < 4294967296 ^ (N + 1):=by
     have a0:=vl_nonneg da.out
     have b0:=vl_nonneg db.out
     have e3:(vl a).toNat + (vl b).toNat = v:=by have:=hv.out;omega
     rw [e3] at e1
     exact Nat.lt_of_lt_of_le (nd_lt v) (Nat.pow_le_pow_right (by decide) e1)
    have e4:=vl_nonneg HM.out.dig
    rw [BB_nat] at hval
    have:=hv.out
    rcases (show q = 0 ∨ q = 1 by omega) with rfl | rfl
    ·simp at hval;omega
    ·exfalso;rw [Int.mul_one] at hval;omega)
   have HT:=zH (own_trim r1 (by rw [len_app hol (by simp)];simp) (by rw [List.drop_eq_nil_of_le (by simp),List.append_nil];exact HM.out.dig) (by omega) (v:=v) (by rw [List.drop_eq_nil_of_le (by simp),List.append_nil];exact VV.out))
   have HR2:=zH r2
   clear r1 r2 hol
   go_wp2_with fail
   refine HT.out.mono ?_
   rintro e w' ⟨A2,c2,rfl,t1,t2,t3,t4⟩
   go_wp2_with fail
   go_ret
   exact ⟨A2,c2,rfl,t1,t2,t3,HR2.out.trans (t4.mono HR2.out.size)⟩
end Go.Proofs.YtcjicjfbippmnaaGreat
