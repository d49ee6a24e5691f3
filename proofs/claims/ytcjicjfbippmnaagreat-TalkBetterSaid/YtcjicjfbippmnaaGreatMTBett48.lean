/- TalkBetter -/
import Derived.Test.YtcjicjfbippmnaaGreatMTBett46
set_option maxRecDepth 100000
set_option maxHeartbeats 32000000
namespace Go.Proofs.YtcjicjfbippmnaaGreat
open Go.RowKit Ear

def isFr (base:Nat) (Fm:List FlM):Value -> World -> Prop:=fun v u=>∃ A c,v = .slice A Fm.length c /\ Hid (u.ownsRow base 76 3 (.slice A Fm.length c) Fm.length (Yg Fm))
theorem Keeps.isFr (base:Nat) (Fm:List FlM):Keeps (isFr base Fm):=fun _ _ _ ⟨A,c,h1,h2⟩ hb=>⟨A,c,h1,zH (Jg h2.out hb)⟩
def isSd (base:Nat) (Fm:List FlM) (D:PDl):Value -> World -> Prop:=fun v u=>∃ A c,v = .agg #[.slice A Fm.length c,.int .i64 D.bad,.bool (D.stand == 1),.bool (D.stand == 2),.int .i64 D.cuts] /\ Hid (u.ownsRow base 76 3 (.slice A Fm.length c) Fm.length (Yg Fm))
theorem Keeps.isSd (base:Nat) (Fm:List FlM) (D:PDl):Keeps (isSd base Fm D):=fun _ _ _ ⟨A,c,h1,h2⟩ hb=>⟨A,c,h1,zH (Jg h2.out hb)⟩
def isSb (base:Nat):Value -> World -> Prop:=fun v u=>∃ k,v = .pointer (some ⟨k,0,none⟩) /\ base <= k /\ Hid (u.heap[k]? = some (.cells #[.slice none 0 0,.int .i64 0,.bool false,.bool false,.int .i64 0] 65 (0,0)))
theorem Keeps.isSb (base:Nat):Keeps (isSb base):=fun _ _ _ ⟨k,h1,h2,h3⟩ hb=>⟨k,h1,h2,zH ((hb.block k (aE h3.out).1).trans h3.out)⟩
theorem Zhc (Fm:List FlM):∀ u ∈ Yg Fm,u.oneCell' = true:=by
 intro u hu;obtain ⟨g,_,hg⟩:=List.mem_flatMap.1 hu;simp [flc] at hg;rcases hg with rfl | rfl | rfl <;> rfl
theorem Zde (O R:List FlM) (x:FlM):Yg (O ++ x :: R) = Yg O ++ (.int .i64 x.st :: .string x.val :: .slice x.A x.ref.length x.c :: Yg R):=by simp [Yg,flc]
theorem Zhd {O R:List FlM} {x:FlM} {k j:Nat} (hO:O.length = k) (hj:j < 3):(Yg (O ++ x :: R))[k * 3 + j]? = (flc x)[j]?:=by
 have h:=Vy (O ++ x :: R) (k:=k) (by simp;omega) j hj;rw [h];congr 2;subst hO;simp
theorem ZfE {O R:List FlM} {x y:FlM} {k:Nat} (hO:O.length = k) (h1:y.st = x.st) (h2:y.val = x.val):(Yg (O ++ x :: R)).set (k * 3 + 2) (.slice y.A y.ref.length y.c) = Yg (O ++ y :: R):=by
 have hl:(Yg O).length = k * 3:=by rw [Yz,hO]
 rw [Zde,Zde,List.set_append_right _ _ (by omega),hl,show k * 3 + 2 - k * 3 = 2 by omega];simp [h1,h2]
def Zj4 (D:PDl) (w:World) (e:Ending) (w':World):Prop:=
 ∃ A c Fm,e = .returned (.tuple #[.agg #[.slice A (Fm:List FlM).length c,.int .i64 D.bad,.bool (D.stand == 1),.bool (D.stand == 2),.int .i64 D.cuts],.int .i64 0]) /\ w'.ownsRow w.heap.size 76 3 (.slice A Fm.length c) Fm.length (Yg Fm) /\
  (∀ f ∈ Fm,w'.ownsRow w.heap.size 9 1 (.slice f.A f.ref.length f.c) f.ref.length (sbs f.ref)) /\ Fm.map FlM.pure = D.F /\ Below w.heap.size w w'
theorem Zf5 (bs:Nat) (a:DlA) (D:PDl) (w:World) (h:DlM w bs a D) (hn:a.Fm.length <= 1000000) (hrf:Hid (∀ f ∈ a.Fm,f.ref.length <= 1000000)):Calls Tryz.prog 35 #[.pointer (some ⟨a.q,0,none⟩)] w (Zj4 D w):=by
 obtain ⟨W0,hW0⟩:∃ W0:World,W0 = w.alloc (.cells #[.slice none 0 0,.int .i64 0,.bool false,.bool false,.int .i64 0] 65):=⟨_,rfl⟩;have HB0:Hid (Below w.heap.size w W0):=zH (by rw [hW0];exact bR.alloc nR _);have HX0:Hid (W0.heap[w.heap.size]? = some (.cells #[.slice none 0 0,.int .i64 0,.bool false,.bool false,.int .i64 0] 65 (0,0))):=zH (by rw [hW0];exact heap_alloc_new w _);have HD0:=zH (h.below HB0.out);have hpos:=h.pos;clear h;go_enter Tryz.func35,Tryz.ntmps35;go_wp2_with fail;rw [<- hW0];clear hW0;refine (ZD bs a D W0 HD0.out).mono ?_;rintro e W1 ⟨rfl,hw⟩;subst hw;have HD:=HD0;have C1:Hid (∀ u,Below W1.heap.size W1 u -> Calls Tryz.prog 92 #[.slice (some ⟨a.gF,0,none⟩) a.Fm.length a.fc] u fun e w'=>∃ A' c',e = .returned (.slice A' a.Fm.length c') /\ w'.ownsRow u.heap.size 76 3 (.slice A' a.Fm.length c') a.Fm.length (Yg a.Fm) /\ RowKit.Below u.heap.size u w'):=zH (fun u hu=>ZbN (some ⟨a.gF,0,none⟩) a.fc a.Fm.length (Yg a.Fm) u (Lies.of_own (HD.out.below hu).row) (Yz _) (Zhc _) (fun e=>by cases e) hn);go_upto_region 3 with fail;refine Je 25 54 rfl (by kernel_rfl) (by kernel_rfl) (by kernel_rfl) (by kernel_rfl) (fun u=>Below W1.heap.size W1 u) (fun u u'=>Below u.heap.size u u') (Gl [isV (.pointer (some ⟨a.q,0,none⟩)),isV (.pointer (some ⟨a.q,0,none⟩)),isV (.pointer (some ⟨a.q,4,none⟩)),isV (.slice (some ⟨a.gF,0,none⟩) a.Fm.length a.fc),isFr W1.heap.size a.Fm,isV (.pointer (some ⟨a.q,0,none⟩)),isV (.pointer (some ⟨a.q,0,none⟩)),isV (.pointer (some ⟨a.q,6,none⟩)),isV (.int .i64 D.bad),isV (.pointer (some ⟨a.q,0,none⟩)),isV (.pointer (some ⟨a.q,0,none⟩)),isV (.pointer (some ⟨a.q,5,none⟩)),isV (.int .i64 D.stand),isV (.bool (D.stand == 1)),isV (.pointer (some ⟨a.q,0,none⟩)),isV (.pointer (some ⟨a.q,0,none⟩)),isV (.pointer (some ⟨a.q,5,none⟩)),isV (.int .i64 D.stand),isV (.bool (D.stand == 2)),isV (.pointer (some ⟨a.q,0,none⟩)),isV (.pointer (some ⟨a.q,0,none⟩)),isV (.pointer (some ⟨a.q,7,none⟩)),isV (.int .i64 D.cuts),isSd W1.heap.size a.Fm D,isSb W1.heap.size]) (Gl.keep (by
   intro p hp;simp only [List.mem_cons,List.not_mem_nil,or_false] at hp;rcases hp with rfl | rfl | rfl | rfl | rfl | rfl | rfl | rfl | rfl | rfl | rfl | rfl | rfl | rfl | rfl | rfl | rfl | rfl | rfl | rfl | rfl | rfl | rfl | rfl | rfl
   ·exact Keeps.isV _
   ·exact Keeps.isV _
   ·exact Keeps.isV _
   ·exact Keeps.isV _
   ·exact Keeps.isFr _ _
   ·exact Keeps.isV _
   ·exact Keeps.isV _
   ·exact Keeps.isV _
   ·exact Keeps.isV _
   ·exact Keeps.isV _
   ·exact Keeps.isV _
   ·exact Keeps.isV _
   ·exact Keeps.isV _
   ·exact Keeps.isV _
   ·exact Keeps.isV _
   ·exact Keeps.isV _
   ·exact Keeps.isV _
   ·exact Keeps.isV _
   ·exact Keeps.isV _
   ·exact Keeps.isV _
   ·exact Keeps.isV _
   ·exact Keeps.isV _
   ·exact Keeps.isV _
   ·exact Keeps.isSd _ _ _
   ·exact Keeps.isSb _)) ?_ ?_ ?_
 ·exact (Below.refl _ W1).drew
 ·simp only [List.pop_toArray,List.dropLast,Jl];refine ⟨?_,?_,?_,?_,?_,?_,?_,?_,?_,?_,?_,?_,?_,?_,?_,?_,?_,?_,?_,?_,?_,?_,?_,?_,?_,trivial⟩
  ·intro bb u su dp kp K hK;have e0:gT bb 0 = .pointer (some ⟨a.q,0,none⟩):=kp 0 (by kernel_rfl);go_simp;exact hK _ _ su bR rfl
  ·intro bb u su dp kp K hK;have e10:gT bb 10 = .pointer (some ⟨a.q,0,none⟩):=dp 0 _ rfl (by kernel_rfl);go_simp;exact hK _ _ su bR rfl
  ·intro bb u su dp kp K hK;have e11:gT bb 11 = .pointer (some ⟨a.q,0,none⟩):=dp 1 _ rfl (by kernel_rfl);go_simp;exact hK _ _ su bR rfl
  ·intro bb u su dp kp K hK;have e12:gT bb 12 = .pointer (some ⟨a.q,4,none⟩):=dp 2 _ rfl (by kernel_rfl);obtain ⟨c0,c1,c2,c3,c4,c5,c6,c7,c8,c9⟩:=(HD.out.below su).cells;go_simp;exact hK _ _ su bR rfl
  ·intro bb u su dp kp K hK;have e13:gT bb 13 = .slice (some ⟨a.gF,0,none⟩) a.Fm.length a.fc:=dp 3 _ rfl (by kernel_rfl);go_simp;refine (C1.out u su).mono ?_;rintro e u' ⟨A9,c9,rfl,h9,hb⟩;go_simp;exact hK _ _ (su.trans (hb.mono su.size)) hb ⟨A9,c9,rfl,zH (Jw h9 su.size)⟩
  ·intro bb u su dp kp K hK;have e0:gT bb 0 = .pointer (some ⟨a.q,0,none⟩):=kp 0 (by kernel_rfl);go_simp;exact hK _ _ su bR rfl
  ·intro bb u su dp kp K hK;have e15:gT bb 15 = .pointer (some ⟨a.q,0,none⟩):=dp 5 _ rfl (by kernel_rfl);go_simp;exact hK _ _ su bR rfl
  ·intro bb u su dp kp K hK;have e16:gT bb 16 = .pointer (some ⟨a.q,0,none⟩):=dp 6 _ rfl (by kernel_rfl);go_simp;exact hK _ _ su bR rfl
  ·intro bb u su dp kp K hK;have e17:gT bb 17 = .pointer (some ⟨a.q,6,none⟩):=dp 7 _ rfl (by kernel_rfl);obtain ⟨c0,c1,c2,c3,c4,c5,c6,c7,c8,c9⟩:=(HD.out.below su).cells;go_simp;exact hK _ _ su bR rfl
  ·intro bb u su dp kp K hK;have e0:gT bb 0 = .pointer (some ⟨a.q,0,none⟩):=kp 0 (by kernel_rfl);go_simp;exact hK _ _ su bR rfl
  ·intro bb u su dp kp K hK;have e19:gT bb 19 = .pointer (some ⟨a.q,0,none⟩):=dp 9 _ rfl (by kernel_rfl);go_simp;exact hK _ _ su bR rfl
  ·intro bb u su dp kp K hK;have e20:gT bb 20 = .pointer (some ⟨a.q,0,none⟩):=dp 10 _ rfl (by kernel_rfl);go_simp;exact hK _ _ su bR rfl
  ·intro bb u su dp kp K hK;have e21:gT bb 21 = .pointer (some ⟨a.q,5,none⟩):=dp 11 _ rfl (by kernel_rfl);obtain ⟨c0,c1,c2,c3,c4,c5,c6,c7,c8,c9⟩:=(HD.out.below su).cells;go_simp;exact hK _ _ su bR rfl
  ·intro bb u su dp kp K hK;have e22:gT bb 22 = .int .i64 D.stand:=dp 12 _ rfl (by kernel_rfl);go_simp;exact hK _ _ su bR rfl
  ·intro bb u su dp kp K hK;have e0:gT bb 0 = .pointer (some ⟨a.q,0,none⟩):=kp 0 (by kernel_rfl);go_simp;exact hK _ _ su bR rfl
  ·intro bb u su dp kp K hK;have e24:gT bb 24 = .pointer (some ⟨a.q,0,none⟩):=dp 14 _ rfl (by kernel_rfl);go_simp;exact hK _ _ su bR rfl
  ·intro bb u su dp kp K hK;have e25:gT bb 25 = .pointer (some ⟨a.q,0,none⟩):=dp 15 _ rfl (by kernel_rfl);go_simp;exact hK _ _ su bR rfl
  ·intro bb u su dp kp K hK;have e26:gT bb 26 = .pointer (some ⟨a.q,5,none⟩):=dp 16 _ rfl (by kernel_rfl);obtain ⟨c0,c1,c2,c3,c4,c5,c6,c7,c8,c9⟩:=(HD.out.below su).cells;go_simp;exact hK _ _ su bR rfl
  ·intro bb u su dp kp K hK;have e27:gT bb 27 = .int .i64 D.stand:=dp 17 _ rfl (by kernel_rfl);go_simp;exact hK _ _ su bR rfl
  ·intro bb u su dp kp K hK;have e0:gT bb 0 = .pointer (some ⟨a.q,0,none⟩):=kp 0 (by kernel_rfl);go_simp;exact hK _ _ su bR rfl
  ·intro bb u su dp kp K hK;have e29:gT bb 29 = .pointer (some ⟨a.q,0,none⟩):=dp 19 _ rfl (by kernel_rfl);go_simp;exact hK _ _ su bR rfl
  ·intro bb u su dp kp K hK;have e30:gT bb 30 = .pointer (some ⟨a.q,0,none⟩):=dp 20 _ rfl (by kernel_rfl);go_simp;exact hK _ _ su bR rfl
  ·intro bb u su dp kp K hK;have e31:gT bb 31 = .pointer (some ⟨a.q,7,none⟩):=dp 21 _ rfl (by kernel_rfl);obtain ⟨c0,c1,c2,c3,c4,c5,c6,c7,c8,c9⟩:=(HD.out.below su).cells;go_simp;exact hK _ _ su bR rfl
  ·intro bb u su dp kp K hK;obtain ⟨A9,c9,e14,D14⟩:∃ A c,gT bb 14 = .slice A a.Fm.length c /\ Hid (u.ownsRow W1.heap.size 76 3 (.slice A a.Fm.length c) a.Fm.length (Yg a.Fm)):=dp 4 _ rfl (by kernel_rfl);have e18:gT bb 18 = .int .i64 D.bad:=dp 8 _ rfl (by kernel_rfl);have e23:gT bb 23 = .bool (D.stand == 1):=dp 13 _ rfl (by kernel_rfl);have e28:gT bb 28 = .bool (D.stand == 2):=dp 18 _ rfl (by kernel_rfl);have e32:gT bb 32 = .int .i64 D.cuts:=dp 22 _ rfl (by kernel_rfl);have f14:=e14;rw [gT,Array.getD_eq_getD_getElem?] at f14;have f18:=e18;rw [gT,Array.getD_eq_getD_getElem?] at f18;have f23:=e23;rw [gT,Array.getD_eq_getD_getElem?] at f23;have f28:=e28;rw [gT,Array.getD_eq_getD_getElem?] at f28;have f32:=e32;rw [gT,Array.getD_eq_getD_getElem?] at f32;go_simp;exact hK _ _ su bR ⟨A9,c9,rfl,D14⟩
  ·intro bb u su dp kp K hK;go_simp;exact hK _ _ (su.alloc su.size _) (bR.alloc nR _) ⟨u.heap.size,rfl,su.size,zH (heap_alloc_new u _)⟩
 ·intro bb u hN hdf su hG sm;obtain ⟨A9,c9,e33,D33⟩:∃ A c,gT bb 33 = .agg #[.slice A a.Fm.length c,.int .i64 D.bad,.bool (D.stand == 1),.bool (D.stand == 2),.int .i64 D.cuts] /\ Hid (u.ownsRow W1.heap.size 76 3 (.slice A a.Fm.length c) a.Fm.length (Yg a.Fm)):=hG 23 _ rfl;obtain ⟨kb,e4,hkb,D4⟩:∃ k,gT bb 4 = .pointer (some ⟨k,0,none⟩) /\ W1.heap.size <= k /\ Hid (u.heap[k]? = some (.cells #[.slice none 0 0,.int .i64 0,.bool false,.bool false,.int .i64 0] 65 (0,0))):=hG 24 _ rfl;rw [JD bb _ [false,false,false,false,true,false,false,false,false,false,true,true,true,true,true,true,true,true,true,true,true,true,true,true,true,true,true,true,true,true,true,true,true,true,false,false,false,false,false,false,false,false,false,false,false,false,false,false,false,false,false,false,false,false] _ rfl hN rfl (by kernel_rfl) hdf sm];simp only [Z5,Nat.reduceAdd,e33,e4];clear e33 e4 hG sm hN hdf;generalize gT bb 10 = z10,gT bb 11 = z11,gT bb 12 = z12,gT bb 13 = z13,gT bb 14 = z14,gT bb 15 = z15,gT bb 16 = z16,gT bb 17 = z17,gT bb 18 = z18,gT bb 19 = z19,gT bb 20 = z20,gT bb 21 = z21,gT bb 22 = z22,gT bb 23 = z23,gT bb 24 = z24,gT bb 25 = z25,gT bb 26 = z26,gT bb 27 = z27,gT bb 28 = z28,gT bb 29 = z29,gT bb 30 = z30,gT bb 31 = z31,gT bb 32 = z32;have HSu:=zH su;have HBX:Hid (kb < u.heap.size):=zH (aE D4.out).1;obtain ⟨g9,cap9,hv9,hg9,hl9⟩:=D33.out.form hpos;injection hv9 with e1 _ e3
  subst e1 e3;have t0:=(cR 0 D4.out).trans rfl;have t1:=(cR 1 D4.out).trans rfl;have t2:=(cR 2 D4.out).trans rfl;have t3:=(cR 3 D4.out).trans rfl;have t4:=(cR 4 D4.out).trans rfl;have f0:=Jm D4.out 0;have f1:=Jm D4.out 1;have f2:=Jm D4.out 2;have f3:=Jm D4.out 3;have f4:=Jm D4.out 4;clear su;refine PopQ.last rfl rfl (fun K hK=>?_);go_simp;refine hK _ _ ?_;clear hK K;obtain ⟨U,hU⟩:∃ U,U = ((((u.setCell ⟨kb,0,none⟩ (.slice (some ⟨g9,0,none⟩) a.Fm.length c9)).setCell ⟨kb,1,none⟩ (.int .i64 D.bad)).setCell ⟨kb,2,none⟩ (.bool (D.stand == 1))).setCell ⟨kb,3,none⟩ (.bool (D.stand == 2))).setCell ⟨kb,4,none⟩ (.int .i64 D.cuts):=⟨_,rfl⟩;rw [<- hU];have HKB:Hid (U.heap[kb]? = some (.cells #[.slice (some ⟨g9,0,none⟩) a.Fm.length c9,.int .i64 D.bad,.bool (D.stand == 1),.bool (D.stand == 2),.int .i64 D.cuts] 65 (0,0))):=zH (by
   rw [hU];exact (JM (JM (JM (JM (JM D4.out 0 _) 1 _) 2 _) 3 _) 4 _).trans rfl)
  have hoth:∀ b,b ≠ kb -> U.heap[b]? = u.heap[b]?:=fun b hb=>by
   rw [hU];exact (Below.heap_setCell _ _ _ _ hb).trans ((Below.heap_setCell _ _ _ _ hb).trans ((Below.heap_setCell _ _ _ _ hb).trans ((Below.heap_setCell _ _ _ _ hb).trans (Below.heap_setCell _ _ _ _ hb))))
  have hUs:U.heap.size = u.heap.size:=by rw [hU];simp [World.setCell]
  have hbf:BT u g9 76:=BT.of_own D33.out rfl;have hne:g9 ≠ kb:=hbf.ne ⟨_,_,D4.out⟩ (by decide);have HRW:Hid (U.ownsRow W1.heap.size 76 3 (.slice (some ⟨g9,0,none⟩) a.Fm.length c9) a.Fm.length (Yg ([] ++ a.Fm.drop 0))):=zH (by
   have hgr:u.grownBy U (some kb):=⟨by rw [hU];rfl,by rw [hU];rfl,by rw [hU];rfl,by omega,fun b _ hb=>hoth b (by intro e;rw [e] at hb;exact hb rfl)⟩;exact Jq D33.out hgr (fun b hb e=>by injection e with e;subst e;exact (BT.of_own D33.out hb).ne ⟨_,_,D4.out⟩ (by decide) rfl))
  have HBU:Hid (Below W1.heap.size W1 U):=zH (by
   rw [hU];exact ((((HSu.out.setCell hkb _).setCell hkb _).setCell hkb _).setCell hkb _).setCell hkb _)
  have HE0:Hid (∀ f ∈ ([]:List FlM),U.ownsRow W1.heap.size 9 1 (.slice f.A f.ref.length f.c) f.ref.length (sbs f.ref)):=zH (by simp);have HP0:Hid (([]:List FlM).map FlM.pure = (a.Fm.take 0).map FlM.pure):=zH rfl;have k0:=(cR 0 HKB.out).trans rfl;clear hU hoth hUs hbf hne t0 t1 t2 t3 t4 f0 f1 f2 f3 f4 D4 D33 HSu HBX C1;go_wp2_with fail;clear k0;go_loopw [37] (fun t wr=>∃ (k:Nat) (O:List FlM),k <= a.Fm.length /\ t = .int .i64 k /\ Hid (O.length = k) /\ Hid (wr.ownsRow W1.heap.size 76 3 (.slice (some ⟨g9,0,none⟩) a.Fm.length c9) a.Fm.length (Yg (O ++ a.Fm.drop k))) /\ Hid (∀ f ∈ O,wr.ownsRow W1.heap.size 9 1 (.slice f.A f.ref.length f.c) f.ref.length (sbs f.ref)) /\ Hid (O.map FlM.pure = (a.Fm.take k).map FlM.pure) /\ Hid (wr.heap[kb]? = some (.cells #[.slice (some ⟨g9,0,none⟩) a.Fm.length c9,.int .i64 D.bad,.bool (D.stand == 1),.bool (D.stand == 2),.int .i64 D.cuts] 65 (0,0))) /\ Hid (Below W1.heap.size W1 wr)) (fun t _=>a.Fm.length - (intOf t).toNat)
  case atStart=>exact ⟨0,[],by omega,rfl,zH rfl,HRW,HE0,HP0,HKB,HBU⟩
  case round=>
   obtain ⟨k,O,hk,rfl,HL,HR,HE,HP,HK,HB⟩:=hrel;clear HRW HE0 HP0 HKB HBU;have hsr:=HB.out.size;by_cases hlt:k < a.Fm.length
   ·have hlt':(k:Int) < (a.Fm.length:Int):=(by omega);have HDk:Hid (a.Fm.drop k = a.Fm[k] :: a.Fm.drop (k + 1)):=zH (List.drop_eq_getElem_cons hlt);have HTk:Hid (a.Fm.take (k + 1) = a.Fm.take k ++ [a.Fm[k]]):=zH (List.take_succ_eq_append_getElem hlt);have HRX:=zH (HD.out.ref _ (yM hlt));have HRL:=zH (hrf.out _ (yM hlt));generalize a.Fm[k] = X at *
    have hrow:=HR.out;rw [HDk.out] at hrow;have HROW:=zH hrow;clear hrow;have HC:Hid (∀ u,Below wr.heap.size wr u -> u.cell? ⟨kb,0,none⟩ = some (.slice (some ⟨g9,0,none⟩) a.Fm.length c9) /\ u.cell? ⟨g9,k * 3 + 2,none⟩ = some (.slice X.A X.ref.length X.c)):=zH (fun u hu=>⟨(cR 0 ((hu.block _ (aE HK.out).1).trans HK.out)).trans rfl,((Jg HROW.out hu).cellAt (k * 3 + 2) (by omega)).trans (Zhd HL.out (by omega))⟩);have C2:Hid (∀ u,Below wr.heap.size wr u -> Calls Tryz.prog 76 #[.slice X.A X.ref.length X.c] u fun e w'=>∃ A' c',e = .returned (.slice A' X.ref.length c') /\ w'.ownsRow u.heap.size 9 1 (.slice A' X.ref.length c') X.ref.length (sbs X.ref) /\ RowKit.Below u.heap.size u w'):=zH (fun u hu=>Ur X.A X.c X.ref.length (sbs X.ref) u (Lies.of_own (Jg HRX.out (HB.out.trans (hu.mono hsr)))) (by simp) (fun x hx=>by obtain ⟨y,_,rfl⟩:=List.mem_map.1 hx;rfl) (Zcf HRX.out) HRL.out);have hsr':W1.heap.size <= wr.heap.size:=hsr;go_upto_region 7 with fail;refine Je 12 54 rfl (by kernel_rfl) (by kernel_rfl) (by kernel_rfl) (by kernel_rfl) (fun u=>Below wr.heap.size wr u) (fun u u'=>Below u.heap.size u u') (Gl [isV (.pointer (some ⟨kb,0,none⟩)),isV (.slice (some ⟨g9,0,none⟩) a.Fm.length c9),isV (.int .i64 (k:Int)),isV (.pointer (some ⟨kb,0,none⟩)),isV (.slice (some ⟨g9,0,none⟩) a.Fm.length c9),isV (.int .i64 (k:Int)),isV (.pointer (some ⟨g9,k * 3,none⟩)),isV (.pointer (some ⟨g9,k * 3 + 2,none⟩)),isV (.slice X.A X.ref.length X.c),isSr W1.heap.size X.ref,isV (.pointer (some ⟨g9,k * 3,none⟩)),isV (.pointer (some ⟨g9,k * 3 + 2,none⟩))]) (Gl.keep (by
      intro p hp;simp only [List.mem_cons,List.not_mem_nil,or_false] at hp;rcases hp with rfl | rfl | rfl | rfl | rfl | rfl | rfl | rfl | rfl | rfl | rfl | rfl
      ·exact Keeps.isV _
      ·exact Keeps.isV _
      ·exact Keeps.isV _
      ·exact Keeps.isV _
      ·exact Keeps.isV _
      ·exact Keeps.isV _
      ·exact Keeps.isV _
      ·exact Keeps.isV _
      ·exact Keeps.isV _
      ·exact Keeps.isSr _ _
      ·exact Keeps.isV _
      ·exact Keeps.isV _)) ?_ ?_ ?_
    ·exact (Below.refl _ wr).drew
    ·simp only [List.pop_toArray,List.dropLast,Jl];refine ⟨?_,?_,?_,?_,?_,?_,?_,?_,?_,?_,?_,?_,trivial⟩
     ·intro bb u su dp kp K hK;have e4:gT bb 4 = .pointer (some ⟨kb,0,none⟩):=kp 4 (by kernel_rfl);go_simp;exact hK _ _ su bR rfl
     ·intro bb u su dp kp K hK;have e40:gT bb 40 = .pointer (some ⟨kb,0,none⟩):=dp 0 _ rfl (by kernel_rfl);obtain ⟨q0,q2⟩:=HC.out u su;go_simp;exact hK _ _ su bR rfl
     ·intro bb u su dp kp K hK;have e5:gT bb 5 = .int .i64 (k:Int):=kp 5 (by kernel_rfl);go_simp;exact hK _ _ su bR rfl
     ·intro bb u su dp kp K hK;have e4:gT bb 4 = .pointer (some ⟨kb,0,none⟩):=kp 4 (by kernel_rfl);go_simp;exact hK _ _ su bR rfl
     ·intro bb u su dp kp K hK;have e43:gT bb 43 = .pointer (some ⟨kb,0,none⟩):=dp 3 _ rfl (by kernel_rfl);obtain ⟨q0,q2⟩:=HC.out u su;go_simp;exact hK _ _ su bR rfl
     ·intro bb u su dp kp K hK;have e5:gT bb 5 = .int .i64 (k:Int):=kp 5 (by kernel_rfl);go_simp;exact hK _ _ su bR rfl
     ·intro bb u su dp kp K hK;have e44:gT bb 44 = .slice (some ⟨g9,0,none⟩) a.Fm.length c9:=dp 4 _ rfl (by kernel_rfl);have e45:gT bb 45 = .int .i64 (k:Int):=dp 5 _ rfl (by kernel_rfl);go_simp;exact hK _ _ su bR rfl
     ·intro bb u su dp kp K hK;have e46:gT bb 46 = .pointer (some ⟨g9,k * 3,none⟩):=dp 6 _ rfl (by kernel_rfl);go_simp;exact hK _ _ su bR rfl
     ·intro bb u su dp kp K hK;have e47:gT bb 47 = .pointer (some ⟨g9,k * 3 + 2,none⟩):=dp 7 _ rfl (by kernel_rfl);obtain ⟨q0,q2⟩:=HC.out u su;go_simp;exact hK _ _ su bR rfl
     ·intro bb u su dp kp K hK;have e48:gT bb 48 = .slice X.A X.ref.length X.c:=dp 8 _ rfl (by kernel_rfl);go_simp;refine (C2.out u su).mono ?_;rintro e u' ⟨A8,c8,rfl,h9,hb⟩;go_simp;exact hK _ _ (su.trans (hb.mono su.size)) hb ⟨A8,c8,rfl,zH (Jw h9 (by have:=su.size;omega))⟩
     ·intro bb u su dp kp K hK;have e41:gT bb 41 = .slice (some ⟨g9,0,none⟩) a.Fm.length c9:=dp 1 _ rfl (by kernel_rfl);have e42:gT bb 42 = .int .i64 (k:Int):=dp 2 _ rfl (by kernel_rfl);go_simp;exact hK _ _ su bR rfl
     ·intro bb u su dp kp K hK;have e50:gT bb 50 = .pointer (some ⟨g9,k * 3,none⟩):=dp 10 _ rfl (by kernel_rfl);go_simp;exact hK _ _ su bR rfl
    ·intro bb u hN hdf su hG sm;obtain ⟨A8,c8,e49,D49⟩:∃ A c,gT bb 49 = .slice A X.ref.length c /\ Hid (u.ownsRow W1.heap.size 9 1 (.slice A X.ref.length c) X.ref.length (sbs X.ref)):=hG 9 _ rfl;have e51:gT bb 51 = .pointer (some ⟨g9,k * 3 + 2,none⟩):=hG 11 _ rfl;rw [JD bb _ [false,false,false,false,false,false,false,false,false,false,false,false,false,false,false,false,false,false,false,false,false,false,false,false,false,false,false,false,false,false,false,false,false,false,false,false,false,false,false,false,true,true,true,true,true,true,true,true,true,true,true,true,false,false] _ rfl hN rfl (by kernel_rfl) hdf sm];simp only [Z5,Nat.reduceAdd,e49,e51];clear e49 e51 hG sm hN hdf;generalize gT bb 40 = z40,gT bb 41 = z41,gT bb 42 = z42,gT bb 43 = z43,gT bb 44 = z44,gT bb 45 = z45,gT bb 46 = z46,gT bb 47 = z47,gT bb 48 = z48,gT bb 50 = z50;have HSu:=zH su;have HRu:=zH (Jg HROW.out su);have t2:u.cell? ⟨g9,k * 3 + 2,none⟩ = some (.slice X.A X.ref.length X.c):=(HC.out u su).2;have f2:u.frozen? ⟨g9,k * 3 + 2,none⟩ = false:=HRu.out.frozenAt _;clear su;refine PopQ.last rfl rfl (fun K hK=>?_);go_simp;refine hK _ _ ?_;clear hK K;have hst:=HRu.out.stored (k * 3 + 2) (.slice A8 X.ref.length c8);have hset:=ZfE (O:=O) (R:=a.Fm.drop (k + 1)) (x:=X) (y:={ X with A:=A8,c:=c8 }) HL.out rfl rfl;simp only at hset;rw [hset] at hst;have HST:=zH hst;have hbf:BT u g9 76:=BT.of_own HRu.out rfl;have step:∀ {A0:Option Addr} {n0 c0:Nat} {xs:List Value},u.ownsRow W1.heap.size 9 1 (.slice A0 n0 c0) n0 xs -> (u.setCell ⟨g9,k * 3 + 2,none⟩ (.slice A8 X.ref.length c8)).ownsRow W1.heap.size 9 1 (.slice A0 n0 c0) n0 xs:=fun ho=>Jq ho HST.out.2 (fun b hb e=>by injection e with e;subst e;exact (BT.of_own ho hb).ne hbf (by decide) rfl);have HEN:Hid (∀ f ∈ O ++ [{ X with A:=A8,c:=c8 }],(u.setCell ⟨g9,k * 3 + 2,none⟩ (.slice A8 X.ref.length c8)).ownsRow W1.heap.size 9 1 (.slice f.A f.ref.length f.c) f.ref.length (sbs f.ref)):=zH (fun f hf=>by
      rcases List.mem_append.1 hf with hf | hf
      ·exact step (Jg (HE.out f hf) HSu.out)
      ·rw [List.mem_singleton.1 hf];exact step D49.out)
     have HKN:Hid ((u.setCell ⟨g9,k * 3 + 2,none⟩ (.slice A8 X.ref.length c8)).heap[kb]? = some (.cells #[.slice (some ⟨g9,0,none⟩) a.Fm.length c9,.int .i64 D.bad,.bool (D.stand == 1),.bool (D.stand == 2),.int .i64 D.cuts] 65 (0,0))):=zH (by
      have hk1:u.heap[kb]? = some (.cells #[.slice (some ⟨g9,0,none⟩) a.Fm.length c9,.int .i64 D.bad,.bool (D.stand == 1),.bool (D.stand == 2),.int .i64 D.cuts] 65 (0,0)):=(HSu.out.block _ (aE HK.out).1).trans HK.out;exact (Below.heap_setCell _ _ _ _ (by show kb ≠ g9;exact fun e=>hbf.ne ⟨_,_,hk1⟩ (by decide) e.symm)).trans hk1)
     have HBN:Hid (Below W1.heap.size W1 (u.setCell ⟨g9,k * 3 + 2,none⟩ (.slice A8 X.ref.length c8))):=zH ((HB.out.trans (HSu.out.mono hsr)).setCell hg9 _);clear t2 f2 hst hset step;go_wp2_with fail;refine ⟨⟨k + 1,O ++ [{ X with A:=A8,c:=c8 }],by omega,by go_num,zH (by simp [HL.out]),zH ?_,HEN,zH ?_,HKN,HBN⟩,by simp [intOf];omega⟩
     ·have:=HST.out.1;rw [List.append_assoc];exact this
     ·rw [HTk.out,List.map_append,List.map_append,HP.out];rfl
   ·have hlt':¬ (k:Int) < (a.Fm.length:Int):=(by omega);have hkn:k = a.Fm.length:=(by omega);subst hkn;have HX2:Hid (wr.heap[w.heap.size]? = some (.cells #[.slice none 0 0,.int .i64 0,.bool false,.bool false,.int .i64 0] 65 (0,0))):=zH ((HB.out.block _ (aE HX0.out).1).trans HX0.out);have k0:=(cR 0 HK.out).trans rfl;have k1:=(cR 1 HK.out).trans rfl;have k2:=(cR 2 HK.out).trans rfl;have k3:=(cR 3 HK.out).trans rfl;have k4:=(cR 4 HK.out).trans rfl;have d0:=(cR 0 HX2.out).trans rfl;have d1:=(cR 1 HX2.out).trans rfl;have d2:=(cR 2 HX2.out).trans rfl;have d3:=(cR 3 HX2.out).trans rfl;have d4:=(cR 4 HX2.out).trans rfl;have f0:=Jm HX2.out 0;have f1:=Jm HX2.out 1;have f2:=Jm HX2.out 2;have f3:=Jm HX2.out 3;have f4:=Jm HX2.out 4;go_wp2_with fail;obtain ⟨Z,hZ⟩:∃ Z,Z = ((((wr.setCell ⟨w.heap.size,0,none⟩ (.slice (some ⟨g9,0,none⟩) a.Fm.length c9)).setCell ⟨w.heap.size,1,none⟩ (.int .i64 D.bad)).setCell ⟨w.heap.size,2,none⟩ (.bool (D.stand == 1))).setCell ⟨w.heap.size,3,none⟩ (.bool (D.stand == 2))).setCell ⟨w.heap.size,4,none⟩ (.int .i64 D.cuts):=⟨_,rfl⟩;rw [<- hZ];have hr5:Z.heap[w.heap.size]? = some (.cells #[.slice (some ⟨g9,0,none⟩) a.Fm.length c9,.int .i64 D.bad,.bool (D.stand == 1),.bool (D.stand == 2),.int .i64 D.cuts] 65 (0,0)):=by
     rw [hZ];exact (JM (JM (JM (JM (JM HX2.out 0 _) 1 _) 2 _) 3 _) 4 _).trans rfl
    have hgr:wr.grownBy Z (some w.heap.size):=by
     rw [hZ];exact J8 (J8 (J8 (J8 (J8 (World.grownBy.refl wr (some w.heap.size)) (.inl rfl) _) (.inl rfl) _) (.inl rfl) _) (.inl rfl) _) (.inl rfl) _
    have hBZ:Below w.heap.size w Z:=by
     rw [hZ];exact (((((HB0.out.trans (HB.out.mono HB0.out.size)).setCell nR _).setCell nR _).setCell nR _).setCell nR _).setCell nR _
    have g0:=(cR 0 hr5).trans rfl;have g1:=(cR 1 hr5).trans rfl;have g2:=(cR 2 hr5).trans rfl;have g3:=(cR 3 hr5).trans rfl;have g4:=(cR 4 hr5).trans rfl;refine bodyPost_ret (v:=.tuple #[.agg #[.slice (some ⟨g9,0,none⟩) a.Fm.length c9,.int .i64 D.bad,.bool (D.stand == 1),.bool (D.stand == 2),.int .i64 D.cuts],.int .i64 0]) (by simp [results,Tryz.results35,go_sem,g0,g1,g2,g3,g4]) rfl ?_;have hbt:BT wr w.heap.size 65:=⟨_,_,HX2.out⟩;have hle:w.heap.size <= W1.heap.size:=HB0.out.size;have hrw:=HR.out;rw [List.drop_length,List.append_nil,<- HL.out] at hrw;refine ⟨some ⟨g9,0,none⟩,c9,O,by rw [HL.out],?_,fun f hf=>?_,?_,hBZ⟩
    ·exact Jw (Jq hrw hgr (fun b hb e=>by injection e with e;subst e;exact (BT.of_own hrw hb).ne hbt (by decide) rfl)) hle
    ·have ho:=HE.out f hf;exact Jw (Jq ho hgr (fun b hb e=>by injection e with e;subst e;exact (BT.of_own ho hb).ne hbt (by decide) rfl)) hle
    ·rw [HP.out,List.take_length];exact HD.out.pure
theorem Qi (n:Int) (bs:Nat) (a:DlA) (D:PDl) (E:EvM) (q:Rat) (w:World) (h:DlM w bs a D) (hK:DlK n D) (hn:n <= 1000000) (hE:Fv w E.W q) (fE:Few E.W 90000) (hkw:(Lit.int .i64 E.kind).wf = true) (hk24:E.kind = 2 ∨ E.kind = 4) (hb:¬ Zhn D ⟨E.kind,E.val,q,E.at_⟩) (hst:D.stand = 0) (R:Int × PDl) (hR:Hid (Qs D ⟨E.kind,E.val,q,E.at_⟩ = R)) :
  Calls Tryz.prog 33 #[.pointer (some ⟨a.q,0,none⟩),E.v] w fun e w'=>∃ a',e = .returned (.int .i64 R.1) /\ DlM w' bs a' R.2 /\ Chg w w' a a':=by
 obtain rfl:=hR.out;obtain ⟨hl1,hl2⟩:=h.lens;have hfw:=hK.few;unfold Qs;rw [if_neg hb];unfold Zhn at hb;simp only [not_or] at hb;obtain ⟨hb1,hb2,hb3,x1,x2,x3⟩:=hb;have hb1':=Classical.byContradiction hb1;have hp:Zq q = true:=by simpa using hb2
 have hkv:E.kind = 4 ∨ E.val = ⟨#[]⟩:=by
  rcases Classical.em (E.kind = 4) with e | e
  ·exact .inl e
  ·exact .inr (Classical.byContradiction fun e2=>hb3 ⟨e,e2⟩)
 obtain ⟨g,hg⟩:∃ g,JG ZfK E.kind = some g:=by
  cases hq:JG ZfK E.kind with
  | none=>exact absurd (ZfJ.1 hq) (fun h=>h hb1')
  | some g=>exact ⟨g,rfl⟩
 ·rw [if_neg (by simpa using hst)];obtain ⟨c1,c2,c3,c4,c5,c6,c7,c8,c9,c10⟩:=Zfq D E.at_;have hask:Uf D.F < D.F.length:=hK.ask hst;have hC:Uf (Js D E.at_).F < (Js D E.at_).F.length:=by rw [c2];exact hask
  have hI:Q0 (Js D E.at_).F = (Uf (Js D E.at_).F:Int):=if_pos hC;have hCS:(Js D E.at_).F.length = (Js D E.at_).S.length:=by rw [c1,c2];exact hK.len
  have k:=ZhM (Js D E.at_) ⟨E.kind,E.val,q,E.at_⟩;have hpr:=hK.prompt;have hpm:=hK.prm;have hnd:=hK.need;have hct:=hK.cuts;have hbd:=hK.bad;unfold Ze3 at hpr;have e2bad:(ZbQ (Js D E.at_) ⟨E.kind,E.val,q,E.at_⟩).2.bad = D.bad:=k.bad.trans c7;have e2len:(ZbQ (Js D E.at_) ⟨E.kind,E.val,q,E.at_⟩).2.F.length = D.F.length:=by rw [k.len,c2]
  have hrefs:∀ f ∈ (Js D E.at_).F,f.ref.length <= 1000000:=fun f hf=>by rw [c2] at hf;have:=hK.ref f hf;omega
  refine Zi6 bs a D (ZbQ (Js D E.at_) ⟨E.kind,E.val,q,E.at_⟩).2 (ZbQ (Js D E.at_) ⟨E.kind,E.val,q,E.at_⟩).1 E q g w h hE fE hkw hg hp hkv x1 x2 x3 hst ?_ (zH fun U hU hEU=>?_) ⟨by omega,by omega,by omega,by omega,by omega,by omega,by rw [e2bad];omega,by rw [e2bad];omega⟩ (by rw [e2len];omega)
  ·rcases hk24 with e | e
   ·have hg1:g = 139:=(by rw [e] at hg;simpa [ZfK,JG] using hg.symm);rw [hg1];exact enters_of Tryz.func139 (by kernel_rfl) rfl
   ·have hg1:g = 141:=(by rw [e] at hg;simpa [ZfK,JG] using hg.symm);rw [hg1];exact enters_of Tryz.func141 (by kernel_rfl) rfl
  ·obtain ⟨hm1,hm2⟩:=hU.lens;have hlF:(Js D E.at_).F.length <= 20:=(by rw [c2];exact hfw);have hq1:Uf (Js D E.at_).F < (Js D E.at_).S.length:=(by omega);rcases hk24 with e | e
   ·have hg1:g = 139:=(by rw [e] at hg;simpa [ZfK,JG] using hg.symm);have:ZbQ (Js D E.at_) ⟨E.kind,E.val,q,E.at_⟩ = if Zj3 (Js D E.at_) (Js D E.at_).F[Uf (Js D E.at_).F] (Js D E.at_).S[Uf (Js D E.at_).F] q E.at_ = true then (true,(Js D E.at_).put (Uf (Js D E.at_).F) { (Js D E.at_).F[Uf (Js D E.at_).F] with st:=3 }) else (false,Js D E.at_):=by
     unfold ZbQ;simp only;rw [if_pos (by omega),gE hC,gE hq1];simp only [e];rfl
    rw [this,hg1];have hy:=fun r D' hr hD'=>ZhR bs a (Js D E.at_) E q U hU hEU fE (Uf (Js D E.at_).F) _ _ (gE hC) (gE hq1) hI (by omega) ⟨by rw [c8];omega,by rw [c8];omega⟩ ⟨by rw [c5];omega,by rw [c5];omega⟩ r hr D' hD';by_cases ha:Zj3 (Js D E.at_) (Js D E.at_).F[Uf (Js D E.at_).F] (Js D E.at_).S[Uf (Js D E.at_).F] q E.at_ = true
    ·rw [if_pos ha];exact hy true _ (zH ha) (zH (if_pos rfl))
    ·rw [if_neg ha];exact hy false _ (zH (by simpa using ha)) (zH (if_neg (by simp)))
   ·have hg1:g = 141:=(by rw [e] at hg;simpa [ZfK,JG] using hg.symm);rw [hg1];have hvs:∀ p ∈ (Js D E.at_).S,p.vs.length <= 1000000:=fun p hp=>by rw [c1] at hp;have:=hK.vals p hp;omega
    by_cases hv:ZaQ (Js D E.at_).S E.val < (Js D E.at_).S.length
    ·have hv2:ZaQ (Js D E.at_).S E.val < (Js D E.at_).F.length:=(by omega);have hx:Zgm (Js D E.at_).S E.val = (ZaQ (Js D E.at_).S E.val:Int):=if_pos hv;have:ZbQ (Js D E.at_) ⟨E.kind,E.val,q,E.at_⟩ = match Zgb (Js D E.at_).F[ZaQ (Js D E.at_).S E.val] (Js D E.at_).S[ZaQ (Js D E.at_).S E.val] q E.val with | some f'=>(true,(Js D E.at_).put (ZaQ (Js D E.at_).S E.val) f') | none=>(false,Js D E.at_):=by
      unfold ZbQ;simp only;rw [if_neg (by omega),if_pos e,gE hv2,gE hv];rfl
     rw [this];have hy:=fun r D' hr=>Zdy bs a (Js D E.at_) E q U hU hEU fE (by omega) hvs (ZaQ (Js D E.at_).S E.val) _ _ (gE hv2) (gE hv) hx (hrefs _ (yM hv2)) r D' hr;cases hq:Zgb (Js D E.at_).F[ZaQ (Js D E.at_).S E.val] (Js D E.at_).S[ZaQ (Js D E.at_).S E.val] q E.val with
     | none=>exact hy false _ (zH (.inl ⟨hq,rfl,rfl⟩))
     | some f'=>exact hy true _ (zH (.inr ⟨f',hq,rfl,rfl⟩))
    ·have hx:Zgm (Js D E.at_).S E.val = -1:=if_neg hv;have:ZbQ (Js D E.at_) ⟨E.kind,E.val,q,E.at_⟩ = (false,Js D E.at_):=by
      unfold ZbQ;simp only;rw [if_neg (by omega),if_pos e,List.getElem?_eq_none (l:=(Js D E.at_).F) (by omega)]
     rw [this];exact Zdz bs a _ E U hU (by omega) hvs hx
end Go.Proofs.YtcjicjfbippmnaaGreat
