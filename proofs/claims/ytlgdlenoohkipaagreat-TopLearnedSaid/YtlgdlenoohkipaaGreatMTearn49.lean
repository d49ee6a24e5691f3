/- TopLearned -/
import Derived.Test.YtlgdlenoohkipaaGreatMTearn48
set_option maxRecDepth 100000
set_option maxHeartbeats 32000000
namespace Go.Proofs.YtlgdlenoohkipaaGreat
open Go.RowKit Ear

theorem Zhd {w:World} {S:Option Addr} {sc:Nat} {s:List Int} (h:InOk w (S,sc,s)):LL (w.alloc (.cells #[.slice S s.length sc] 35)) (some ⟨w.heap.size,0,none⟩) [(S,sc,s)]:=
 ⟨Ve _ _ _,fun y hy=>by
  simp at hy;subst hy;exact h.alloc _⟩
def ZhI (v:Int) (s:List Int):Int:=if 500 < s.length then 5 else if XI 1 v s = true then 0 else 2
theorem ZfL (o v:Int) (A:Option Addr) (c:Nat) (x:Inn) (w:World) (h:LL w A [x]) (hz:Xv o v = true) (r:Int) (hr:Hid (ZhI v x.2.2 = r)) (h0:r ≠ 0) :
  Calls Tryz.prog 38 #[.int .i64 o,.int .i64 v,.slice A 1 c] w fun e w'=>e = .returned (.tuple #[.agg #[.int .i64 0,.int .i64 0,.slice none 0 0],.int .i64 r]) /\ Below w.heap.size w w':=by
 obtain ⟨W0,hW0⟩:∃ W0:World,W0 = (w.alloc (.cells #[.int .i64 v] 3)).alloc (.cells #[.int .i64 0,.int .i64 0,.slice none 0 0] 27):=⟨_,rfl⟩;have hs0:W0.heap.size = w.heap.size + 2:=by rw [hW0];simp
 have HB0:Hid (Below w.heap.size w W0):=zH (by rw [hW0];exact al2 w _ _);have HV:Hid (W0.heap[w.heap.size]? = some (.cells #[.int .i64 v] 3 (0,0))):=zH (by rw [hW0];exact (Below.heap_alloc _ _ _ (by simp)).trans (heap_alloc_new w _));have HT6:Hid (W0.heap[w.heap.size + 1]? = some (.cells #[.int .i64 0,.int .i64 0,.slice none 0 0] 27 (0,0))):=zH (by rw [hW0];have:=heap_alloc_new (w.alloc (.cells #[.int .i64 v] 3)) (.cells #[.int .i64 0,.int .i64 0,.slice none 0 0] 27);simpa using this);have HLL:=zH (h.below HB0.out);clear h;by_cases hl : 500 < x.2.2.length
 ·have e:r = 5:=by rw [<- hr.out];unfold ZhI;rw [if_pos hl]
  subst e;go_enter Tryz.func38,Tryz.ntmps38;go_wp2_with fail;rw [<- hW0];clear hW0;refine (Xp 86 #[] _ A c [x] W0 (Y5 [x] W0) HLL.out (by simp) true (zH (by simp;omega))).mono ?_;rintro e W1 ⟨rfl,hb1⟩;have HB1:=zH (HB0.out.trans (hb1.mono HB0.out.size));have HT1:Hid (W1.heap[w.heap.size + 1]? = some (.cells #[.int .i64 0,.int .i64 0,.slice none 0 0] 27 (0,0))):=zH ((hb1.block _ (by omega)).trans HT6.out);clear hb1;have d0:=(cR 0 HT1.out).trans rfl;have d1:=(cR 1 HT1.out).trans rfl;have d2:=(cR 2 HT1.out).trans rfl;have f0:=Jl HT1.out 0;have f1:=Jl HT1.out 1;have f2:=Jl HT1.out 2;go_wp2_with fail;have hr6:=ZaV HT1.out (.int .i64 0) (.int .i64 0) (.slice none 0 0);have g0:=(cR 0 hr6).trans rfl;have g1:=(cR 1 hr6).trans rfl;have g2:=(cR 2 hr6).trans rfl;refine bodyPost_ret (v:=.tuple #[.agg #[.int .i64 0,.int .i64 0,.slice none 0 0],.int .i64 5]) (by simp [results,Tryz.results38,go_sem,g0,g1,g2]) rfl ?_;exact ⟨rfl,((HB1.out.setCell (by show _ <= w.heap.size + 1;omega) _).setCell (by show _ <= w.heap.size + 1;omega) _).setCell (by show _ <= w.heap.size + 1;omega) _⟩
 ·have ha:XI 1 v x.2.2 = false:=by
   cases ha:XI 1 v x.2.2 with
   | false=>rfl
   | true=>
    exfalso;apply h0;rw [<- hr.out];unfold ZhI;rw [if_neg hl,if_pos ha]
  have e:r = 2:=by rw [<- hr.out];unfold ZhI;rw [if_neg hl,if_neg (by rw [ha];decide)]
  subst e;have HA:=zH ha;clear ha;go_enter Tryz.func38,Tryz.ntmps38;go_wp2_with fail;rw [<- hW0];clear hW0;refine (Xp 86 #[] _ A c [x] W0 (Y5 [x] W0) HLL.out (by simp) false (zH (by simp;omega))).mono ?_;rintro e W1 ⟨rfl,hb1⟩;have HB1:=zH (HB0.out.trans (hb1.mono HB0.out.size));have HT1:Hid (W1.heap[w.heap.size + 1]? = some (.cells #[.int .i64 0,.int .i64 0,.slice none 0 0] 27 (0,0))):=zH ((hb1.block _ (by omega)).trans HT6.out);have HV1:Hid (W1.heap[w.heap.size]? = some (.cells #[.int .i64 v] 3 (0,0))):=zH ((hb1.block _ (by omega)).trans HV.out);have cv1:W1.cell? ⟨w.heap.size,0,none⟩ = some (.int .i64 v):=(cR 0 HV1.out).trans rfl;have HLL1:=zH (HLL.out.below hb1);have hs1:W0.heap.size <= W1.heap.size:=hb1.size;clear hb1;go_wp2_with fail;refine (Zn o v W1 true (zH hz)).mono ?_;rintro e W1' ⟨rfl,rfl⟩;go_wp2_with fail;refine (Xp 87 #[.pointer (some ⟨w.heap.size,0,none⟩)] _ A c [x] W1 (UZ [x] W1 v w.heap.size (fun y hy=>HLL1.out.inn y hy) cv1 (by omega)) HLL1.out (by simp) true (zH (by simp [HA.out]))).mono ?_;rintro e W2 ⟨rfl,hb2⟩;have HB2:=zH (HB1.out.trans (hb2.mono HB1.out.size));have HT2:Hid (W2.heap[w.heap.size + 1]? = some (.cells #[.int .i64 0,.int .i64 0,.slice none 0 0] 27 (0,0))):=zH ((hb2.block _ (by omega)).trans HT1.out);clear hb2 cv1;have d0:=(cR 0 HT2.out).trans rfl;have d1:=(cR 1 HT2.out).trans rfl;have d2:=(cR 2 HT2.out).trans rfl;have f0:=Jl HT2.out 0;have f1:=Jl HT2.out 1;have f2:=Jl HT2.out 2;go_wp2_with fail;have hr6:=ZaV HT2.out (.int .i64 0) (.int .i64 0) (.slice none 0 0);have g0:=(cR 0 hr6).trans rfl;have g1:=(cR 1 hr6).trans rfl;have g2:=(cR 2 hr6).trans rfl;refine bodyPost_ret (v:=.tuple #[.agg #[.int .i64 0,.int .i64 0,.slice none 0 0],.int .i64 2]) (by simp [results,Tryz.results38,go_sem,g0,g1,g2]) rfl ?_;exact ⟨rfl,((HB2.out.setCell (by show _ <= w.heap.size + 1;omega) _).setCell (by show _ <= w.heap.size + 1;omega) _).setCell (by show _ <= w.heap.size + 1;omega) _⟩
theorem U6 (base p cap o:Nat) (v:Int) (B:Option Addr) (Ts:List TT) (t:TT) (S:Option Addr) (sc:Nat) (s:List Int) (n:Int) (w:World) (h:LrI w base p B cap (Ts ++ [t])) (hto:t.o = o) (htv:t.v = v) (hI:InOk w (S,sc,s)) (hT:Ts.length <= 200) (r:Int) (hr:Hid (ZhI v s = r)) (h0:r ≠ 0) :
  Calls Tryz.prog 10 #[.pointer (some ⟨p,0,none⟩),.slice S s.length sc,.int .i64 n] w fun e w'=>e = .returned (.int .i64 r) /\ Below w.heap.size w w':=by
 have H:=zH h;have hlen:(Ts ++ [t]).length = Ts.length + 1:=by simp
 have hat:=H.out.at_;rw [hlen] at hat;have HAT:=zH hat;have HT:=zH (H.out.tab t (by simp));have HI:=zH hI;have HZ:=zH (JK.1 HT.out.ok).2.1;obtain ⟨xo,xv,xA,xc,xL⟩:=t;simp only at hto htv;subst hto htv;clear h hat hI hlen;have hf0:=fun W=>Y8 o xv xA xL.length xc W;have hf1:=fun W=>Y7 o xv xA xL.length xc W;have q0:(r != 0) = true:=by simp [h0]
 go_enter Tryz.func10,Tryz.ntmps10;go_wp2_with fail;refine (Yd p (Ts.length + 1) cap B w HAT.out (by omega)).mono ?_;rintro e w' ⟨rfl,rfl⟩;go_wp2_with fail;refine (Ys p cap B Ts _ w' HAT.out H.out.tts (by omega)).mono ?_;rintro e W1 ⟨rfl,hb1⟩;have HB1:=zH hb1;have H1:=zH (H.out.below hb1);have HAT1:=zH ((hb1.cell (p:=⟨p,0,none⟩) (JW HAT.out)).trans HAT.out);clear hb1;unfold TT.val;go_wp2_with fail;refine (Ys p cap B Ts _ W1 HAT1.out H1.out.tts (by omega)).mono ?_;rintro e W2 ⟨rfl,hb2⟩;have HB2:=zH (HB1.out.trans (hb2.mono HB1.out.size));have HI2:=zH (HI.out.below HB2.out);clear hb2;unfold TT.val;go_wp2_with fail;obtain ⟨W3,hW3⟩:∃ W3:World,W3 = W2.alloc (.cells #[.slice S s.length sc] 35):=⟨_,rfl⟩;rw [<- hW3];have HB3:Hid (Below w'.heap.size w' W3):=zH (by rw [hW3];exact HB2.out.alloc HB2.out.size _);have HLL:Hid (LL W3 (some ⟨W2.heap.size,0,none⟩) [(S,sc,s)]):=zH (by rw [hW3];exact Zhd HI2.out);clear hW3;refine (ZfL o xv (some ⟨W2.heap.size,0,none⟩) 1 (S,sc,s) W3 HLL.out HZ.out r hr h0).mono ?_;rintro e W4 ⟨rfl,hb4⟩;have HB4:=zH (HB3.out.trans (hb4.mono HB3.out.size));clear hb4;go_wp2_with fail;go_ret;exact ⟨rfl,HB4.out.alloc HB4.out.size _⟩
theorem Zax (base p cap o:Nat) (v:Int) (B:Option Addr) (Ts:List TT) (t:TT) (S:Option Addr) (sc:Nat) (s:List Int) (n:Int) (w:World) (h:LrI w base p B cap (Ts ++ [t])) (hto:t.o = o) (htv:t.v = v) (hI:InOk w (S,sc,s)) (hs:s.length <= 500) (ha:XI 1 v s = true) (hT:Ts.length <= 200) (hn:¬ (1 <= n /\ n <= 1000)) :
  Calls Tryz.prog 10 #[.pointer (some ⟨p,0,none⟩),.slice S s.length sc,.int .i64 n] w fun e w'=>e = .returned (.int .i64 2) /\ Below w.heap.size w w':=by
 have H:=zH h;have hlen:(Ts ++ [t]).length = Ts.length + 1:=by simp
 have hat:=H.out.at_;rw [hlen] at hat;have HAT:=zH hat;have HT:=zH (H.out.tab t (by simp));have HI:=zH hI;have HZ:=zH (JK.1 HT.out.ok).2.1;obtain ⟨xo,xv,xA,xc,xL⟩:=t;simp only at hto htv;subst hto htv;clear h hat hI hlen;have hf0:=fun W=>Y8 o xv xA xL.length xc W;have hf1:=fun W=>Y7 o xv xA xL.length xc W;go_enter Tryz.func10,Tryz.ntmps10;go_wp2_with fail;refine (Yd p (Ts.length + 1) cap B w HAT.out (by omega)).mono ?_;rintro e w' ⟨rfl,rfl⟩;go_wp2_with fail;refine (Ys p cap B Ts _ w' HAT.out H.out.tts (by omega)).mono ?_;rintro e W1 ⟨rfl,hb1⟩;have HB1:=zH hb1;have H1:=zH (H.out.below hb1);have HAT1:=zH ((hb1.cell (p:=⟨p,0,none⟩) (JW HAT.out)).trans HAT.out);clear hb1;unfold TT.val;go_wp2_with fail;refine (Ys p cap B Ts _ W1 HAT1.out H1.out.tts (by omega)).mono ?_;rintro e W2 ⟨rfl,hb2⟩;have HB2:=zH (HB1.out.trans (hb2.mono HB1.out.size));have HI2:=zH (HI.out.below HB2.out);clear hb2;unfold TT.val;go_wp2_with fail;obtain ⟨W3,hW3⟩:∃ W3:World,W3 = W2.alloc (.cells #[.slice S s.length sc] 35):=⟨_,rfl⟩;rw [<- hW3];have HB3:Hid (Below w'.heap.size w' W3):=zH (by rw [hW3];exact HB2.out.alloc HB2.out.size _);have HLL:Hid (LL W3 (some ⟨W2.heap.size,0,none⟩) [(S,sc,s)]):=zH (by rw [hW3];exact Zhd HI2.out);have ho12:=Jx.1 HZ.out;clear hW3;refine (Zbx o xv (some ⟨W2.heap.size,0,none⟩) 1 (S,sc,s) W3 HLL.out (by omega) (by omega) HZ.out hs ha).mono ?_;rintro e W4 ⟨hb4,hret⟩;rw [if_pos (ZcZ o s hs)] at hret;obtain ⟨A1,c1,L1,rfl,-,-,-⟩:=hret;have HB4:=zH (HB3.out.trans (hb4.mono HB3.out.size));clear hb4 ho12;by_cases h1:n < 1
 ·go_wp2_with fail;go_ret;exact ⟨rfl,HB4.out.alloc HB4.out.size _⟩
 ·have h2 : 1000 < n:=by omega
  go_wp2_with fail;go_ret;exact ⟨rfl,HB4.out.alloc HB4.out.size _⟩
theorem Zea (Ts:List TT) (t:TT):ZaA (Ts ++ [t]) = ZaA Ts ++ [.int .i64 t.o,.int .i64 t.v,.slice t.A t.L.length t.c]:=by simp [ZaA]
theorem ZiA (base p cap:Nat) (B:Option Addr) (Ts:List TT) (t:TT) (w:World) (h:LrI w base p B cap (Ts ++ [t])) (hT : 0 < Ts.length) (hm:Ts.length <= 1000) :
  Calls Tryz.prog 15 #[.pointer (some ⟨p,0,none⟩)] w fun e w'=>e = .returned (.int .i64 0) /\ LrI w' base p B cap Ts /\ Two w w' p (blk B):=by
 have H:=zH h;have hlen:(Ts ++ [t]).length = Ts.length + 1:=by simp
 have hat:=H.out.at_;rw [hlen] at hat;have HAT:=zH hat;have hrow:=H.out.row;rw [hlen,Zea] at hrow;have HROW:=zH hrow;obtain ⟨g,cap',hv,hg,hlt⟩:=hrow.form (by omega);injection hv with e1 e2 e3
 subst e1 e3;have hcp:Ts.length + 1 <= cap:=by
  rcases hrow.2 with ⟨h1,_⟩ | ⟨_,_,_,h1,_,_,h2,_⟩
  ·cases h1
  ·injection h1 with q1 q2 q3
   omega
 have hcell:=H.out.cell;rw [hlen] at hcell;have HCELL:=zH hcell;have hz:w.frozen? ⟨p,0,none⟩ = false:=Jl hcell 0;have HZ:=zH hz;clear h hat hlen hrow hcell hz;go_enter Tryz.func15,Tryz.ntmps15;go_wp2_with fail;refine (Yd p (Ts.length + 1) cap _ w HAT.out (by omega)).mono ?_;rintro e w' ⟨rfl,rfl⟩;go_wp2_with fail;refine (VD p (Ts.length + 1) cap _ w' HAT.out (by omega) (by omega)).mono ?_;rintro e w1 ⟨rfl,rfl⟩;have hne:¬ (((Ts.length:Int) + 1) - 1 = 0):=by omega
 have hne2:(((Ts.length:Int) + 1) - 1 == 0) = false:=by rw [beq_eq_false_iff_ne];omega
 go_wp2_with fail;have c0:=HAT.out;have f0:=HZ.out;have p1:IntKind.i64.wrap ((Ts.length:Int) + 1 - 1) = (Ts.length:Int):=by rw [IntWalk.i64_in _ (by omega)];omega
 have p2:IntKind.i64.wrap (Ts.length:Int) = (Ts.length:Int):=IntWalk.i64_in _ (by omega);have b1:(0:Int) <= (Ts.length:Int):=by omega
 have b2:Ts.length <= cap:=by omega
 go_still_tail 14,(by kernel_rfl);go_wp2_with fail;go_ret;obtain ⟨W9,hW9⟩:∃ W9,W9 = w1.setCell ⟨p,0,none⟩ (.slice (some ⟨g,0,none⟩) Ts.length cap):=⟨_,rfl⟩;rw [<- hW9];have hgp:g ≠ p:=(BT.of_own HROW.out rfl).ne ⟨_,_,HCELL.out⟩ (by decide);have hs9:W9.heap.size = w1.heap.size:=by rw [hW9];simp [World.setCell]
 have stab:∀ b,b ≠ p -> W9.heap[b]? = w1.heap[b]?:=fun b h2=>by rw [hW9];exact RowKit.Below.heap_setCell w1 _ _ b h2
 have keep:∀ {A0:Option Addr} {c0:Nat} {L0:List Gm} {b0:Nat},GLo w1 b0 A0 c0 L0 -> GLo W9.drew b0 A0 c0 L0:=fun hg=>hg.block (w':=W9.drew) (by show _ <= W9.heap.size;omega) (fun b hb=>by
  refine stab b ?_;rintro rfl;rcases hb with hb | hb
  ·exact hb.ne ⟨_,_,HCELL.out⟩ (by decide) rfl
  ·exact hb.1.ne ⟨_,_,HCELL.out⟩ (by decide) rfl)
 have glo9:∀ t0 ∈ Ts,GLo W9.drew base t0.A t0.c t0.L /\ Xz t0.o t0.v (Je t0.L) = 0:=fun t0 ht0=>⟨keep (H.out.glo t0 (List.mem_append_left _ ht0)),(H.out.tab t0 (List.mem_append_left _ ht0)).ok⟩;refine ⟨rfl,⟨?_,?_,fun t0 ht0=>⟨(glo9 t0 ht0).1.tb,(glo9 t0 ht0).1.nilA,(glo9 t0 ht0).2⟩,fun t0 ht0=>(glo9 t0 ht0).1⟩,?_⟩
 ·show W9.heap[p]? = _;rw [hW9];exact (JT HCELL.out 0 _).trans rfl
 ·have h1:=Q9 HROW.out (Uu Ts) (Nat.le_succ _);have h2:=ZaZ h1 (XK (World.grownBy.refl w1 (some p)) (.inl rfl) (.slice (some ⟨g,0,none⟩) Ts.length cap) (p:=⟨p,0,none⟩)) (fun k9 hk9 e9=>by
   simp [Value.ownBlock] at hk9;injection e9 with e9
   omega)
  rw [<- hW9] at h2;exact h2
 ·exact ⟨by rw [hW9];rfl,by rw [hW9];rfl,by rw [hW9];rfl,by show _ <= W9.heap.size;omega,fun b h1 h2 h3=>stab b h2⟩
theorem QT (A:Option Addr) (c:Nat) (l:List Int) (hi:Int) (w:World) (h:Lies w A (ics l)) (hn:l.length <= 9223372036854775807) (b:Bool) (hb':Hid (XI 1 hi l = b)) :
  Calls Tryz.prog 68 #[.slice A l.length c,.int .i64 hi] w fun e w'=>e = .returned (.bool b) /\ w = w':=by
 go_enter Tryz.func68,Tryz.ntmps68;go_wp2;go_loop [5] (fun i=>∃ k:Nat,k <= l.length /\ i = .int .i64 k /\ (l.take k).all (inR 1 hi) = true) (fun i=>l.length - (intOf i).toNat)
 case atStart=>exact ⟨0,Nat.zero_le _,rfl,rfl⟩
 case round=>
  obtain ⟨k,hk,rfl,hp⟩:=hrel;by_cases hlt:k < l.length
  ·obtain ⟨bk,off,rfl,hb,hc⟩:=h.at_ hlt;have HP:=zH hp;clear hp;go_wp2
   ·go_ret;exact ⟨Jm (by rw [<- hb'.out];exact (YB hlt (by simp [inR];omega)).symm),rfl⟩
   ·exact ⟨⟨k + 1,by omega,by go_num,Vw hlt HP.out (by simp [inR];omega)⟩,by simp [intOf];omega⟩
   ·go_ret;exact ⟨Jm (by rw [<- hb'.out];exact (YB hlt (by simp [inR];omega)).symm),rfl⟩
  ·have HP:=zH hp;clear hp;go_wp2;go_ret;exact ⟨Jm (by rw [<- hb'.out];have hh:=HP.out;rw [List.take_of_length_le (by omega)] at hh;exact hh.symm),rfl⟩
theorem ZaL (Fm:Int) (LA:Option Addr) (lc:Nat) (N:List Ar) (o v:Int) (A:Option Addr) (c:Nat) (L:List Gm) (kd:Int) (x:Fr) (q:Rat) (M:Option Addr) (mn mc:Nat) (X:Nat -> Fr) (mx:Nat -> Rat) (w:World) (hN:ArL w LA N) (hNl:N.length <= 9223372036854775807) (hNf:∀ a ∈ N,Few a.x 100) (hT:Tb w A L) (hL:L.length <= 9223372036854775807) (hx:Fv w x q) (fx:Few x 100) (hM:FL w M mn X mx) (hf:∀ k,k < mn -> Few (X k) 100) (hmn:mn <= 100) (hsz:∀ k,k <= mn -> Sz (Qs mx k) 30000) :
  Calls Tryz.prog 30 #[.agg #[.int .i64 Fm,.slice LA N.length lc],.agg (lgv o v A L.length c kd x M mn mc),.slice none 0 0] w (ZfI (LatOk Fm N /\ (Xz o v (Je L) = 0 /\ ZiF kd o q mn mx) /\ ∀ a ∈ N,a.wd <= v) w):=by
 obtain ⟨W0,hW0⟩:∃ X:World,X = (w.alloc (.cells #[.int .i64 Fm,.slice LA N.length lc] 24)).alloc (.cells (lgv o v A L.length c kd x M mn mc) 34):=⟨_,rfl⟩;obtain ⟨k4,hk4⟩:∃ k,k = w.heap.size + 1:=⟨_,rfl⟩;have HB0:Hid (Below w.heap.size w W0):=zH (by rw [hW0];exact al2 w _ _);have HXL:Hid (W0.heap[w.heap.size]? = some (.cells #[.int .i64 Fm,.slice LA N.length lc] 24 (0,0))):=zH (by rw [hW0];exact (YZ _ _ _).trans (heap_alloc_new w _));have HXG:Hid (W0.heap[k4]? = some (.cells (lgv o v A L.length c kd x M mn mc) 34 (0,0))):=zH (by rw [hW0,hk4];exact Zg _ _ _ _);have HPL:=zH (Vf HXL.out);have HPG:=zH (XT HXG.out);have HN:=zH (hN.below HB0.out);have HNF:=zH hNf;have HT:=zH (hT.below HB0.out);have HX:=zH (hx.below HB0.out);have HM:=zH (hM.below HB0.out);have HF:=zH hf;have HSZ:=zH hsz;have HC:Hid (∀ w',Below W0.heap.size W0 w' -> w'.cell? ⟨w.heap.size,0,none⟩ = some (.int .i64 Fm) /\ w'.cell? ⟨w.heap.size,1,none⟩ = some (.slice LA N.length lc) /\ w'.cell? ⟨k4,0,none⟩ = some (.int .i64 o) /\ w'.cell? ⟨k4,1,none⟩ = some (.int .i64 v) /\ w'.cell? ⟨k4,2,none⟩ = some (.slice A L.length c) /\ w'.cell? ⟨k4,3,none⟩ = some (.int .i64 kd) /\ w'.cell? ⟨k4,4,none⟩ = some (.bool x.neg) /\ w'.cell? ⟨k4,5,none⟩ = some (.slice x.A x.N.length x.c) /\ w'.cell? ⟨k4,6,none⟩ = some (.slice x.B x.D.length x.d) /\ w'.cell? ⟨k4,7,none⟩ = some (.slice M mn mc)):=zH (fun w' hw=>by
  obtain ⟨c0,c1⟩:=HPL.out w' hw;obtain ⟨d0,d1,d2,d3,d4,d5,d6,d7⟩:=HPG.out w' hw;exact ⟨c0,c1,d0,d1,d2,d3,d4,d5,d6,d7⟩)
 obtain ⟨c0,c1,d0,d1,d2,d3,d4,d5,d6,d7⟩:=HC.out W0 bR;clear hN hNf hT hx hM hf hsz HXL HXG;simp only [lgv] at hW0 ⊢;go_enter Tryz.func30,Tryz.ntmps30;go_upto_region 1 with fail;rw [<- hW0,<- hk4];clear hW0 hk4 c0 c1 d0 d1 d2 d3 d4 d5 d6 d7;refine Jk (S:=fun w'=>w'.cell? ⟨w.heap.size,0,none⟩ = some (.int .i64 Fm) /\ w'.cell? ⟨w.heap.size,1,none⟩ = some (.slice LA N.length lc) /\ w'.cell? ⟨k4,0,none⟩ = some (.int .i64 o) /\ w'.cell? ⟨k4,1,none⟩ = some (.int .i64 v) /\ w'.cell? ⟨k4,2,none⟩ = some (.slice A L.length c) /\ w'.cell? ⟨k4,3,none⟩ = some (.int .i64 kd) /\ w'.cell? ⟨k4,4,none⟩ = some (.bool x.neg) /\ w'.cell? ⟨k4,5,none⟩ = some (.slice x.A x.N.length x.c) /\ w'.cell? ⟨k4,6,none⟩ = some (.slice x.B x.D.length x.d) /\ w'.cell? ⟨k4,7,none⟩ = some (.slice M mn mc)) 6 rfl (by kernel_rfl) (HC.out _ bR.drew) (fun hd=>?_)
 ((refine Jd (v:=?_) rfl (by kernel_rfl) (fun _ _ _ h=>h) ⟨by rfl,?_⟩ hd ?_;rotate_left;· intro w' sw;obtain ⟨hS1,hS2,hS3,hS4,hS5,hS6,hS7,hS8,hS9,hS10⟩:=sw;go_simp;try with_reducible rfl);simp only [zA,zB,zC])
 refine Jv (i:=2) 12 (v:=?_) rfl rfl (by kernel_rfl) (by kernel_rfl) (by kernel_rfl) (fun _ _ _ h=>h) ⟨by rfl,?_⟩ hd ?_;rotate_left
 ·intro w' sw;obtain ⟨hS1,hS2,hS3,hS4,hS5,hS6,hS7,hS8,hS9,hS10⟩:=sw;go_simp;try with_reducible rfl
 simp only [zA,zB,zC];refine Jh 1 rfl (by kernel_rfl) rfl (fun K hK=>?_);go_simp;refine (Zda Fm LA lc N W0.drew (HN.out.below bR.drew) hNl HNF.out).mono ?_;rintro e U1 ⟨s1,rfl,hr1,hb2⟩;have HB1:=zH (JF hb2);have HR1:=zH hr1;clear hb2 hr1;go_simp;refine hK _ _ (HC.out _ HB1.out) (fun hd=>?_);clear hK K;refine Jh 3 rfl (by kernel_rfl) rfl (fun K hK=>?_);go_simp;refine (ZbS o v A c L kd x q M mn mc X mx U1 (HT.out.below HB1.out) hL (HX.out.below HB1.out) fx (HM.out.below HB1.out) HF.out hmn HSZ.out).mono ?_;rintro e U2 ⟨s2,rfl,hr2,hb2⟩;have HB2:=zH (HB1.out.trans (hb2.mono HB1.out.size));have HR2:=zH hr2;clear hb2 hr2;go_simp;refine hK _ _ (HC.out _ HB2.out) (fun hd=>?_);clear hK K;iterate 2 (((refine Jd (v:=?_) rfl (by kernel_rfl) (fun _ _ _ h=>h) ⟨by rfl,?_⟩ hd ?_;rotate_left;· intro w' sw;obtain ⟨hS1,hS2,hS3,hS4,hS5,hS6,hS7,hS8,hS9,hS10⟩:=sw;go_simp;try with_reducible rfl);simp only [zA,zB,zC]))
 refine wpAnyH_done (by kernel_rfl) ?_ _;have HBW:=zH (HB0.out.trans (HB2.out.mono HB0.out.size));have HCU:=zH (fun w' (hw:Below U2.heap.size U2 w')=>HC.out w' (HB2.out.trans (hw.mono HB2.out.size)));by_cases a1:s1 = 5
 ·subst a1;go_wp2_with fail;refine bodyPost_ret (v:=.int .i64 5) (by simp [results,Tryz.results30,go_sem]) rfl ?_;exact ⟨5,rfl,fun h=>absurd h (by decide),HBW.out⟩
 ·have p1:(s1 == 5) = false:=by simpa using a1
  by_cases a2:s2 = 5
  ·subst a2;go_wp2_with fail;refine bodyPost_ret (v:=.int .i64 5) (by simp [results,Tryz.results30,go_sem]) rfl ?_;exact ⟨5,rfl,fun h=>absurd h (by decide),HBW.out⟩
  ·have p2:(s2 == 5) = false:=by simpa using a2
   by_cases a3:s1 = 0
   ·subst a3;by_cases a4:s2 = 0
    ·subst a4;have HP1:=zH (HR1.out rfl);have HP2:=zH (HR2.out rfl);obtain ⟨c0,c1,d0,d1,d2,d3,d4,d5,d6,d7⟩:=HCU.out U2 bR;go_wp2_with fail;refine (QT none 0 [] v U2 (Lies.nil _ _) (by simp) true (zH rfl)).mono ?_;rintro e u3 ⟨rfl,rfl⟩;go_wp2_with fail;clear c0 c1 d0 d1 d2 d3 d4 d5 d6 d7;go_loopw [9] (fun t9 wr=>∃ k:Nat,k <= N.length /\ t9 = .int .i64 (k:Int) /\ Hid (∀ j (hj:j < N.length),j < k -> N[j].wd <= v) /\ Hid (Below U2.heap.size U2 wr)) (fun t9 _=>N.length - (intOf t9).toNat)
     case atStart=>exact ⟨0,Nat.zero_le _,rfl,zH (fun j _ hj=>by omega),zH bR⟩
     case round=>
      obtain ⟨k,hk,rfl,HW,HB⟩:=hrel;obtain ⟨c0,c1,d0,d1,d2,d3,d4,d5,d6,d7⟩:=HCU.out wr HB.out;by_cases hlt:k < N.length
      ·have hlt':(k:Int) < (N.length:Int):=(by omega);obtain ⟨b,off,rfl,hb,-,-,v2,-,-,-,-⟩:=(HN.out.below (HB2.out.trans (HB.out.mono HB2.out.size))).at_ hlt;have HS:Hid (N[k].wd <= v -> ∀ j (hj:j < N.length),j < k + 1 -> N[j].wd <= v):=zH (fun hx j hj hjk=>by
        by_cases e:j = k
        ·subst e;exact hx
        ·exact HW.out j hj (by omega))
       generalize N[k].wd = z at *
       by_cases hz:v < z
       ·have e1:decide (v < z) = true:=decide_eq_true hz;go_wp2_with fail;go_quiet (fail);go_wp2_with fail;refine bodyPost_ret (v:=.int .i64 2) (by simp [results,Tryz.results30,go_sem]) rfl ?_;exact ⟨2,rfl,fun h=>absurd h (by decide),HBW.out.trans ((HB.out.drw nq).mono HBW.out.size)⟩
       ·have e1:decide (v < z) = false:=dF hz;have HS2:=zH (HS.out (by omega));go_wp2_with fail;go_quiet (fail);go_wp2_with fail;exact ⟨⟨k + 1,by omega,by go_num,HS2,zH (HB.out.drw nq)⟩,by simp [intOf];omega⟩
      ·obtain rfl:k = N.length:=(by omega);have hge:¬ (N.length:Int) < (N.length:Int):=(by omega);go_wp2_with fail;refine bodyPost_ret (v:=.int .i64 0) (by simp [results,Tryz.results30,go_sem]) rfl ?_;exact ⟨0,rfl,fun _=>⟨HP1.out,HP2.out,fun a ha=>(by obtain ⟨j,hj,rfl⟩:=List.getElem_of_mem ha;exact HW.out j hj hj)⟩,HBW.out.trans (HB.out.mono HBW.out.size)⟩
    ·have p4:(s2 != 0) = true:=(by simpa using a4);go_wp2_with fail;refine bodyPost_ret (v:=.int .i64 2) (by simp [results,Tryz.results30,go_sem]) rfl ?_;exact ⟨2,rfl,fun h=>absurd h (by decide),HBW.out⟩
   ·have p3:(s1 != 0) = true:=(by simpa using a3);go_wp2_with fail;refine bodyPost_ret (v:=.int .i64 2) (by simp [results,Tryz.results30,go_sem]) rfl ?_;exact ⟨2,rfl,fun h=>absurd h (by decide),HBW.out⟩
end Go.Proofs.YtlgdlenoohkipaaGreat
namespace Ear
end Ear
namespace Go.Proofs.YtlgdlenoohkipaaGreat
open Go.RowKit Ear

theorem Fv.ku {w w':World} {x:Fr} {q:Rat} (h:Fv w x q) (k:KU w w'):Fv w' x q:=⟨h.n.ku k,h.d.ku k,h.val⟩
theorem Zja:Ud 1 [1] 2 = [([0],1),([1],1)]:=by decide +kernel
theorem Zhe:Xz 1 1 [([0],1),([1],1)] = 0:=by decide +kernel
theorem Zh5:Xz 1 1 [([0],3),([1],5)] = 0:=by decide +kernel
theorem Zjb:XV 1 [1,1] 3 = [(kOf [1],2),(kOf [0],1)]:=by decide +kernel
theorem Zh7:Ul (mrg (mrg [] [([0],1),([1],1)]) [([1],4),([0],2)]) = 0:=by decide +kernel
theorem Zh6:Ul (mrg (mrg [] [([0],1),([1],1)]) [([0],2),([1],4)]) = 0:=by decide +kernel
theorem Zv (A B:Option Addr) (c d:Nat) (a b:List Int) (w:World) (hA:Lies w A (ucs a)) (hB:Lies w B (ucs b)) (hn:a.length <= 1000000) (r:Bool) (hr:Hid (decide (a = b) = r)) :
  Calls Tryz.prog 42 #[.slice A a.length c,.slice B b.length d] w fun e w'=>e = .returned (.bool r) /\ ∃ n,w' = w.drewN n:=by
 by_cases hl:a.length = b.length
 ·rw [<- hl];have HL:=zH hl;clear hl;go_enter Tryz.func42,Tryz.ntmps42;go_wp2_with fail;go_loopw [5] (fun i wr=>∃ k:Nat,k <= a.length /\ i = .int .i64 k /\ Hid (∀ j,j < k -> a[j]?.getD 0 = b[j]?.getD 0) /\ ∃ n,wr = w.drewN n) (fun i _=>a.length - (intOf i).toNat)
  case atStart=>exact ⟨0,by omega,rfl,zH (fun j hj=>by omega),0,rfl⟩
  case round=>
   obtain ⟨k,hk,rfl,HE,n,hwd⟩:=hrel;have L1:Lies wr A (ucs a):=(by rw [hwd];exact hA.drewN n);have L2:Lies wr B (ucs b):=(by rw [hwd];exact hB.drewN n);have WD:=zH hwd;clear hwd;by_cases hlt:k < a.length
   ·obtain ⟨b1,o1,rfl,hb1,hc1⟩:=L1.uat hlt;obtain ⟨b2,o2,rfl,hb2,hc2⟩:=L2.uat (k:=k) (by rw [<- HL.out];exact hlt);by_cases he:a[k]?.getD 0 = b[k]?.getD 0
    ·have HN:Hid (∀ j,j < k + 1 -> a[j]?.getD 0 = b[j]?.getD 0):=zH (fun j hj=>by
      rcases Nat.lt_or_ge j k with h | h
      ·exact HE.out j h
      ·obtain rfl:j = k:=(by omega);exact he)
     rw [<- he] at hc2;clear he;generalize a[k]?.getD 0 = x at *
     go_wp2_with fail;go_quiet (fail);go_wp2_with fail;exact ⟨⟨k + 1,by omega,by go_num,HN,by rw [WD.out];exact Vo _ _ _⟩,by simp [intOf];omega⟩
    ·have HR:Hid (r = false):=zH (by rw [<- hr.out];exact dF (fun e=>he (by rw [e])));generalize a[k]?.getD 0 = x at *
     generalize b[k]?.getD 0 = y at *
     have q:(x != y) = true:=(by simpa using he);go_wp2_with fail;go_quiet (fail);go_wp2_with fail;go_ret;exact ⟨Jm (by rw [HR.out]),by rw [WD.out];exact Vo _ _ _⟩
   ·obtain rfl:k = a.length:=(by omega);have HR:Hid (r = true):=zH (by
     rw [<- hr.out];refine decide_eq_true (List.ext_getElem HL.out fun j h1 h2=>?_);have:=HE.out j h1;rw [gE h1,gE h2] at this;simpa using this)
    go_wp2_with fail;go_ret;exact ⟨Jm (by rw [HR.out]),n,WD.out⟩
 ·have HR:Hid (r = false):=zH (by rw [<- hr.out];exact dF (fun e=>hl (by rw [e])));have q:((a.length:Int) != (b.length:Int)) = true:=by simp;omega
  go_enter Tryz.func42,Tryz.ntmps42;go_wp2_with fail;go_ret;exact ⟨Jm (by rw [HR.out]),0,rfl⟩
theorem Zis {d e:Nat} (hd:d ≠ 0) (he:e ≠ 0) (h:den d = den e):d = e:=by
 unfold den at h;split at h <;> split at h
 ·omega
 ·exact absurd (ZeH.1 h.symm) he
 ·exact absurd (ZeH.1 h) hd
 ·exact Zg8 h
theorem Zil {w:World} {x y:Fr} {p q:Rat} (hx:Fq w x p) (hy:Fq w y q):p = q ↔ x.neg = y.neg /\ x.N = y.N /\ x.D = y.D:=by
 constructor
 ·rintro rfl;exact ⟨by rw [hx.neg,hy.neg],by rw [hx.num,hy.num],by rw [hx.dn,hy.dn]⟩
 ·rintro ⟨h1,h2,h3⟩;rw [hx.neg,hy.neg] at h1;rw [hx.num,hy.num] at h2;rw [hx.dn,hy.dn] at h3;rw [<- XO p,<- XO q,h1,Zg8 h2,Zis p.den_nz q.den_nz h3]
theorem Qv (x y:Fr) (p q:Rat) (w:World) (hx:Fq w x p) (hy:Fq w y q) (fx:Few x 1000000) (r:Bool) (hr:Hid (decide (p = q) = r)):Calls Tryz.prog 17 #[x.val,y.val] w fun e w'=>e = .returned (.bool r) /\ Below w.heap.size w w':=by
 have HS:Hid ((p = q) ↔ x.neg = y.neg /\ x.N = y.N /\ x.D = y.D):=zH (Zil hx hy);obtain ⟨W,hW⟩:∃ W:World,W = (w.alloc (.cells #[.bool x.neg,.slice x.A x.N.length x.c,.slice x.B x.D.length x.d] 31)).alloc (.cells #[.bool y.neg,.slice y.A y.N.length y.c,.slice y.B y.D.length y.d] 31):=⟨_,rfl⟩;have HB0:Hid (Below w.heap.size w W):=zH (by rw [hW];exact al2 w _ _);have HX:=(hx.below HB0.out).ok;have HY:=(hy.below HB0.out).ok;have S1:=zH (fun n=>Zv x.A y.A x.c y.c x.N y.N (W.drewN n) (HX.n.below (Ja _ _)).lies (HY.n.below (Ja _ _)).lies fx.n (decide (x.N = y.N)) (zH rfl));have S2:=zH (fun n=>Zv x.B y.B x.d y.d x.D y.D (W.drewN n) (HX.d.below (Ja _ _)).lies (HY.d.below (Ja _ _)).lies fx.d (decide (x.D = y.D)) (zH rfl));have HC:Hid (∀ n,((W.drewN n).cell? ⟨w.heap.size,2,none⟩ = some (.slice x.B x.D.length x.d) /\ (W.drewN n).cell? ⟨w.heap.size + 1,2,none⟩ = some (.slice y.B y.D.length y.d))):=zH (fun n=>by
  show W.cell? _ = _ /\ W.cell? _ = _;rw [hW];simp [go_sem])
 obtain ⟨xn,xA,xc,xN,xB,xd,xD⟩:=x;obtain ⟨yn,yA,yc,yN,yB,yd,yD⟩:=y;simp only at HS S1 S2 HC;clear hx hy HX HY fx;by_cases h1:xn = yn
 ·subst h1;have q1:(xn == xn) = true:=by simp
  by_cases h2:xN = yN
  ·have HR:Hid (r = decide (xD = yD)):=zH (by rw [<- hr.out,decide_eq_decide,HS.out];simp [h2]);have d2:decide (xN = yN) = true:=decide_eq_true h2;rw [d2] at S1;have Z1:=zH (S1.out 0);clear HS hr h2 d2 S1;go_enter Tryz.func17,Tryz.ntmps17;go_wp2_with fail;rw [<- hW];clear hW;refine Z1.out.mono ?_;rintro e w' ⟨rfl,n,rfl⟩;have Z2:=zH (S2.out n);obtain ⟨c1,c2⟩:=HC.out n;have B2:Hid (Below w.heap.size w (W.drewN n)):=zH (HB0.out.trans (Ja _ _));clear Z1 S2 HC;change Hid (Calls _ _ _ (W.drewN n) _) at Z2;generalize hWn:(W.drewN 0).drewN n = Wn at *
   have e0:Wn = W.drewN n:=hWn.symm.trans (by rw [World.drewN_drewN];simp);rw [<- e0] at Z2 c1 c2 B2;clear hWn e0;go_wp2_with fail;refine Z2.out.mono ?_;rintro e w' ⟨rfl,m,rfl⟩;go_wp2_with fail;go_ret;exact ⟨Jm (by rw [HR.out]),B2.out.trans (Ja _ _)⟩
  ·have HR:Hid (r = false):=zH (by rw [<- hr.out];exact dF (fun e=>h2 (HS.out.1 e).2.1));have d2:decide (xN = yN) = false:=dF h2;rw [d2] at S1;have Z1:=zH (S1.out 0);clear HS hr h2 d2 S1 S2 HC;go_enter Tryz.func17,Tryz.ntmps17;go_wp2_with fail;rw [<- hW];clear hW;refine Z1.out.mono ?_;rintro e w' ⟨rfl,n,rfl⟩;go_wp2_with fail;go_ret;exact ⟨Jm (by rw [HR.out]),HB0.out.trans (Ja _ _)⟩
 ·have HR:Hid (r = false):=zH (by rw [<- hr.out];exact dF (fun e=>h1 (HS.out.1 e).1));have q1:(xn == yn) = false:=by simpa using h1
  clear HS hr h1 S1 S2 HC hW;go_enter Tryz.func17,Tryz.ntmps17;go_wp2_with fail;go_ret;exact ⟨Jm (by rw [HR.out]),al2 w _ _⟩
theorem LrI.btp {w:World} {base p cap:Nat} {B:Option Addr} {Ts:List TT} (h:LrI w base p B cap Ts):BT w p 106:=⟨_,_,h.cell⟩
theorem LrI.btB {w:World} {base p cap:Nat} {B:Option Addr} {Ts:List TT} (h:LrI w base p B cap Ts):∀ k,blk B = some k -> BT w k 27:=fun k hk=>BT.of_own (v:=.slice B Ts.length cap) h.row (by rw [<- hk];cases B <;> rfl)
theorem LrI.geB {w:World} {base p cap:Nat} {B:Option Addr} {Ts:List TT} (h:LrI w base p B cap Ts) (hn : 0 < Ts.length):∀ k,blk B = some k -> base <= k:=fun k hk=>by
 obtain ⟨g,cap',hv,hg,_⟩:=h.row.form hn;injection hv with e1
 subst e1;have hk':some g = some k:=hk;injection hk' with e2
 omega
theorem ZgA {w0 w:World} {F:List (Option Addr × List Value)} (h:Led w0 w F) (cs:Array Value) (t:TypeId) (k:Nat) (hk:w.heap.size = k):Led w0 (w.alloc (.cells cs t)) (F ++ [(some ⟨k,0,none⟩,cs.toList)]):=
 (h.alloc _).row (by subst hk;exact heap_alloc_new w _)
theorem Zj2 {w:World} {a:Nat} {l:List Int} (h:Lies w (some ⟨a,0,none⟩) (ics l)) (hl:l.length <= 1000000) (hb:∀ y ∈ l,-9223372036854775808 <= y /\ y <= 9223372036854775807):InOk w (some ⟨a,0,none⟩,l.length,l):=
 ⟨h,(fun e=>by cases e),tR hl (by decide),Nat.le_refl _,hb⟩
theorem Zka {w:World} {g a:Nat} {l1:List Int} (h:Lies w (some ⟨g,0,none⟩) [.slice (some ⟨a,0,none⟩) l1.length l1.length]) (h1:InOk w (some ⟨a,0,none⟩,l1.length,l1)):LL w (some ⟨g,0,none⟩) [(some ⟨a,0,none⟩,l1.length,l1)]:=
 ⟨h,fun x hx=>by rw [List.mem_singleton] at hx;subst hx;exact h1⟩
theorem ZjR (a b:Nat) (w:World) (h0:Lies w (some ⟨a,0,none⟩) [.int .i64 1]) (h1:Lies w (some ⟨b,0,none⟩) [.slice (some ⟨a,0,none⟩) 1 1]) :
  Calls Tryz.prog 31 #[.int .i64 1,.int .i64 1,.slice (some ⟨b,0,none⟩) 1 1] w fun e w'=>∃ A' c' L',e = .returned (.agg #[.int .i64 1,.int .i64 1,.slice A' (L':List Gm).length c']) /\ GLo w' w.heap.size A' c' L' /\ Je L' = [([0],1),([1],1)] /\ RowKit.Below w.heap.size w w':=by
 have:=Zde 1 1 (some ⟨b,0,none⟩) 1 (some ⟨a,0,none⟩,1,[1]) w (Zka (l1:=[1]) h1 (Zj2 h0 (by decide) (by decide))) (by decide) (by decide) (by simp);replace this:Calls Tryz.prog 31 #[.int .i64 1,.int .i64 1,.slice (some ⟨b,0,none⟩) 1 1] w fun e w'=>∃ A' c' L',e = .returned (.agg #[.int .i64 1,.int .i64 1,.slice A' (L':List Gm).length c']) /\ GLo w' w.heap.size A' c' L' /\ Je L' = Ud 1 [1] 2 /\ RowKit.Below w.heap.size w w':=this;rw [Zja] at this;exact this
theorem ZjP (A:Option Addr) (c:Nat) (L:List Gm) (w:World) (base:Nat) (h:GLo w base A c L) (ht:Je L = [([0],1),([1],1)]) :
  Calls Tryz.prog 9 #[.agg #[.int .i64 1,.int .i64 1,.slice A L.length c]] w fun e w'=>RowKit.Below w.heap.size w w' /\ ∃ p B t,e = .returned (.tuple #[.pointer (some ⟨p,0,none⟩),.int .i64 0]) /\ LrI w' w.heap.size p B 1 [t] /\ t.o = 1 /\ t.v = 1 /\ Je t.L = [([0],1),([1],1)] /\ w.heap.size <= p:=by
 have hl:L.length = 2:=by have:=congrArg List.length ht;simpa using this
 refine (Zbu 1 1 A c L w h.tb h.nilA (by omega) 0 (zH (by rw [ht];exact Zhe))).mono ?_;rintro e w' ⟨hb,hr⟩;rw [if_pos rfl] at hr;obtain ⟨p,B,t,he,hL,h1,h2,h3,h4⟩:=hr;exact ⟨hb,p,B,t,he,hL,h1,h2,h3.trans ht,h4⟩
theorem ZjF {α:Type} {l:List α} {a b : α} (h:l.Perm [a,b]):l = [a,b] ∨ l = [b,a]:=by
 have hl:=h.length_eq
 match l,hl with
 | [x,y],_=>
  rcases List.mem_cons.1 (h.mem_iff.1 (List.mem_cons_self (a:=x))) with rfl | h1
  ·have h2:=(List.perm_cons x).1 h;have:=List.perm_singleton.1 h2;injection this with e
   exact .inl (by rw [e])
  ·rw [List.mem_singleton] at h1;subst h1;have h2:[x,y].Perm [x,a]:=h.trans (List.Perm.swap _ _ _);have h3:=(List.perm_cons x).1 h2;have:=List.perm_singleton.1 h3;injection this with e
   exact .inr (by rw [e])
theorem ZjQ (base p:Nat) (B:Option Addr) (t:TT) (S:Option Addr) (sc:Nat) (w:World) (h:LrI w base p B 1 [t]) (hb:base <= w.heap.size) (hbp:base <= p) (ho:t.o = 1) (hv:t.v = 1) (ht:Je t.L = [([0],1),([1],1)]) (hI:InOk w (S,sc,[1,1])) :
  Calls Tryz.prog 10 #[.pointer (some ⟨p,0,none⟩),.slice S 2 sc,.int .i64 2] w fun e w'=>e = .returned (.int .i64 0) /\ ∃ B' cap' t2,LrI w' base p B' cap' [t,t2] /\ t2.o = 1 /\ t2.v = 1 /\ Je t2.L = [([0],3),([1],5)] /\ Two w w' p (blk B):=by
 refine (QO base p 1 1 1 B [] t S sc [1,1] 2 w h hb hbp ho hv hI (by decide) (by decide) (by decide) (by decide)).mono ?_;rintro e w' ⟨T1,hp,he,hif⟩;have e1:(XV 1 [1,1] ([1,1]:List Int).length.succ).map (fun q=>(gmW 1 q.1,q.2 * (2:Int))) = [([1],4),([0],2)]:=by
  rw [show XV 1 [1,1] ([1,1]:List Int).length.succ = [(kOf [1],2),(kOf [0],1)] from Zjb];decide +kernel
 have hp':T1.Perm [([1],4),([0],2)]:=by rw [<- e1];exact hp
 have hc:Ul (mrg (mrg [] (Je t.L)) T1) = 0:=by
  rw [ht];rcases ZjF hp' with h1 | h1
  ·rw [h1];exact Zh7
  ·rw [h1];exact Zh6
 rw [if_pos hc] at hif;obtain ⟨B',cap',t2,hL,ho2,hv2,hperm,hTwo,_⟩:=hif;refine ⟨by rw [he,hc],B',cap',t2,hL,ho2,hv2,?_,hTwo⟩;have ht2:=(hL.tab t2 (by simp)).ok;rw [ho2,hv2] at ht2;refine ZiI (o:=1) ht2 Zh5 fun k=>?_;have hval:=Zfy (o:=1) (v:=1) (n:=2) (s:=[1,1]) (T:=Je t.L) (T1:=T1) (T2:=Je t2.L) (by decide) (by decide) (by decide) (by rw [ht];exact Zhe) hp hperm k;rw [hval,ht];unfold Zjk;rw [show (XV 1 [1,1] (([1,1]:List Int).length + 1)).map (fun q=>(gmW 1 q.1,q.2 * (2:Int))) = [([1],4),([0],2)] from e1];simp only [J3];split <;> split <;> omega
end Go.Proofs.YtlgdlenoohkipaaGreat
