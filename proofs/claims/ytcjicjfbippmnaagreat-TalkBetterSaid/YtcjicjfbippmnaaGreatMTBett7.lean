/- TalkBetter -/
import Derived.Test.YtcjicjfbippmnaaGreatMTBett6
set_option maxRecDepth 100000
set_option maxHeartbeats 32000000
namespace Go.Proofs.YtcjicjfbippmnaaGreat
open Go.RowKit Ear

theorem ZC (A:Option Addr) (c:Nat) (a:List Int) (k:Nat) (w:World) (hA:Lies w A (ucs a)) (x:Int) (hx:Hid (a[k]?.getD 0 = x)) (hb : 0 <= x /\ x <= 4294967295) :
  Calls Tryz.prog 194 #[.slice A a.length c,.int .i64 k] w fun e w'=>e = .returned (.int .u64 x) /\ w = w':=by
 by_cases hlt:k < a.length
 ·obtain ⟨b1,o1,rfl,hb1,hc1⟩:=hA.uat hlt;rw [hx.out] at hc1;have q:¬ (a.length:Int) <= (k:Int):=by omega
  go_enter Tryz.func194,Tryz.ntmps194;go_wp2_with fail;go_ret;exact ⟨rfl,rfl⟩
 ·have HX:Hid (x = 0):=zH (by rw [<- hx.out,List.getElem?_eq_none (by omega)];rfl);have q:(a.length:Int) <= (k:Int):=by omega
  go_enter Tryz.func194,Tryz.ntmps194;go_wp2_with fail;go_ret;exact ⟨by rw [HX.out];rfl,rfl⟩
theorem Zhg (a:List Int) (p:Int) (k:Nat) (hk:k < a.length):(dnL a p).take (k + 1) = (dnL a p).take k ++ [Zjc a p k]:=by
 rw [List.take_succ_eq_append_getElem (by unfold dnL;simpa using hk)];unfold dnL;simp
theorem Zej (A:Option Addr) (c:Nat) (a:List Int) (i:Nat) (w:World) (hA:Dg w A c a) (hn:a.length <= 900000) (hi:i <= 31) (v:Nat) (hv:Hid (vl a = v)) :
  Calls Tryz.prog 196 #[.slice A a.length c,.int .i64 i] w (Zh (v / 2 ^ i) w):=by
 obtain ⟨w1,hmk,ho1,hb1⟩:=Yj w a.length (by omega) w.heap.size nR;obtain ⟨g,hg⟩:∃ g,g = w.heap.size:=⟨_,rfl⟩;rw [<- hg] at ho1 hmk;have HG:Hid (w.heap.size <= g):=by show _ <= _;omega
 have da:=zH hA.dig;have LA:=zH hA.lies;have HV:Hid (vl (dnL a ((2:Int) ^ i)) = ((v / 2 ^ i:Nat):Int)):=zH (by rw [ZiM da.out (Zc4 i) (UN hi),hv.out];simp);have HLn:Hid ((dnL a ((2:Int) ^ i)).length = a.length):=zH (by unfold dnL;simp);have HDL:=zH (ZiN a ((2:Int) ^ i));clear hg hA;go_enter Tryz.func196,Tryz.ntmps196;go_wp2_with fail;clear hmk;go_loopw [6,12] (fun _ j wr=>∃ k:Nat,k <= a.length /\ j = .int .i64 k /\ wr.ownsRow g 173 1 (.slice (some ⟨g,0,none⟩) a.length a.length) a.length (ucs ((dnL a ((2:Int) ^ i)).take k ++ (List.replicate a.length 0).drop k)) /\ Below w.heap.size w wr) (fun _ j _=>a.length - (intOf j).toNat)
 case atStart=>exact ⟨0,by omega,rfl,by simpa using ho1,hb1⟩
 case round=>
  obtain ⟨k,hk,rfl,r1,r2⟩:=hrel;clear ho1;have hol:((dnL a ((2:Int) ^ i)).take k).length = k:=by rw [List.length_take,HLn.out];omega
  by_cases hlt:k < a.length
  ·have L1:=LA.out.below r2;have d1:=JI da.out k;have d2:=JI da.out (k + 1);obtain ⟨q1,q2⟩:=J3 r1 (by rw [UZ hol (by simp;omega)];simp) hlt;have HS:Hid (∀ t,t = Zjc a ((2:Int) ^ i) k -> ((dnL a ((2:Int) ^ i)).take k ++ (List.replicate a.length 0).drop k).set k t = (dnL a ((2:Int) ^ i)).take (k + 1) ++ (List.replicate a.length 0).drop (k + 1)):=zH (fun t ht=>by rw [Zb5 hol (by simp;exact hlt),Zhg a _ k hlt,ht]);have HO:=zH r1;have HR2:=zH r2;have C1:=zH (ZC A c a k wr L1 _ (zH rfl) d1);have C2:=zH (ZC A c a (k + 1) wr L1 _ (zH rfl) d2);have HAt:Hid (Zjc a ((2:Int) ^ i) k = (a[k]?.getD 0 + a[k + 1]?.getD 0 * 4294967296) / (2:Int) ^ i % 4294967296):=zH rfl;generalize a[k]?.getD 0 = x at *
   generalize a[k + 1]?.getD 0 = y at *
   have pw:IntKind.u64.wrap (y * 4294967296) = y * 4294967296:=IntWalk.u64_in _ (by omega);have po:=ZdO y x d2.1 d2.2 d1.1 d1.2;have ek:((k + 1:Nat):Int) = (k:Int) + 1:=(by simp);rw [ek] at C2;clear r1 r2 hol hv L1 ek;go_wp2_with fail;refine C1.out.mono ?_;rintro e w' ⟨rfl,rfl⟩;go_wp2_with fail;refine C2.out.mono ?_;rintro e w' ⟨rfl,rfl⟩;go_wp2_with fail;refine ⟨⟨k + 1,by omega,by go_num,?_,HR2.out.setCell (by exact HG.out) _⟩,by simp [intOf];omega⟩;rw [<- HS.out _ HAt.out.symm];exact Xq HO.out k _
  ·obtain rfl:k = a.length:=by omega
   have HE:Hid ((dnL a ((2:Int) ^ i)).take a.length ++ (List.replicate a.length 0).drop a.length = dnL a ((2:Int) ^ i)):=zH (by rw [List.take_of_length_le (by rw [HLn.out];exact Nat.le_refl _),List.drop_eq_nil_of_le (by simp),List.append_nil]);rw [HE.out] at r1;have HT:=zH (Vk r1 HLn.out HDL.out (by omega) (v:=v / 2 ^ i) HV.out);have HR2:=zH r2;clear r1 r2 hol;go_wp2_with fail;refine HT.out.mono ?_;rintro e w' ⟨A2,c2,rfl,t1,t2,t3,t4⟩;go_wp2_with fail;go_ret;exact ⟨A2,c2,rfl,t1,t2,t3,HR2.out.trans (t4.mono HR2.out.size)⟩
theorem Zgl (j:Nat) (l:List Int):vl (List.replicate j 0 ++ l) = BB ^ j * vl l:=by
 rw [YW,Xk];simp
theorem ZgR {x:Nat} (h:x ≠ 0) (j:Nat):nd (x * 4294967296 ^ j) = List.replicate j 0 ++ nd x:=by
 have hd:dgs (List.replicate j 0 ++ nd x):=by
  intro y hy;rcases List.mem_append.1 hy with hy | hy
  ·exact Xa j y hy
  ·exact JJ x y hy
 have hc:cn (List.replicate j 0 ++ nd x):=by
  have h1:=Zkw x;have h2:(nd x).length ≠ 0:=fun e=>h (Ju.1 e);unfold cn at *
  rw [List.length_append,List.length_replicate,List.getElem?_append_right (by simp;omega),List.length_replicate,show j + (nd x).length - 1 - j = (nd x).length - 1 by omega];exact h1
 have e:=Zjy hd hc;rw [e];congr 1;rw [Zgl,Jy,Qm,Nat.mul_comm];have:((4294967296 ^ j:Nat):Int) * (x:Int) = ((4294967296 ^ j * x:Nat):Int):=by simp
 rw [this];rfl
theorem ZgV (w:World) (n:Nat) (hn:n <= 1000000000) (base:Nat) (hb:base <= w.heap.size) :
  ∃ w',(Instr.makeSlice 117 (.int .i64 (n:Int)) (.int .i64 (n:Int))).run Tryz.prog w = .ok (.slice (some ⟨w.heap.size,0,none⟩) n n) w' /\
   w'.ownsRow base 173 1 (.slice (some ⟨w.heap.size,0,none⟩) n n) n (ucs (List.replicate n 0)) /\ Below w.heap.size w w':=by
 obtain ⟨i0,hi0,hz0,hz1,hz2⟩:=info_parts XU;obtain ⟨w',h1,h2,h3⟩:=run_make_full (P:=Tryz.prog) w base 117 173 i0 _ 1 Tryz.underlying117 hi0 hz0 hz1 .i64 .i64 n (by rw [hz2];omega) (by unfold maxLen;omega) hb;rw [Zc9] at h2;exact ⟨w',h1,h2,Xf h3⟩
theorem Za0 (A:Option Addr) (c:Nat) (x j:Nat) (w:World) (hA:Dg w A c (nd x)) (hn:(nd x).length <= 900000) (hj:j <= 900000) :
  Calls Tryz.prog 195 #[.slice A (nd x).length c,.int .i64 j] w (Zh (x * 4294967296 ^ j) w):=by
 by_cases h0:x = 0
 ·subst h0;have HE:Hid (nd (0 * 4294967296 ^ j) = []):=zH (by rw [Nat.zero_mul,JC]);have hl:(nd 0).length = 0:=by rw [JC];rfl
  rw [hl];clear hl hn hA;go_enter Tryz.func195,Tryz.ntmps195;go_wp2_with fail;go_ret;exact ⟨none,0,by rw [HE.out];rfl,by rw [HE.out];exact Lies.nil _ _,by rw [HE.out];exact Nat.le_refl _,fun _=>rfl,Below.refl _ _⟩
 ·have HE:=zH (ZgR h0 j);have hne:(nd x).length ≠ 0:=fun e=>h0 (Ju.1 e);obtain ⟨w1,hmk,ho1,hb1⟩:=ZgV w j (by omega) w.heap.size nR;obtain ⟨j0,hj0,ky0,ky1,ky2⟩:=info_parts XU;have KI:=zH hj0;have KZ0:=zH ky0;have KZ1:=zH ky1;have KZ2:=zH ky2;clear hj0 ky0 ky1 ky2;have NA:=zH hA.nil;have LA:=zH (hA.lies.below hb1);clear hA;generalize hxs:nd x = xs at *
  have q:((xs.length:Int) == 0) = false:=beq_eq_false_iff_ne.2 (by omega);have HX:=zH hxs;clear hxs;go_enter Tryz.func195,Tryz.ntmps195;go_wp2_with (at_builtin;refine Jf _ rfl (.tmp 9) (.tmp 10) _ rfl w.heap.size 173 j0 _ 1 4 Tryz.underlying117 KI.out KZ0.out KZ1.out KZ2.out rfl (by omega) (.slice (some ⟨w.heap.size,0,none⟩) j j) j (ucs (List.replicate j 0)) rfl ho1 A xs.length c (ucs xs) rfl NA.out LA.out (by simp) (ZY _) (by unfold maxLen;omega) (by omega) hb1.size (j + xs.length) rfl ?_;intro A4 c4 w4 ho4 hg4 _);go_ret;rw [<- Xo] at ho4;refine ⟨A4,c4,by rw [HE.out];simp,?_,?_,(Xu ho4).2,hb1.grown hg4 hb1.size (fun k hk=>?_)⟩
  ·rw [HE.out];exact Lies.of_own ho4
  ·rw [HE.out];simp;exact (Xu ho4).1
  ·simp [Value.ownBlock] at hk;omega
theorem Zfe (x:Int) (w:World) (h0 : 1 <= x) (h1:x <= 4294967295) :
  Calls Tryz.prog 192 #[.int .u32 x] w fun e w'=>∃ k:Nat,k <= 31 /\ e = .returned (.int .i64 k) /\ w = w':=by
 have l:=Lib.bitLen_le x.toNat 32 (by omega) (by omega);have l1:=Zd2 x.toNat (by omega);have HC:=zH (fun W=>Zfb x W (by omega) h1);generalize Lib.bitLen x.toNat = b at *
 go_enter Tryz.func192,Tryz.ntmps192;go_wp2_with fail;refine (HC.out _).mono ?_;rintro e w' ⟨rfl,rfl⟩;go_wp2_with fail;go_ret;exact ⟨32 - b,by omega,JS (by omega),rfl⟩
def Qg (q r:Nat) (w:World) (e:Ending) (w':World):Prop:=
 ∃ A c B d,e = .returned (.tuple #[.slice A (nd q).length c,.slice B (nd r).length d]) /\ Dg w' A c (nd q) /\ Dg w' B d (nd r) /\ Below w.heap.size w w'
theorem JF {n:Nat} {w:World} {A:Option Addr} {c:Nat} (h1:Lies w A (ucs (nd n))) (h2:(nd n).length <= c) (h3:A = none -> c = 0):Dg w A c (nd n):=⟨h1,JJ n,h2,h3⟩
theorem ZhS (A B:Option Addr) (c d x y:Nat) (w:World) (hA:Dg w A c (nd x)) (hB:Dg w B d (nd y)) (hx:(nd x).length <= 400000) (hxy:x < y) :
  Calls Tryz.prog 170 #[.slice A (nd x).length c,.slice B (nd y).length d] w (Qg (x / y) (x % y) w):=by
 have H0:=zH (YG A B c d x y w hA hB (by omega) (-1) (zH (YS hxy)));have H1:=zH (fun n=>ZM A c (nd x) (w.drewN n) (hA.below (Ja _ _)) (by omega));have HQ:Hid (x / y = 0):=zH (Nat.div_eq_of_lt hxy);have HR:Hid (x % y = x):=zH (Nat.mod_eq_of_lt hxy);clear hA hB;go_enter Tryz.func170,Tryz.ntmps170;go_wp2_with fail;go_step3;go_wp2_with fail;refine H0.out.mono ?_;rintro e w' ⟨rfl,n,rfl⟩;go_wp2_with fail;refine (H1.out n).mono ?_;rintro e w' ⟨A2,c2,rfl,ho,hb⟩;go_wp2_with fail;go_ret2;rw [HQ.out,HR.out];exact ⟨none,0,A2,c2,by rw [JC];rfl,by rw [JC];exact Dg.none _,JF (Lies.of_own ho) (Xu ho).1 (Xu ho).2,(Ja w n).trans hb⟩
theorem Zgi (A B:Option Addr) (c d x y:Nat) (w:World) (hA:Dg w A c (nd x)) (hB:Dg w B d (nd y)) (hx:(nd x).length <= 400000) (hxy:y <= x) (y0:y ≠ 0) (y1:y <= 4294967295) :
  Calls Tryz.prog 170 #[.slice A (nd x).length c,.slice B (nd y).length d] w (Qg (x / y) (x % y) w):=by
 obtain ⟨r,hr,hr0⟩:∃ r,UB x y = r /\ ¬ r < 0:=by
  rcases Nat.lt_or_ge y x with h | h
  ·exact ⟨1,YB h,by decide⟩
  ·exact ⟨0,YT (by omega),by decide⟩
 have H0:=zH (YG A B c d x y w hA hB (by omega) r (zH hr));have e:nd y = [(y:Int)]:=by
  rw [Y1 y0,show y / 4294967296 = 0 by omega,JC,show y % 4294967296 = y by omega]
 rw [e] at hB H0;rw [e];have hm:x % y <= 4294967295:=by have:=Nat.mod_lt x (show 0 < y by omega);omega
 have H1:=zH (fun n=>Zei A c (nd x) y (w.drewN n) (hA.below (Ja _ _)) (by omega) (by omega) y1 x (zH (Jy x)));have H2:=zH (fun W=>Yp (x % y) W (by omega));obtain ⟨bk,off,rfl,hbk,hc⟩:=hB.lies.uat (k:=0) (by simp);simp only [List.getElem?_cons_zero,Option.getD_some,Nat.add_zero] at hc;simp only [List.length_cons,List.length_nil,Nat.zero_add] at H0 ⊢;clear hr hA hB e;generalize hz:x % y = z at *
 clear hz;go_enter Tryz.func170,Tryz.ntmps170;go_wp2_with fail;go_step3;go_wp2_with fail;refine H0.out.mono ?_;rintro e w' ⟨rfl,n,rfl⟩;go_wp2_with fail;refine (H1.out n).mono ?_;rintro e w' ⟨A2,c2,rfl,t1,t2,t3,t4⟩;go_wp2_with fail;refine (H2.out _).mono ?_;rintro e w2 ⟨A3,c3,rfl,s1,s2,s3,s4⟩;go_wp2_with fail;go_ret2;exact ⟨A2,c2,A3,c3,rfl,(JF t1 t2 t3).below s4,JF s1 s2 s3,((Ja w n).trans t4).trans (s4.mono (((Ja w n).trans t4).size))⟩
theorem ZeV {n:Nat} (h:n ≠ 0):(nd n)[(nd n).length - 1]?.getD 0 = ((n / 4294967296 ^ ((nd n).length - 1):Nat):Int) /\ 1 <= n / 4294967296 ^ ((nd n).length - 1) /\ n / 4294967296 ^ ((nd n).length - 1) <= 4294967295:=by
 have hl:(nd n).length ≠ 0:=fun e=>h (Ju.1 e);have h1:n / 4294967296 ^ ((nd n).length - 1) < 4294967296:=by
  have h2:=Vo n;rw [show (nd n).length = (nd n).length - 1 + 1 by omega,Nat.pow_succ] at h2;exact Nat.div_lt_of_lt_mul h2
 have h2 : 1 <= n / 4294967296 ^ ((nd n).length - 1):=(Nat.le_div_iff_mul_le (Nat.pow_pos (by decide))).2 (by have:=Zjz h;omega);refine ⟨?_,h2,by omega⟩;rw [Zbf,Nat.mod_eq_of_lt h1]
theorem Zbe (x j:Nat):(nd (x * 4294967296 ^ j)).length <= (nd x).length + j:=by
 apply JU;rw [Nat.pow_add];exact Nat.mul_lt_mul_of_pos_right (Vo x) (Nat.pow_pos (by decide))
theorem ZhX {rest v n j:Nat} (hn : 1 <= n) (hv:v < 4294967296 ^ n) (hr:rest < v * 4294967296 ^ (j + 1)):rest / 4294967296 ^ (j + n) % 4294967296 = rest / 4294967296 ^ (j + n) /\ rest / 4294967296 ^ (j + n) * 4294967296 + rest / 4294967296 ^ (j + (n - 1)) % 4294967296 = rest / 4294967296 ^ (j + (n - 1)):=by
 have e:j + n = j + (n - 1) + 1:=by omega
 have h1:rest < 4294967296 ^ (j + n) * 4294967296:=by
  rw [<- Nat.pow_succ,show (j + n).succ = n + (j + 1) by omega,Nat.pow_add];exact Nat.lt_of_lt_of_le hr (Nat.mul_le_mul_right _ (Nat.le_of_lt hv))
 have h2:rest / 4294967296 ^ (j + n) < 4294967296:=Nat.div_lt_of_lt_mul h1;refine ⟨Nat.mod_eq_of_lt h2,?_⟩;rw [e,Nat.pow_succ,<- Nat.div_div_eq_div_mul];omega
theorem Zgw {q:List Int} {j:Nat} (h:q[j]?.getD 0 = 0):q.set j 0 = q:=by
 by_cases hj:j < q.length
 ·rw [gE hj,Option.getD_some] at h;rw [<- h];exact List.set_getElem_self hj
 ·rw [List.set_eq_of_length_le (by omega)]
theorem ZdZ {u v:Nat} {q:List Int} {m j rest:Nat} (h:DivAt u v q m (j + 1) rest) (hj:j < m) (h2:rest < v * (0 + 1) * 4294967296 ^ j):DivAt u v q m j rest:=by
 have h3:=(h.next (t:=0) hj (by simp) h2).2;have h4:=Zgw (h.low j (by omega));simp only [Nat.mul_zero,Nat.zero_mul,Nat.sub_zero] at h3;rw [show (((0:Nat)):Int) = 0 from rfl,h4] at h3;exact h3
theorem Zek (A B:Option Addr) (c d x y:Nat) (w:World) (hA:Dg w A c (nd x)) (hB:Dg w B d (nd y)) (hx:(nd x).length <= 400000) (hxy:y <= x) (y0:y ≠ 0) (y1:(nd y).length ≠ 1) :
  Calls Tryz.prog 170 #[.slice A (nd x).length c,.slice B (nd y).length d] w (Qg (x / y) (x % y) w):=by
 obtain ⟨r,hr,hr0⟩:∃ r,UB x y = r /\ ¬ r < 0:=by
  rcases Nat.lt_or_ge y x with h | h
  ·exact ⟨1,YB h,by decide⟩
  ·exact ⟨0,YT (by omega),by decide⟩
 have H0:=zH (YG A B c d x y w hA hB (by omega) r (zH hr));have ly:=Jj hxy;have ly0:(nd y).length ≠ 0:=fun e=>y0 (Ju.1 e);obtain ⟨tp1,tp2,tp3⟩:=ZeV y0;have q1:(((nd y).length:Int) == 1) = false:=beq_eq_false_iff_ne.2 (by omega);obtain ⟨bk,off,rfl,hbk,hc⟩:=hB.lies.uat (k:=(nd y).length - 1) (by omega);rw [tp1] at hc;have i0:(((nd y).length:Int) - 1).toNat = (nd y).length - 1:=by omega
 have H1:=zH (fun W=>Zfe ((y / 4294967296 ^ ((nd y).length - 1):Nat):Int) W (by omega) (by omega));have DA:=zH hA;have DB:=zH hB;clear hr hA hB tp1;generalize ht:y / 4294967296 ^ ((nd y).length - 1) = ty at *
 clear ht;go_enter Tryz.func170,Tryz.ntmps170;go_wp2_with fail;go_step3;go_wp2_with fail;refine H0.out.mono ?_;rintro e w' ⟨rfl,n0,rfl⟩;clear H0;go_wp2_with fail;refine (H1.out _).mono ?_;rintro e w' ⟨i,hi,rfl,rfl⟩;clear H1;have W0:Hid (Below w.heap.size w (w.drewN n0)):=zH (Ja _ _);have H2:=zH (Qz A c (nd x) i (w.drewN n0) (DA.out.below W0.out) (by omega) hi x (zH (Jy x)));have DB1:=zH (DB.out.below W0.out);clear DA DB hc;generalize w.drewN n0 = w1 at *
 go_wp2_with fail;refine H2.out.mono ?_;clear H2;rintro e w2 ⟨UA,Uc,rfl,u1,u2,u3,u4⟩;have H3:=zH (Qz (some ⟨bk,off,none⟩) d (nd y) i w2 (DB1.out.below u4) (by omega) hi y (zH (Jy y)));have DU:=zH (JF u1 u2 u3);have W2:=zH (W0.out.trans (u4.mono W0.out.size));clear u1 u2 u3 u4 DB1 W0;go_wp2_with fail;refine H3.out.mono ?_;clear H3;rintro e w3 ⟨VA,Vc,rfl,v1,v2,v3,v4⟩;have DV:=zH (JF v1 v2 v3);have DU3:=zH (DU.out.below v4);have W3:=zH (W2.out.trans (v4.mono W2.out.size));have HP : 0 < 2 ^ i:=Nat.pow_pos (by decide);have v0:y * 2 ^ i ≠ 0:=Nat.mul_ne_zero y0 (by omega);have uv:y * 2 ^ i <= x * 2 ^ i:=Nat.mul_le_mul_right _ hxy;have HQ:Hid (x / y = x * 2 ^ i / (y * 2 ^ i)):=zH (Nat.mul_div_mul_right x y HP).symm;have HR:Hid (x % y = x * 2 ^ i % (y * 2 ^ i) / 2 ^ i):=zH (by rw [Nat.mul_mod_mul_right,Nat.mul_div_cancel _ HP]);have hul:(nd (x * 2 ^ i)).length <= (nd x).length + 1:=by
  have h1:=JW x (2 ^ i);have h2:(nd (2 ^ i)).length <= 1:=JU (by have:=Nat.pow_le_pow_right (show 0 < 2 by decide) hi;omega);omega
 have hlen:=Jj uv;clear v1 v2 v3 v4 DU W2 HP hxy uv;generalize hu:x * 2 ^ i = u at *
 generalize hv:y * 2 ^ i = v at *
 clear hu hv;obtain ⟨tv1,tv2,tv3⟩:=ZeV v0;have lv0:(nd v).length ≠ 0:=fun e=>v0 (Ju.1 e);obtain ⟨m,hm⟩:∃ m:Nat,m + (nd v).length = (nd u).length + 1:=⟨(nd u).length + 1 - (nd v).length,by omega⟩;have em:((nd u).length:Int) - ((nd v).length:Int) + 1 = (m:Int):=by omega
 obtain ⟨w4,hmk,ho4,hb4⟩:=Yj w3 m (by omega) w.heap.size W3.out.size;obtain ⟨g,hg⟩:∃ g,g = w3.heap.size:=⟨_,rfl⟩;rw [<- hg] at ho4 hmk;have HG:Hid (w.heap.size <= g):=by have:=W3.out.size;show _ <= _;omega
 have HVn:=zH (Vo v);have HVg:=zH (Zjz v0);have HST:=zH (DivAt.start (u:=u) (v:=v) (m:=m) (by
  have h1:=Vo u;have h2:=HVg.out;have h3:=Nat.mul_le_mul_right (4294967296 ^ m) h2;rw [<- Nat.pow_add,show (nd v).length - 1 + m = (nd u).length by omega] at h3;omega))
 have HGE:=zH hg;have B4:=zH (hg ▸ hb4:Below g w3 w4);have hs4:g + 1 <= w4.heap.size:=by
  obtain ⟨_,h2⟩:=ho4;rcases h2 with ⟨h3,_⟩ | ⟨g',cap,cur,h3,_,h4,_⟩
  ·cases h3
  ·cases h3;exact (aE h4).1
 have H4:=zH (ZM UA Uc (nd u) w4 (DU3.out.below hb4) (by omega));generalize hvt:v / 4294967296 ^ ((nd v).length - 1) = vt at *
 have HVT:Hid (vt * 4294967296 ^ ((nd v).length - 1) <= v):=zH (by rw [<- hvt];exact Nat.div_mul_le_self _ _);have HTV:=zH tv1;clear hvt hg hb4 DU3 tv1 ly0 y1 tp2 tp3 q1 i0;generalize hlv:(nd v).length = lv at *
 have HLV:=zH hlv;clear hlv;go_wp2_with fail;refine H4.out.mono ?_;clear H4 hmk;rintro e w5 ⟨RA,Rc,rfl,ro,rb⟩;have DR:=zH (Jw ro hs4);have B5:=zH (B4.out.trans (rb.mono (by omega)));have hs5:g + 1 <= w5.heap.size:=tR hs4 rb.size;have Q5:=zH (Jg ho4 rb);have hlu:m + lv <= 400002:=by omega
 clear ro rb ho4 B4;go_wp2_with fail;go_step3;go_wp2_with fail;go_loopw [13,14,15,16,17] (fun r13 j14 _ _ _ wr=>∃ k:Nat,k <= m /\ j14 = .int .i64 ((k:Int) - 1) /\ ∃ q rest RA Rc,Hid (DivAt u v q m k rest) /\ r13 = .slice RA (nd rest).length Rc /\ Hid (wr.ownsRow (g + 1) 173 1 (.slice RA (nd rest).length Rc) (nd rest).length (ucs (nd rest))) /\ Hid (wr.ownsRow w.heap.size 173 1 (.slice (some ⟨g,0,none⟩) m m) m (ucs q)) /\ Hid (Below g w3 wr)) (fun _ j14 _ _ _ _=>(intOf j14 + 1).toNat)
 case atStart=>exact ⟨m,Nat.le_refl _,rfl,_,_,_,_,HST,rfl,DR,Q5,B5⟩
 case round=>
  obtain ⟨k,hk,rfl,q,rest,RA1,Rc1,HD,rfl,HRO,HQO,HB⟩:=hrel;clear HST DR Q5 B5 hs5;have hsr:g + 1 <= wr.heap.size:=by
   obtain ⟨_,h2⟩:=HQO.out;rcases h2 with ⟨h3,_⟩ | ⟨g',cap,cur,h3,_,h4,_⟩
   ·cases h3
   ·cases h3;exact (aE h4).1
  have HBW:Hid (Below w.heap.size w wr):=zH (W3.out.trans (HB.out.mono HG.out));have hul2:(nd u).length <= 400001:=by omega
  have hrest:rest <= u:=by have:=HD.out.val;have h1:=Int.mul_nonneg (Jv HD.out.dig) (show (0:Int) <= v by omega);omega
  have hrl:(nd rest).length <= 400001:=tR (Jj hrest) hul2;have DRD:=zH (Vl HRO.out (JJ rest));by_cases h0:k = 0
  ·subst h0;obtain ⟨f1,f2⟩:=HD.out.done;have HT:=zH (Zbd HQO.out HD.out.len HD.out.dig (by omega) (v:=u / v) f1);have HF:=zH (fun W (hW:Below wr.heap.size wr W)=>Zej RA1 Rc1 (nd rest) i W (DRD.out.below hW) (by omega) hi rest (zH (Jy rest)));have HE:Hid (rest / 2 ^ i = x % y):=zH (by rw [HR.out,f2]);clear f1 f2;go_wp2_with fail;refine HT.out.mono ?_;rintro e w' ⟨A2,c2,rfl,t1,t4⟩;go_wp2_with fail;refine (HF.out _ t4).mono ?_;rintro e w6 ⟨A3,c3,rfl,s1,s2,s3,s4⟩;go_wp2_with fail;go_ret2;rw [HQ.out,<- HE.out];exact ⟨A2,c2,A3,c3,rfl,(JF (Lies.of_own t1) (Xu t1).1 (Xu t1).2).below s4,JF s1 s2 s3,(HBW.out.trans (t4.mono HBW.out.size)).trans (s4.mono ((HBW.out.trans (t4.mono HBW.out.size)).size))⟩
  ·obtain ⟨j,rfl⟩:∃ j,k = j + 1:=⟨k - 1,by omega⟩;have ej:(((j + 1:Nat):Int) - 1) = (j:Int):=(by omega);rw [ej];have hsm:=HD.out.small;obtain ⟨tt1,tt2⟩:=ZhX (n:=lv) (by omega) HVn.out hsm;have HGL:=zH (fun G (h:rest / 4294967296 ^ (j + (lv - 1)) < (G + 1) * vt)=>Zg6 HVT.out h);have b1:rest / 4294967296 ^ (j + lv) <= 4294967295:=(by rw [<- tt1];omega);have b2:rest / 4294967296 ^ (j + (lv - 1)) % 4294967296 <= 4294967295:=(by omega);have C1:=zH (ZC RA1 Rc1 (nd rest) (j + lv) wr DRD.out.lies _ (zH (Zbf _ _)) (by rw [tt1];omega));have C2:=zH (ZC RA1 Rc1 (nd rest) (j + (lv - 1)) wr DRD.out.lies _ (zH (Zbf _ _)) (by omega));rw [tt1] at C1;have ek1:((j + lv:Nat):Int) = (j:Int) + lv:=(by simp);have ek2:((j + (lv - 1):Nat):Int) = (j:Int) + lv - 1:=(by omega);rw [ek1] at C1;rw [ek2] at C2;clear ek1 ek2 tt1 ej;generalize rest / 4294967296 ^ (j + lv) = T1 at *
   generalize rest / 4294967296 ^ (j + (lv - 1)) % 4294967296 = T0 at *
   generalize rest / 4294967296 ^ (j + (lv - 1)) = T at *
   have hT:(T1:Int) * 4294967296 + T0 = (T:Int):=(by omega);have pw:IntKind.u64.wrap ((T1:Int) * 4294967296) = (T1:Int) * 4294967296:=IntWalk.u64_in _ (by omega);have po:=VS T1 T0 (by omega) (by omega) (by omega) (by omega);rw [hT] at po;have hv5:Hid (Dg wr VA Vc (nd v)):=zH (DV.out.below (HGE.out ▸ HB.out));obtain ⟨bv,ov,rfl,hbv,hcv⟩:=hv5.out.lies.uat (k:=lv - 1) (by rw [HLV.out];omega);rw [HTV.out] at hcv;have i0:((lv:Int) - 1).toNat = lv - 1:=(by omega);have vz:((vt:Int) == 0) = false:=(by simp;omega);have pd0 : 0 <= (T:Int) / vt:=Int.ediv_nonneg (by omega) (by omega);have pd1:(T:Int) / vt <= T:=Int.ediv_le_self _ (by omega);have pd:IntKind.u64.wrap ((T:Int) / vt) = (T:Int) / vt:=IntWalk.u64_in _ (by omega);obtain ⟨G,hG⟩:∃ G:Nat,min ((T:Int) / vt) 4294967295 = (G:Int):=⟨(min ((T:Int) / vt) 4294967295).toNat,by have : 0 <= (T:Int) / vt:=Int.ediv_nonneg (by omega) (by omega);omega⟩;have hG1:G <= 4294967295:=(by omega);have HGS:Hid (rest < v * (G + 1) * 4294967296 ^ j):=zH (by
    rcases Nat.lt_or_ge (T / vt) 4294967296 with h | h
    ·have hg2:G = T / vt:=(by have:(T:Int) / vt = ((T / vt:Nat):Int):=(by simp);omega);refine HGL.out G ?_;rw [hg2,Nat.mul_comm];exact Nat.lt_mul_div_succ T (by omega)
    ·have hg2:G = 4294967295:=(by have:(T:Int) / vt = ((T / vt:Nat):Int):=(by simp);omega);rw [hg2];rw [Nat.pow_succ] at hsm;rw [Nat.mul_assoc,Nat.mul_comm 4294967296];exact hsm)
   have HSM:=zH hsm;have HN:=zH (fun t (h1:v * t * 4294967296 ^ j <= rest) (h2:rest < v * (t + 1) * 4294967296 ^ j)=>HD.out.next (by omega) h1 h2);have HZ:=zH (fun h2=>ZdZ HD.out (by omega) h2);have hjm:j < m:=(by omega);clear tt2 hT HGL b1 b2 hsm pd0 pd1;go_wp2_with fail;refine C1.out.mono ?_;rintro e w' ⟨rfl,rfl⟩;go_wp2_with fail;refine C2.out.mono ?_;rintro e w' ⟨rfl,rfl⟩;clear C1 C2;obtain ⟨W0,rfl⟩:∃ X,X = wr:=⟨_,rfl⟩;go_wp2_with fail;have B0:=zH (Below.refl W0.heap.size W0);clear pw po hcv vz hG pd i0;go_loopw [13,16,17] (fun r13 g16 _ wr=>∃ G:Nat,g16 = .int .u64 G /\ G <= 4294967295 /\ Hid (rest < v * (G + 1) * 4294967296 ^ j) /\ r13 = .slice RA1 (nd rest).length Rc1 /\ Hid (Below W0.heap.size W0 wr)) (fun _ g16 _ _=>(intOf g16).toNat)
   case atStart=>exact ⟨G,rfl,hG1,HGS,rfl,B0⟩
   case round=>
    obtain ⟨G',rfl,hG1',HGS',rfl,HB0⟩:=hrel;clear B0 HGS hG1;have HBW1:=zH (HBW.out.trans (HB0.out.mono HBW.out.size));have HB1:=zH (HB.out.trans (HB0.out.mono (by omega)));have HRO1:=zH (Jg HRO.out HB0.out);have HQO1:=zH (Jg HQO.out HB0.out);by_cases hg0:G' = 0
    ·subst hg0;have HD1:=zH (HZ.out HGS'.out);go_wp2_with fail;exact ⟨⟨j,by omega,rfl,_,_,_,_,HD1,rfl,HRO1,HQO1,HB1⟩,by simp [intOf]⟩
    ·have HV1:=zH (hv5.out.below HB0.out);have S1:=zH (Yp G' wr (by omega));have gl:(nd G').length <= 1:=JU (by omega);have hgp:(0:Int) < (G':Int):=(by omega);have hg32:(G':Int) % 4294967296 = (G':Int):=(by omega);go_wp2_with fail;refine S1.out.mono ?_;clear S1;rintro e w6 ⟨SA,Sc,rfl,s1,s2,s3,s4⟩;have S2:=zH (ZB (some ⟨bv,ov,none⟩) SA Vc Sc (nd v) (nd G') w6 (HV1.out.below s4) (JF s1 s2 s3) (by rw [HLV.out];omega) (by omega) (v * G') (zH (by rw [Jy,Jy];simp)));rw [HLV.out] at S2;have B6:=zH (HB0.out.trans (s4.mono HB0.out.size));clear s1 s2 s3 s4;go_wp2_with fail;refine S2.out.mono ?_;clear S2;rintro e w7 ⟨MA,Mc,rfl,m1,m2,m3,m4⟩;have ml:(nd (v * G')).length <= lv + 1:=(by have:=JW v G';have:=HLV.out;omega);have S3:=zH (Za0 MA Mc (v * G') j w7 (JF m1 m2 m3) (by omega) (by omega));have B7:=zH (B6.out.trans (m4.mono B6.out.size));clear m1 m2 m3 m4;go_wp2_with fail;refine S3.out.mono ?_;clear S3;rintro e w8 ⟨PA,Pc,rfl,p1,p2,p3,p4⟩;have pl:(nd (v * G' * 4294967296 ^ j)).length <= 900000:=(by have:=Zbe (v * G') j;omega);have B8:=zH (B7.out.trans (p4.mono B7.out.size));have DP:=zH (JF p1 p2 p3);have DR8:=zH (DRD.out.below B8.out);clear p1 p2 p3 p4 B6 B7 ml;generalize hpt:v * G' * 4294967296 ^ j = pt at *
     have HPT:=zH hpt;clear hpt;rcases Nat.lt_or_ge rest pt with hc | hc
     ·have S4:=zH (YG PA RA1 Pc Rc1 pt rest w8 DP.out DR8.out (by omega) 1 (zH (YB hc)));have HG2:Hid (rest < v * (G' - 1 + 1) * 4294967296 ^ j):=zH (by rw [show G' - 1 + 1 = G' by omega,HPT.out];exact hc);go_wp2_with fail;refine S4.out.mono ?_;rintro e w9 ⟨rfl,n9,rfl⟩;have B9:Hid (Below W0.heap.size W0 (w8.drewN n9)):=zH (B8.out.trans (Ja _ _));clear S4;generalize w8.drewN n9 = w9 at *
      go_wp2_with fail;exact ⟨⟨G' - 1,by go_num,by omega,HG2,rfl,B9⟩,by simp [intOf];omega⟩
     ·obtain ⟨r2,hr2,hr20⟩:∃ r2,UB pt rest = r2 /\ ¬ 0 < r2:=by
       rcases Nat.lt_or_ge pt rest with h | h
       ·exact ⟨-1,YS h,by decide⟩
       ·exact ⟨0,YT (by omega),by decide⟩
      have S4:=zH (YG PA RA1 Pc Rc1 pt rest w8 DP.out DR8.out (by omega) r2 (zH hr2));clear hr2;obtain ⟨hn1,HDN⟩:=HN.out G' (by rw [HPT.out];exact hc) HGS'.out;rw [HPT.out] at HDN;have HDH:=zH HDN;clear hn1 HDN;go_wp2_with fail;refine S4.out.mono ?_;rintro e w9 ⟨rfl,n9,rfl⟩;have B9:Hid (Below W0.heap.size W0 (w8.drewN n9)):=zH (B8.out.trans (Ja _ _));have DP9:Hid (Dg (w8.drewN n9) PA Pc (nd pt)):=zH (DP.out.below (Ja _ _));have DR9:Hid (Dg (w8.drewN n9) RA1 Rc1 (nd rest)):=zH (DR8.out.below (Ja _ _));clear S4 DP DR8 B8;generalize w8.drewN n9 = w9 at *
      have S5:=zH (ZcF RA1 PA Rc1 Pc (nd rest) (nd pt) w9 DR9.out DP9.out (Jj hc) (by omega) (rest - pt) (zH (by rw [Jy,Jy];omega)));go_wp2_with fail;refine S5.out.mono ?_;rintro e wx ⟨XA,Xc,rfl,x1,x2⟩;have BX:=zH (B9.out.trans (x2.mono B9.out.size));have HX1:=zH (Jw x1 (tR hsr B9.out.size));have HQX:=zH (Jg HQO.out BX.out);have HBX:=zH (HB.out.trans (BX.out.mono (by omega)));obtain ⟨q1,q2⟩:=J3 HQX.out HD.out.len hjm;clear x1 x2 S5;go_wp2_with fail;exact ⟨⟨j,by omega,rfl,_,_,_,_,HDH,rfl,zH (JT HX1.out (by simp) _),zH (Xq HQX.out j _),zH (HBX.out.setCell (by simp) _)⟩,by simp [intOf]⟩
theorem Q6 (A B:Option Addr) (c d x y:Nat) (w:World) (hA:Dg w A c (nd x)) (hB:Dg w B d (nd y)) (hx:(nd x).length <= 400000) (y0:y ≠ 0) :
  Calls Tryz.prog 170 #[.slice A (nd x).length c,.slice B (nd y).length d] w (Qg (x / y) (x % y) w):=by
 rcases Nat.lt_or_ge x y with h | h
 ·exact ZhS A B c d x y w hA hB hx h
 ·by_cases h1:(nd y).length = 1
  ·have h2:=Vo y;rw [h1] at h2;exact Zgi A B c d x y w hA hB hx h y0 (by omega)
  ·exact Zek A B c d x y w hA hB hx h y0 h1
theorem Zgh (A B:Option Addr) (c d x y:Nat) (w:World) (hA:Dg w A c (nd x)) (hB:Dg w B d (nd y)) (hx:(nd x).length <= 400000) (hy:(nd y).length <= 400000) :
  Calls Tryz.prog 169 #[.slice A (nd x).length c,.slice B (nd y).length d] w (Zh (x.gcd y) w):=by
 have HA:=zH hA;have HB:=zH hB;have HG:Hid (x.gcd y = x.gcd y):=zH rfl;have H0:=zH (Below.refl w.heap.size w);clear hA hB;generalize hg:x.gcd y = g at *
 have HG2:=zH hg;clear hg HG;go_enter Tryz.func169,Tryz.ntmps169;go_wp2_with fail
 go_loopg [0,1,5,6] y (fun k a b _ _ wr=>∃ p A c B d,a = .slice A (nd p).length c /\ b = .slice B (nd k).length d /\ Hid (Dg wr A c (nd p)) /\ Hid (Dg wr B d (nd k)) /\ (nd p).length <= 400000 /\ (nd k).length <= 400000 /\ Hid (p.gcd k = g) /\ Hid (Below w.heap.size w wr))
 case atStart=>exact ⟨x,A,c,B,d,rfl,rfl,HA,HB,hx,hy,HG2,H0⟩
 case round=>
  obtain ⟨p,PA,pc,QA,qc,rfl,rfl,HP,HQ,lp,lq,HGG,HBW⟩:=hrel;by_cases h0:gk = 0
  ·subst h0;have hl:((nd 0).length:Nat) = 0:=(by rw [JC];rfl);have HE:Hid (p = g):=zH (by have:=HGG.out;rwa [Nat.gcd_zero_right] at this);rw [hl];clear hl;go_wp2_with fail;go_ret;rw [<- HE.out];exact ⟨PA,pc,rfl,HP.out.lies,HP.out.cap,HP.out.nil,HBW.out⟩
  ·have hl:(nd gk).length ≠ 0:=fun e=>h0 (Ju.1 e);have hl2:(0:Int) < ((nd gk).length:Int):=(by omega);have C:=zH (Q6 PA QA pc qc p gk wr HP.out HQ.out lp h0);have hm:p % gk < gk:=Nat.mod_lt _ (by omega);have lm:(nd (p % gk)).length <= 400000:=tR (Jj (Nat.le_of_lt hm)) lq;have HE:Hid (gk.gcd (p % gk) = g):=zH (by rw [<- HGG.out,Nat.gcd_comm,<- Nat.gcd_rec,Nat.gcd_comm]);generalize p % gk = r at *
   generalize p / gk = q at *
   clear hl;go_wp2_with fail;refine C.out.mono ?_;rintro e w' ⟨A1,c1,A2,c2,rfl,d1,d2,hb⟩;have HQ2:=zH (HQ.out.below hb);have HD2:=zH d2;have HB2:=zH (HBW.out.trans (hb.mono HBW.out.size));clear d1 d2 hb;go_wp2_with fail
   go_roundg r
   case measure=>exact hm
   case rel=>exact ⟨gk,QA,qc,A2,c2,rfl,rfl,HQ2,HD2,lq,lm,HE,HB2⟩
end Go.Proofs.YtcjicjfbippmnaaGreat
