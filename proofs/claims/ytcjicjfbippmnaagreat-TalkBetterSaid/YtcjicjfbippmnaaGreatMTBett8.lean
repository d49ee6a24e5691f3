/- TalkBetter -/
import Derived.Test.YtcjicjfbippmnaaGreatMTBett7
set_option maxRecDepth 100000
set_option maxHeartbeats 32000000
namespace Go.Proofs.YtcjicjfbippmnaaGreat
open Go.RowKit Ear

theorem Zaq (A B:Option Addr) (c d:Nat) (a b:List Int) (w:World) (hA0:Dg w A c a) (hB0:Dg w B d b) (hn:a.length <= 900000) (hm:b.length <= 900000)
  (v:Nat) (hv:Hid (vl a + vl b = v)) :
  Calls Tryz.prog 122 #[.slice A a.length c,.slice B b.length d] w (Zh v w):=by
 obtain ⟨j0,hj0,ky0,ky1,ky2⟩:=info_parts XU;have KI:=zH hj0;have KZ0:=zH ky0;have KZ1:=zH ky1;have KZ2:=zH ky2;clear hj0 ky0 ky1 ky2;obtain ⟨N,hN⟩:∃ N:Nat,N = max a.length b.length:=⟨_,rfl⟩;have la:a.length <= N:=by omega
 have lb:b.length <= N:=by omega
 have NB:N <= 900000:=by omega
 have HST:=zH (PlusAt.start a b);have da:=zH hA0.dig;have db:=zH hB0.dig;have hA:=hA0.lies;have hB:=hB0.lies;have HZ:∀ k out q,Hid (PlusAt a b out k q -> N + 1 <= k -> q = 0):=fun k out q=>zH (fun HM hk=>by
  have hval:=HM.val;rw [List.take_of_length_le (show a.length <= k by omega),List.take_of_length_le (show b.length <= k by omega)] at hval;have e1:=XP (vl a).toNat (vl b).toNat N (tR (JH da.out (by have:=Jv da.out;omega)) la) (tR (JH db.out (by have:=Jv db.out;omega)) lb);have e2:v < 4294967296 ^ k:=by
   have a0:=Jv da.out;have b0:=Jv db.out;have e3:(vl a).toNat + (vl b).toNat = v:=(by have:=hv.out;omega);rw [e3] at e1;exact Nat.lt_of_lt_of_le (Vo v) (Nat.pow_le_pow_right (by decide) (by omega))
  have e4:=Jv HM.dig;rw [Qm] at hval;have:=hv.out;have h0:=HM.c0;have h1:=HM.c1;rcases (show q = 0 ∨ q = 1 by omega) with rfl | rfl
  ·rfl
  ·exfalso;rw [Int.mul_one] at hval;omega)
 clear hA0 hB0 hN;go_enter Tryz.func122,Tryz.ntmps122;go_wp2_with fail;go_loopw [5,6,7] (fun s cy i wr=>∃ k:Nat,k <= N + 1 /\ i = .int .i64 k /\ ∃ out A' c' q,Hid (PlusAt a b out k q) /\ cy = .int .u64 q /\ s = .slice A' k c' /\ wr.ownsRow w.heap.size 173 1 (.slice A' k c') k (ucs out) /\ Below w.heap.size w wr) (fun _ _ i _=>N + 1 - (intOf i).toNat)
 case atStart=>exact ⟨0,by omega,rfl,[],none,0,0,HST,rfl,rfl,World.ownsRow_nil _ _ _ _,Below.refl _ _⟩
 case round=>
  obtain ⟨k,hk,rfl,out,A',c',q,HM,rfl,rfl,r1,r2⟩:=hrel;clear HST;have h0:=HM.out.c0;have h1:=HM.out.c1;have hs2:w.heap.size <= wr.heap.size:=r2.size;have d1:=JI da.out k;have d2:=JI db.out k;have hz:=(HZ k out q).out HM.out;have hk2:k = N + 1 -> q = 0:=fun e=>hz (by omega);have HX0:=zH (HM.out.next da.out db.out (t:=q + a[k]?.getD 0 + b[k]?.getD 0) rfl);have HB:=zH (hB.below r2);have HA:=zH (hA.below r2);clear hz;by_cases hka:k < a.length
  ·obtain ⟨b1,o1,rfl,hb1,hc1⟩:=HA.out.uat hka;clear hk2;by_cases hkb:k < b.length
   ·obtain ⟨b2,o2,rfl,hb2,hc2⟩:=HB.out.uat hkb;have HX:=zH HX0.out;generalize a[k]?.getD 0 = x at *
    generalize b[k]?.getD 0 = y at *
    go_wp2_with (at_builtin;refine Jf _ rfl (.tmp 46) (.tmp 49) _ rfl w.heap.size 173 j0 _ 1 4 Tryz.underlying26 KI.out KZ0.out KZ1.out KZ2.out rfl (by omega) (.slice A' k c') k (ucs out) rfl (r1.alloc _) (some ⟨wr.heap.size,0,none⟩) 1 1 [Value.int .u32 ((q + x + y) % 4294967296)] rfl (fun e=>by cases e) (XK _ _ _) (by simp) (by simp [Value.oneCell']) (by unfold maxLen;omega) (by omega) (by simp;omega) (k + 1) rfl ?_;intro A4 c4 w4 ho4 hg4 _);have hbel:Below w.heap.size w w4:=(r2.alloc hs2 _).grown hg4 (by simp;omega) (fun k hk=>(r1.lt k hk).1);exact ⟨⟨k + 1,by omega,by go_num,_,A4,c4,_,HX,rfl,rfl,by rw [Xo];exact ho4,hbel⟩,by simp [intOf];omega⟩
   ·have ey:b[k]?.getD 0 = 0:=(by rw [List.getElem?_eq_none (by omega)];rfl);have HX:=zH HX0.out;rw [ey,Int.add_zero] at HX;clear ey d2 HX0;generalize a[k]?.getD 0 = x at *
    go_wp2_with (at_builtin;refine Jf _ rfl (.tmp 46) (.tmp 49) _ rfl w.heap.size 173 j0 _ 1 4 Tryz.underlying26 KI.out KZ0.out KZ1.out KZ2.out rfl (by omega) (.slice A' k c') k (ucs out) rfl (r1.alloc _) (some ⟨wr.heap.size,0,none⟩) 1 1 [Value.int .u32 ((q + x) % 4294967296)] rfl (fun e=>by cases e) (XK _ _ _) (by simp) (by simp [Value.oneCell']) (by unfold maxLen;omega) (by omega) (by simp;omega) (k + 1) rfl ?_;intro A4 c4 w4 ho4 hg4 _);have hbel:Below w.heap.size w w4:=(r2.alloc hs2 _).grown hg4 (by simp;omega) (fun k hk=>(r1.lt k hk).1);exact ⟨⟨k + 1,by omega,by go_num,_,A4,c4,_,HX,rfl,rfl,by rw [Xo];exact ho4,hbel⟩,by simp [intOf];omega⟩
  ·have ex:a[k]?.getD 0 = 0:=by rw [List.getElem?_eq_none (by omega)];rfl
   by_cases hkb:k < b.length
   ·obtain ⟨b2,o2,rfl,hb2,hc2⟩:=HB.out.uat hkb;have HX:=zH HX0.out;rw [ex,Int.add_zero] at HX;clear ex d1 HX0 hk2;generalize b[k]?.getD 0 = y at *
    go_wp2_with (at_builtin;refine Jf _ rfl (.tmp 46) (.tmp 49) _ rfl w.heap.size 173 j0 _ 1 4 Tryz.underlying26 KI.out KZ0.out KZ1.out KZ2.out rfl (by omega) (.slice A' k c') k (ucs out) rfl (r1.alloc _) (some ⟨wr.heap.size,0,none⟩) 1 1 [Value.int .u32 ((q + y) % 4294967296)] rfl (fun e=>by cases e) (XK _ _ _) (by simp) (by simp [Value.oneCell']) (by unfold maxLen;omega) (by omega) (by simp;omega) (k + 1) rfl ?_;intro A4 c4 w4 ho4 hg4 _);have hbel:Below w.heap.size w w4:=(r2.alloc hs2 _).grown hg4 (by simp;omega) (fun k hk=>(r1.lt k hk).1);exact ⟨⟨k + 1,by omega,by go_num,_,A4,c4,_,HX,rfl,rfl,by rw [Xo];exact ho4,hbel⟩,by simp [intOf];omega⟩
   ·have ey:b[k]?.getD 0 = 0:=(by rw [List.getElem?_eq_none (by omega)];rfl);by_cases hq:q = 0
    ·have HD:Hid (vl out = v):=zH (by
      have h2:=HM.out;rw [hq] at h2;rw [h2.done (by omega) (by omega),hv.out])
     have DG:=zH HM.out.dig;have LN:=zH HM.out.len;have LO:=zH (Lies.of_own r1);obtain ⟨k1,k2⟩:=Xu r1;have hcall:=fun W (hW:Lies W A' (ucs out))=>JN A' c' out W hW DG (by rw [LN.out];exact k1) (by rw [LN.out];omega) v HD;rw [LN.out] at hcall;have HC:=zH hcall;subst hq;clear hcall h0 h1 ex ey d1 d2 HX0 hk2;go_wp2_with fail;refine (HC.out _ LO.out).mono ?_;rintro e w' ⟨rfl,rfl⟩;go_wp2_with fail;go_ret;exact ⟨A',c',rfl,LO.out.ndl DG.out HD.out,by have:=JH DG.out HD.out;rw [LN.out] at this;omega,k2,r2⟩
    ·obtain rfl:q = 1:=(by omega);have hkN:k < N + 1:=by
      rcases Nat.lt_or_ge k (N + 1) with h | h
      ·exact h
      ·exact absurd (hk2 (by omega)) (by decide)
     have HX:=zH HX0.out;rw [ex,ey,show (1:Int) + 0 + 0 = 1 by rfl,show (1:Int) % 4294967296 = 1 by rfl,show (1:Int) / 4294967296 = 0 by rfl] at HX;clear ex ey d1 d2 HX0 hk2;go_wp2_with (at_builtin;refine Jf _ rfl (.tmp 46) (.tmp 49) _ rfl w.heap.size 173 j0 _ 1 4 Tryz.underlying26 KI.out KZ0.out KZ1.out KZ2.out rfl (by omega) (.slice A' k c') k (ucs out) rfl (r1.alloc _) (some ⟨wr.heap.size,0,none⟩) 1 1 [Value.int .u32 (1)] rfl (fun e=>by cases e) (XK _ _ _) (by simp) (by simp [Value.oneCell']) (by unfold maxLen;omega) (by omega) (by simp;omega) (k + 1) rfl ?_;intro A4 c4 w4 ho4 hg4 _);have hbel:Below w.heap.size w w4:=(r2.alloc hs2 _).grown hg4 (by simp;omega) (fun k hk=>(r1.lt k hk).1);exact ⟨⟨k + 1,by omega,by go_num,_,A4,c4,_,HX,rfl,rfl,by rw [Xo];exact ho4,hbel⟩,by simp [intOf];omega⟩
theorem Zdn (x:Int) (h0 : 0 <= x) (h1:x <= 4294967295):bits .and .u32 x 1 = x % 2:=by
 obtain ⟨n,rfl⟩:=Int.eq_ofNat_of_zero_le h0;have h:=u32_and_nat n 1 (by omega) (by omega);rw [Nat.and_one_is_mod] at h;exact h.trans (by simp)
theorem Uy (A:Option Addr) (c:Nat) (a:List Int) (w:World) (hA:Dg w A c a) (hn:a.length <= 900000) (v:Nat) (hv:Hid (vl a = v)) :
  Calls Tryz.prog 179 #[.slice A a.length c] w (Zh (v / 2) w):=by
 obtain ⟨w1,hmk,ho1,hb1⟩:=Yj w a.length (by omega) w.heap.size nR;obtain ⟨g,hg⟩:∃ g,g = w.heap.size:=⟨_,rfl⟩;rw [<- hg] at ho1 hmk;have HG:Hid (w.heap.size <= g):=by show _ <= _;omega
 have da:=zH hA.dig;have LA:=zH hA.lies;have HST:Hid ((List.replicate a.length (0:Int)).length = a.length /\ dgs (List.replicate a.length 0) /\ ∀ j,a.length <= j -> j < a.length -> (List.replicate a.length (0:Int))[j]?.getD 0 = Ziv a j):=zH ⟨by simp,Xa _,fun j h1 h2=>by omega⟩;have HC0:Hid (a[a.length]?.getD 0 % 2 = 0):=zH (by rw [List.getElem?_eq_none nR];rfl);clear hg hA;go_enter Tryz.func179,Tryz.ntmps179;go_wp2_with fail;clear hmk;go_loopw [4,5] (fun cy i wr=>∃ k:Nat,k <= a.length /\ i = .int .i64 ((k:Int) - 1) /\ cy = .int .u32 (a[k]?.getD 0 % 2) /\ ∃ out,Hid (out.length = a.length /\ dgs out /\ ∀ j,k <= j -> j < a.length -> out[j]?.getD 0 = Ziv a j) /\ wr.ownsRow g 173 1 (.slice (some ⟨g,0,none⟩) a.length a.length) a.length (ucs out) /\ Below w.heap.size w wr) (fun _ i _=>(intOf i + 1).toNat)
 case atStart=>exact ⟨a.length,Nat.le_refl _,rfl,by rw [HC0.out],_,HST,ho1,hb1⟩
 case round=>
  obtain ⟨k,hk,rfl,rfl,out,HM,r1,r2⟩:=hrel;clear HST ho1 HC0;have hol:=HM.out.1;by_cases h0:k = 0
  ·subst h0;have VV:Hid (vl out = ((v / 2:Nat):Int)):=zH (by rw [Zki da.out hol (fun i hi=>HM.out.2.2 i (Nat.zero_le _) hi),hv.out];simp);have DG:=zH HM.out.2.1;have LO:=zH (Lies.of_own r1);have HL:=zH hol;have hcall:=fun W (hW:Lies W (some ⟨g,0,none⟩) (ucs out))=>JN (some ⟨g,0,none⟩) a.length out W hW DG (by omega) (by omega) (v / 2) VV;rw [hol] at hcall;have HC:=zH hcall;have HR2:=zH r2;clear hcall hol r1 r2;go_wp2_with fail;refine (HC.out _ LO.out).mono ?_;rintro e w' ⟨rfl,rfl⟩;go_wp2_with fail;go_ret;exact ⟨_,_,rfl,LO.out.ndl DG.out VV.out,by have:=JH DG.out VV.out;rw [HL.out] at this;omega,(fun e=>by cases e),HR2.out⟩
  ·obtain ⟨j,rfl⟩:∃ j,k = j + 1:=⟨k - 1,by omega⟩;have ej:(((j + 1:Nat):Int) - 1) = (j:Int):=(by omega);rw [ej];obtain ⟨b1,o1,eA,hb0,-⟩:=LA.out.uat (k:=j) (by omega);subst eA;have hc1:wr.cell? ⟨b1,o1 + j,none⟩ = some (.int .u32 (a[j]?.getD 0)):=by
    obtain ⟨b2,o2,e2,hb2,hc2⟩:=(LA.out.below r2).uat (k:=j) (by omega);cases e2;exact hc2
   have hne:¬ b1 = g:=(by have:=HG.out;omega);have hne':¬ g = b1:=(by have:=HG.out;omega);have dx:=JI da.out j;have dy:=JI da.out (j + 1);obtain ⟨q1,q2⟩:=J3 r1 hol (show j < a.length by omega);have HO:=zH r1;have HR2:=zH r2;have HS:Hid (∀ t,t = Ziv a j -> 0 <= t -> t <= 4294967295 -> (out.set j t).length = a.length /\ dgs (out.set j t) /\ ∀ q,j <= q -> q < a.length -> (out.set j t)[q]?.getD 0 = Ziv a q):=zH (fun t ht t0 t1=>⟨by simp [hol],Zx HM.out.2.1 _ t0 t1,fun q h1 h2=>by
    by_cases e:q = j
    ·subst e;rw [List.getElem?_set_self (by omega),<- ht];rfl
    ·rw [List.getElem?_set_ne (by omega)];exact HM.out.2.2 q (by omega) h2⟩)
   have HAt:Hid (Ziv a j = a[j]?.getD 0 / 2 + a[j + 1]?.getD 0 % 2 * 2147483648):=zH rfl;generalize hx:a[j]?.getD 0 = x at *
   have HXE:=zH hx;clear hx;generalize a[j + 1]?.getD 0 = y at *
   have po:=QO (x / 2) (y % 2 * 2147483648) 31 (by omega) (by have:((2:Int) ^ 31) = 2147483648:=rfl;omega) (by omega) (by omega) (by have:((2:Int) ^ 31) = 2147483648:=rfl;omega) (by omega);have pw:IntKind.u32.wrap (y % 2 * 2147483648) = y % 2 * 2147483648:=IntWalk.u32_in _ (by omega);have pa:=Zdn x dx.1 dx.2;have HF:=zH (HS.out _ HAt.out.symm (by omega) (by omega));clear r1 r2 hol HS hv ej;go_wp2_with fail;exact ⟨⟨j,by omega,rfl,by rw [HXE.out],_,HF,Xq HO.out j _,HR2.out.setCell (by exact HG.out) _⟩,by simp [intOf]⟩
theorem Yn (A:Option Addr) (c x:Nat) (w:World) (hA:Lies w A (ucs (nd x))) (b:Bool) (hb:Hid (decide (x % 2 = 0) = b)) :
  Calls Tryz.prog 178 #[.slice A (nd x).length c] w fun e w'=>e = .returned (.bool b) /\ w = w':=by
 by_cases h0:x = 0
 ·have HB:Hid (b = true):=zH (by rw [<- hb.out,h0];rfl);have hl:(nd x).length = 0:=by rw [h0,JC];rfl
  rw [hl];clear hl h0;go_enter Tryz.func178,Tryz.ntmps178;go_wp2_with fail;go_ret;exact ⟨Jn (by rw [HB.out]),rfl⟩
 ·have hl:(nd x).length ≠ 0:=fun e=>h0 (Ju.1 e);have q0:(((nd x).length:Int) == 0) = false:=beq_eq_false_iff_ne.2 (by omega);obtain ⟨b1,o1,rfl,hb1,hc1⟩:=hA.uat (k:=0) (by omega);rw [Zbf] at hc1;simp only [Nat.pow_zero,Nat.div_one,Nat.add_zero] at hc1;have hlp:(0:Int) < ((nd x).length:Int):=by omega
  have HB:Hid (b = (((x % 4294967296:Nat):Int) % 2 == 0)):=zH (by
   rw [<- hb.out,Bool.eq_iff_iff];simp;omega)
  have hr : 0 <= ((x % 4294967296:Nat):Int) /\ ((x % 4294967296:Nat):Int) <= 4294967295:=by omega
  generalize ((x % 4294967296:Nat):Int) = z at *
  generalize (nd x).length = m at *
  clear hl h0;go_enter Tryz.func178,Tryz.ntmps178;go_wp2_with fail;go_ret;exact ⟨Jn (by rw [HB.out]),rfl⟩
theorem Zhm (A:Option Addr) (c x:Nat) (w:World) (hA:Lies w A (ucs (nd x))) (hc:(nd x).length <= c) (hn:(nd x).length <= 900000) :
  Calls Tryz.prog 180 #[.slice A (nd x).length c] w fun e w'=>∃ n:Nat,x < 2 ^ n /\ n <= 32 * (nd x).length /\ e = .returned (.int .i64 n) /\ w = w':=by
 have HT:=zH (JN A c (nd x) w hA (zH (JJ x)) hc (by omega) x (zH (Jy x)));by_cases h0:x = 0
 ·have hl:(nd x).length = 0:=by rw [h0,JC];rfl
  rw [hl] at HT ⊢;have HX:Hid (x < 2 ^ 0):=zH (by rw [h0];decide);clear hl h0;go_enter Tryz.func180,Tryz.ntmps180;go_wp2_with fail;refine HT.out.mono ?_;rintro e w' ⟨rfl,rfl⟩;go_wp2_with fail;go_ret;exact ⟨0,HX.out,by omega,rfl,rfl⟩
 ·have hl:(nd x).length ≠ 0:=fun e=>h0 (Ju.1 e);have q0:(((nd x).length:Int) == 0) = false:=beq_eq_false_iff_ne.2 (by omega);obtain ⟨t1,t2,t3⟩:=ZeV h0;obtain ⟨b1,o1,rfl,hb1,hc1⟩:=hA.uat (k:=(nd x).length - 1) (by omega);rw [t1] at hc1;have i0:(((nd x).length:Int) - 1).toNat = (nd x).length - 1:=by omega
  have HXB:Hid (∀ s,x / 4294967296 ^ ((nd x).length - 1) / 2 ^ s = 0 -> x < 2 ^ (32 * ((nd x).length - 1) + s)):=zH (fun s hs=>by
   rw [Nat.div_div_eq_div_mul,Ql,<- Nat.pow_add] at hs;exact (Nat.div_eq_zero_iff_lt (Nat.pow_pos (by decide))).1 hs)
  generalize ht:x / 4294967296 ^ ((nd x).length - 1) = t at *
  clear ht t1;generalize hm:(nd x).length = m at *
  have HS:Hid ((t:Int) = ((t / 2 ^ 0:Nat):Int)):=zH (by simp);have em:((32 * (m - 1):Nat):Int) = 32 * ((m:Int) - 1):=by omega
  go_enter Tryz.func180,Tryz.ntmps180;go_wp2_with fail;refine HT.out.mono ?_;rintro e w' ⟨rfl,rfl⟩;go_wp2_with fail;go_loop [3,4] (fun n y=>∃ s:Nat,s <= 32 /\ n = .int .i64 (32 * ((m:Int) - 1) + s) /\ y = .int .u32 ((t / 2 ^ s:Nat):Int)) (fun _ y=>(intOf y).toNat)
  case atStart=>exact ⟨0,by omega,by simp,by rw [HS.out]⟩
  case round=>
   obtain ⟨s,hs,rfl,rfl⟩:=hrel;clear HS;by_cases hz:t / 2 ^ s = 0
   ·have HF:=zH (HXB.out s hz);have hz':((t / 2 ^ s:Nat):Int) = 0:=(by omega);rw [hz'];clear hz hz';go_wp2_with fail;go_ret;exact ⟨32 * (m - 1) + s,HF.out,by omega,JS (by omega),rfl⟩
   ·have hs2:s < 32:=by
     rcases Nat.lt_or_ge s 32 with h | h
     ·exact h
     ·exfalso;have h1:=Nat.pow_le_pow_right (show 0 < 2 by decide) h;exact hz (Nat.div_eq_of_lt (by omega))
    have hd:t / 2 ^ (s + 1) = t / 2 ^ s / 2:=(by rw [Nat.pow_succ,Nat.div_div_eq_div_mul]);have hb:t / 2 ^ s <= 4294967295:=tR (Nat.div_le_self _ _) (by omega);have HD:=zH hd;clear hd;generalize t / 2 ^ s = y at *
    have hy:(0:Int) < (y:Int):=(by omega);go_wp2_with fail;exact ⟨⟨s + 1,by omega,by go_num,by rw [HD.out];simp⟩,by simp [intOf];omega⟩
theorem Zaa (A:Option Addr) (c n:Nat) (w:World) (h:Dg w A c (nd n)) (hn:(nd n).length <= 1000000):Calls Tryz.prog 71 #[.slice A (nd n).length c] w fun e w'=>e = .returned (.slice A (nd n).length c) /\ w = w':=
 JN A c (nd n) w h.lies (zH h.dig) h.cap (by omega) n (zH (Jy n))
theorem Zbc {w:World} {base n c:Nat} {A:Option Addr} {l:List Int} (h:w.ownsRow base 173 1 (.slice A n c) n (ucs l)) (hl:l.length = n) (hd:dgs l) (hn:n <= 1000000) {v:Nat} (hv:vl l = v) :
  Calls Tryz.prog 71 #[.slice A n c] w fun e w'=>e = .returned (.slice A (nd v).length c) /\ w = w' /\ Dg w A c (nd v):=by
 subst hl;have hD:=Vl h hd;exact (JN A c l w hD.lies (zH hd) hD.cap (by omega) v (zH hv)).mono fun e w' hR=>⟨hR.1,hR.2,hD.nd hv⟩
theorem ZdY (A B:Option Addr) (c d x y:Nat) (w:World) (hA:Dg w A c (nd x)) (hB:Dg w B d (nd y)) (hn:(nd x).length <= 900000) (y0:y ≠ 0) (y1:y <= 4294967295) :
  Calls Tryz.prog 147 #[.slice A (nd x).length c,.slice B (nd y).length d] w (Qg (x / y) (x % y) w):=by
 have e:nd y = [(y:Int)]:=by
  rw [Y1 y0,show y / 4294967296 = 0 by omega,JC,show y % 4294967296 = y by omega]
 have T1:=zH (Zaa A c x w hA (by omega));have T2:=zH (Zaa B d y w hB (by rw [e];simp));rw [e] at hB T2;rw [e];obtain ⟨bk,off,rfl,hbk,hc⟩:=hB.lies.uat (k:=0) (by simp);simp only [List.getElem?_cons_zero,Option.getD_some,Nat.add_zero] at hc;simp only [List.length_cons,List.length_nil,Nat.zero_add] at T2 ⊢;obtain ⟨w1,hmk,ho1,hb1⟩:=Yj w (nd x).length (by omega) w.heap.size nR;obtain ⟨g,hg⟩:∃ g,g = w.heap.size:=⟨_,rfl⟩;have hne:¬ bk = g:=by omega
 have hne':¬ g = bk:=by omega
 have HBK:Hid (bk < w.heap.size):=hbk;rw [<- hg] at ho1 hmk;have HG:Hid (w.heap.size <= g):=by show _ <= _;omega
 have HST:=zH (OverAt.start (nd x) (d:=y) (by omega));have HC:=zH hc;have LA:=zH hA.lies;have DX:=zH (JJ x);have VX:=zH (Jy x);clear hg hA hB e hc;have hmod:x % y <= 4294967295:=by have:=Nat.mod_lt x (show 0 < y by omega);omega
 generalize nd x = a at *
 go_enter Tryz.func147,Tryz.ntmps147;go_wp2_with fail;refine T1.out.mono ?_;rintro e w' ⟨rfl,rfl⟩;go_wp2_with fail;refine T2.out.mono ?_;rintro e w' ⟨rfl,rfl⟩;clear T1 T2;go_wp2_with fail;clear hmk;go_loopw [7,8] (fun rs i wr=>∃ k:Nat,k <= a.length /\ i = .int .i64 ((k:Int) - 1) /\ ∃ out r,Hid (OverAt a out y k r) /\ rs = .int .u64 r /\ wr.ownsRow g 173 1 (.slice (some ⟨g,0,none⟩) a.length a.length) a.length (ucs out) /\ Below w.heap.size w wr) (fun _ i _=>(intOf i + 1).toNat)
 case atStart=>exact ⟨a.length,Nat.le_refl _,rfl,_,_,HST,rfl,ho1,hb1⟩
 case round=>
  obtain ⟨k,hk,rfl,out,r,HM,rfl,r1,r2⟩:=hrel;clear HST ho1;have h0:=HM.out.r0;have h1:=HM.out.r1;have hol:=HM.out.len;by_cases hz:k = 0
  ·subst hz;obtain ⟨f1,f2⟩:=HM.out.done;have HT:=zH (Zbc r1 hol HM.out.dig (by omega) (v:=x / y) (by rw [f1,VX.out];simp));have HR2:=zH r2;have HE:Hid (r = ((x % y:Nat):Int)):=zH (by rw [f2,VX.out];simp);obtain rfl:=HE.out;have HV1:Hid (vl [((x % y:Nat):Int)] = ((x % y:Nat):Int)):=zH (by simp [vl]);generalize x % y = z at *
   have hz0 : 0 <= (z:Int) /\ (z:Int) <= 4294967295:=(by omega);clear r1 r2 hol f1 f2 HM HE;go_wp2_with fail;refine HT.out.mono ?_;rintro e w' ⟨rfl,rfl,t1⟩;have D1:=zH (ZfM wr (z:Int) hz0 173);have T3:=zH (JN (some ⟨wr.heap.size,0,none⟩) 1 [(z:Int)] _ D1.out.lies (zH D1.out.dig) (by simp) (by simp) z HV1);have HD1:=zH (D1.out.nd HV1.out);have HA1:=zH (t1.below ((Below.refl _ wr).alloc nR (.cells #[.int .u32 (z:Int)] 173)));have HB1:=zH (HR2.out.alloc HR2.out.size (.cells #[.int .u32 (z:Int)] 173));simp only [List.length_cons,List.length_nil,Nat.zero_add] at T3;clear t1 D1;go_wp2_with fail;refine T3.out.mono ?_;rintro e w' ⟨rfl,rfl⟩;go_wp2_with fail;go_ret2;exact ⟨_,_,_,_,rfl,HA1.out,HD1.out,HB1.out⟩
  ·obtain ⟨j,rfl⟩:∃ j,k = j + 1:=⟨k - 1,by omega⟩;have ej:(((j + 1:Nat):Int) - 1) = (j:Int):=(by omega);rw [ej];obtain ⟨b1,o1,rfl,hb1,hc1⟩:=(LA.out.below r2).uat (k:=j) (by omega);have hc:wr.cell? ⟨bk,off,none⟩ = some (.int .u32 (y:Int)):=(r2.cell (p:=⟨bk,off,none⟩) HBK.out).trans HC.out;have dx:=JI DX.out j;obtain ⟨q1,q2⟩:=J3 r1 hol (show j < a.length by omega);have HN:=zH (fun t ht=>HM.out.next DX.out (by omega) (t:=t) ht);generalize a[j]?.getD 0 = x1 at *
   have HF:=zH (HN.out _ rfl);have HO:=zH r1;have HR2:=zH r2;have dz:((y:Int) == 0) = false:=(by simp;omega);have pw:IntKind.u64.wrap (r * 4294967296) = r * 4294967296:=IntWalk.u64_in _ (by omega);have po:=VS r x1 (by omega) (by omega) dx.1 dx.2;have pq:=VR h0 h1 dx.1 dx.2;have e32:(r * 4294967296 + x1) / (y:Int) % 4294967296 = (r * 4294967296 + x1) / (y:Int):=(by omega);clear HN hol r1 r2 pq ej;go_wp2_with fail;exact ⟨⟨j,by omega,rfl,_,_,HF,rfl,Xq HO.out j _,HR2.out.setCell (by exact HG.out) _⟩,by simp [intOf]⟩
theorem ZeS {a b:Nat} {out:List Int} {m i rest:Nat} (h:BitAt a b out m (i + 1) rest):bits .or .u32 (out[i / 32]?.getD 0) ((2:Int) ^ (i % 32)) = out[i / 32]?.getD 0 + (2:Int) ^ (i % 32):=by
 have h1:=Zbk h.low;rw [ZfL h.dig];generalize hx:(vl out).toNat / 4294967296 ^ (i / 32) % 4294967296 = x at *
 have hp : 2 ^ (i % 32) <= 2147483648:=Nat.pow_le_pow_right (show 0 < 2 by decide) (show i % 32 <= 31 by omega);rw [<- Vq,u32_or_nat _ _ (by omega) (by omega),Zjw h1];omega
end Go.Proofs.YtcjicjfbippmnaaGreat
