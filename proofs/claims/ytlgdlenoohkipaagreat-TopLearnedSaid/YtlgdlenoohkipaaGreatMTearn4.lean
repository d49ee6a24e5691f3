/- TopLearned -/
import Derived.Test.YtlgdlenoohkipaaGreatMTearn3
set_option maxRecDepth 100000
set_option maxHeartbeats 32000000
namespace Go.Proofs.YtlgdlenoohkipaaGreat
open Go.RowKit Ear

theorem Zcl (A B:Option Addr) (c d:Nat) (a b:List Int) (w:World) (hA:Dg w A c a) (hB:Dg w B d b) (hl:b.length <= a.length) (hn:a.length <= 1000000)
  (v:Nat) (hv:Hid (vl a - vl b = v)) :
  Calls Tryz.prog 188 #[.slice A a.length c,.slice B b.length d] w (URet (nd v) w):=by
 have HST:=zH (MinusAt.start a b);have da:=zH hA.dig;have db:=zH hB.dig;have LB:=zH hB.lies;have HC:=zH (Zr A c a w hA hn);clear hA hB;go_enter Tryz.func188,Tryz.ntmps188;go_wp2_with fail;refine HC.out.mono ?_;rintro e w1 ⟨A1,c1,rfl,ho1,hb1⟩;clear HC;go_wp2_with fail;go_loopw [6,7,8,9,14] (fun br _ _ _ i wr=>∃ k:Nat,k <= a.length /\ i = .int .i64 k /\ ∃ out q,Hid (MinusAt a b out k q) /\ br = .int .u64 q /\ wr.ownsRow w.heap.size 170 1 (.slice A1 a.length c1) a.length (ucs (out ++ a.drop k)) /\ Below w.heap.size w wr) (fun _ _ _ _ i _=>a.length - (intOf i).toNat)
 case atStart=>exact ⟨0,by omega,rfl,[],0,HST,rfl,ho1,hb1⟩
 case round=>
  obtain ⟨k,hk,rfl,out,q,HM,rfl,r1,r2⟩:=hrel;clear HST ho1;have h0:=HM.out.c0;have h1:=HM.out.c1;have hol:=HM.out.len;by_cases hlt:k < a.length
  ·obtain ⟨g,cap,hv',hgg,hglt⟩:=r1.form (by omega);obtain rfl:A1 = some ⟨g,0,none⟩:=(by injection hv');clear hv' cap;have HB:=zH (LB.out.below r2);have d1:=JH da.out k;have d2:=JH db.out k;have hq:=J5 r1 (UK hol hk) hlt;rw [Zfk hol k nR] at hq;obtain ⟨q1,q2⟩:=hq;have HS:Hid (∀ t,(out ++ a.drop k).set k t = (out ++ [t]) ++ a.drop (k + 1)):=zH (fun t=>ZbQ hol hlt t);have HO:=zH r1;have HR2:=zH r2;clear r1 r2 hol;have fin:∀ d' t,0 <= d' -> d' <= 1 -> t = a[k]?.getD 0 - (q + b[k]?.getD 0) + 4294967296 * d' -> 0 <= t -> t <= 4294967295 -> ∀ W,(wr.setCell ⟨g,k,none⟩ (.int .u32 t)) = W -> (∃ k':Nat,k' <= a.length /\ Value.int .i64 (k + 1:Int) = .int .i64 k' /\ ∃ out q,Hid (MinusAt a b out k' q) /\ Value.int .u64 d' = .int .u64 q /\ W.ownsRow w.heap.size 170 1 (.slice (some ⟨g,0,none⟩) a.length c1) a.length (ucs (out ++ a.drop k')) /\ Below w.heap.size w W):=by
    rintro d' t x1 x2 x3 x4 x5 W rfl;refine ⟨k + 1,by omega,by simp,_,_,zH (HM.out.next x1 x2 x3 x4 x5),rfl,?_,HR2.out.setCell hgg _⟩;rw [<- HS.out];exact Xi HO.out k _
   have FIN:=zH fin;clear fin;by_cases hkb:k < b.length
   ·obtain ⟨b2,o2,rfl,hb2,hc2⟩:=HB.out.uat hkb;by_cases hxy:a[k]?.getD 0 < q + b[k]?.getD 0
    ·have F:=zH (FIN.out 1 (a[k]?.getD 0 + 4294967296 - (q + b[k]?.getD 0)) (by omega) (by omega) (by omega) (by omega) (by omega) _ rfl);clear FIN;generalize a[k]?.getD 0 = x at *
     generalize b[k]?.getD 0 = y at *
     go_wp2_with fail;exact ⟨F.out,by simp [intOf];omega⟩
    ·have F:=zH (FIN.out 0 (a[k]?.getD 0 - (q + b[k]?.getD 0)) (by omega) (by omega) (by omega) (by omega) (by omega) _ rfl);clear FIN;generalize a[k]?.getD 0 = x at *
     generalize b[k]?.getD 0 = y at *
     go_wp2_with fail;exact ⟨F.out,by simp [intOf];omega⟩
   ·have hy:b[k]?.getD 0 = 0:=(by rw [List.getElem?_eq_none (by omega)];rfl);by_cases hxy:a[k]?.getD 0 < q
    ·have F:=zH (FIN.out 1 (a[k]?.getD 0 + 4294967296 - q) (by omega) (by omega) (by omega) (by omega) (by omega) _ rfl);clear FIN hy;generalize a[k]?.getD 0 = x at *
     go_wp2_with fail;exact ⟨F.out,by simp [intOf];omega⟩
    ·have F:=zH (FIN.out 0 (a[k]?.getD 0 - q) (by omega) (by omega) (by omega) (by omega) (by omega) _ rfl);clear FIN hy;generalize a[k]?.getD 0 = x at *
     go_wp2_with fail;exact ⟨F.out,by simp [intOf];omega⟩
  ·obtain rfl:k = a.length:=by omega
   have HT:=zH (ZaY r1 (UK hol hk) (by rw [List.drop_eq_nil_of_le nR,List.append_nil];exact HM.out.dig) (by omega) (v:=v) (by rw [List.drop_eq_nil_of_le nR,List.append_nil,HM.out.done hl (by have:=hv.out;omega)];exact hv.out));have HR2:=zH r2;clear r1 r2 hol;go_wp2_with fail;refine HT.out.mono ?_;rintro e w' ⟨A2,c2,rfl,t1,t4⟩;go_wp2_with fail;go_ret;exact ⟨A2,c2,rfl,J9 t1 HR2.out.size,HR2.out.trans (t4.mono HR2.out.size)⟩
theorem Zcm (A B:Option Addr) (c d:Nat) (a b:List Int) (w:World) (hA:Dg w A c a) (hB:Dg w B d b) (hl:b.length <= a.length) (hn:a.length <= 1000000)
  (v:Nat) (hv:Hid (vl a - vl b = v)) :
  Calls Tryz.prog 188 #[.slice A a.length c,.slice B b.length d] w (Yo v w):=(Zcl A B c d a b w hA hB hl hn v hv).mono fun _ _ hR=>hR.nd
theorem Zh (A B:Option Addr) (c d:Nat) (a b:List Int) (w:World) (hA0:Dg w A c a) (hB0:Dg w B d b) (hn:a.length <= 450000) (hm:b.length <= 450000)
  (v:Nat) (hv:Hid (vl a * vl b = v)) :
  Calls Tryz.prog 183 #[.slice A a.length c,.slice B b.length d] w (Yo v w):=by
 have hA:=hA0.lies;have hB:=hB0.lies;have da:=zH hA0.dig;have db:=zH hB0.dig;clear hA0 hB0;obtain ⟨w1,hmk,ho1,hb1⟩:=XN w (a.length + b.length) (by omega) w.heap.size nR;have e2:((a.length + b.length:Nat):Int) = (a.length:Int) + (b.length:Int):=by simp
 rw [e2] at hmk;obtain ⟨g,hg⟩:∃ g,g = w.heap.size:=⟨_,rfl⟩;rw [<- hg] at ho1 hmk;have HG:Hid (w.heap.size <= g):=by show _ <= _;omega
 have HST:=zH (MulOut.start a b);clear hg e2;go_enter Tryz.func183,Tryz.ntmps183;go_wp2_with fail;clear hmk;go_loopw [6,7,8,9,10,19] (fun _ _ _ _ _ i wr=>∃ k:Nat,k <= a.length /\ i = .int .i64 k /\ ∃ out,Hid (MulOut a b out k) /\ wr.ownsRow g 170 1 (.slice (some ⟨g,0,none⟩) (a.length + b.length) (a.length + b.length)) (a.length + b.length) (ucs out) /\ Below w.heap.size w wr) (fun _ _ _ _ _ i _=>a.length - (intOf i).toNat)
 case atStart=>exact ⟨0,by omega,rfl,_,HST,ho1,hb1⟩
 case round=>
  obtain ⟨k,hk,rfl,out,HO,r1,r2⟩:=hrel;by_cases hlt:k < a.length
  ·obtain ⟨bk,off,rfl,hb,hc⟩:=(hA.below r2).uat hlt;have HI:=zH HO.out.enter;have hx:=JH da.out k;generalize hx1:a[k]?.getD 0 = x at *
   have HX:=zH hx1;clear hx1;go_wp2_with fail;go_loopw [8,9,10,26] (fun cy _ _ i wr=>∃ m:Nat,m <= b.length /\ i = .int .i64 m /\ ∃ out c,Hid (MulIn a b out k m c) /\ cy = .int .u64 c /\ wr.ownsRow g 170 1 (.slice (some ⟨g,0,none⟩) (a.length + b.length) (a.length + b.length)) (a.length + b.length) (ucs out) /\ Below w.heap.size w wr) (fun _ _ _ i _=>b.length - (intOf i).toNat)
   case atStart=>exact ⟨0,by omega,rfl,out,0,HI,rfl,r1,r2⟩
   case round=>
    obtain ⟨m,hm',rfl,out',cy,HS,rfl,s1,s2⟩:=hrel;clear r1 r2;by_cases hlm:m < b.length
    ·obtain ⟨bj,offj,rfl,hbj,hcj⟩:=(hB.below s2).uat hlm;have hy:=JH db.out m;have ho:=JH HS.out.dig (k + m);have h0:=HS.out.c0;have h1:=HS.out.c1;have hl:=HS.out.len;obtain ⟨q1,q2⟩:=J5 s1 hl (show k + m < a.length + b.length by omega);have HN:=zH (fun t ht=>HS.out.next da.out db.out hlt hlm (t:=t) ht);have hp:=ZbM hx hy;generalize hy1:b[m]?.getD 0 = y at *
     generalize ho1':out'[k + m]?.getD 0 = z at *
     have HL:=zH hl;have HY:=zH hy1;have HZ:=zH ho1';clear hl hy1 ho1';have hs:=HN.out (cy + (x * y + z)) (by rw [HX.out];omega);have HS1:=zH hs;clear hs;have i0:((k:Int) + (m:Int)).toNat = k + m:=(by omega);have i1:(0:Int) <= (k:Int) + (m:Int):=(by omega);have i2:(k:Int) + (m:Int) < (a.length:Int) + (b.length:Int):=(by omega);have p4:IntKind.i64.wrap ((k:Int) + (m:Int)) = (k:Int) + (m:Int):=IntWalk.i64_in _ (by omega);have p2:IntKind.u64.wrap (x * y) = x * y:=IntWalk.u64_in _ (by omega);have p1:IntKind.u64.wrap (x * y + z) = x * y + z:=IntWalk.u64_in _ (by omega);have p3:IntKind.u64.wrap (cy + (x * y + z)) = cy + (x * y + z):=IntWalk.u64_in _ (by omega);go_wp2_with fail;have b3 : 0 <= cy + (x * y + z) /\ cy + (x * y + z) <= 18446744073709551615:=(by clear p1 p2 p3 p4;omega);clear p1 p2 p3 p4;go_wp2_with fail;exact ⟨⟨m + 1,by omega,by go_num,_,_,HS1,rfl,Xi s1 (k + m) _,s2.setCell (by exact HG.out) _⟩,by simp [intOf];omega⟩
    ·obtain rfl:m = b.length:=(by omega);have h0:=HS.out.c0;have h1:=HS.out.c1;have hl:=HS.out.len;obtain ⟨q1,q2⟩:=J5 s1 hl (show k + b.length < a.length + b.length by omega);have HL:=zH (HS.out.leave hlt);have i0:((k:Int) + (b.length:Int)).toNat = k + b.length:=(by omega);clear hl;go_wp2_with fail;exact ⟨⟨k + 1,by omega,by go_num,_,HL,Xi s1 (k + b.length) _,s2.setCell (by exact HG.out) _⟩,by simp [intOf];omega⟩
  ·obtain rfl:k = a.length:=by omega
   have HT:=zH (ZX r1 HO.out.len HO.out.dig (by omega) (v:=v) (by rw [HO.out.done,hv.out]));have HR2:=zH r2;clear r1 r2;go_wp2_with fail;refine HT.out.mono ?_;rintro e w' ⟨A2,c2,rfl,t1,t2,t3,t4⟩;go_wp2_with fail;go_ret;exact ⟨A2,c2,rfl,t1,t2,t3,HR2.out.trans (t4.mono HR2.out.size)⟩
end Go.Proofs.YtlgdlenoohkipaaGreat
namespace Ear

theorem ZA (l:List Int) (i:Nat):vl (l.drop i) = l[i]?.getD 0 + 4294967296 * vl (l.drop (i + 1)):=by
 by_cases hi:i < l.length
 ·rw [List.drop_eq_getElem_cons hi,vl,List.getElem?_eq_getElem hi];simp only [BB,Option.getD_some]
 ·rw [List.drop_eq_nil_of_le (by omega),List.drop_eq_nil_of_le (by omega),List.getElem?_eq_none (by omega)];simp [vl]
theorem Zam (l:List Int) (i:Nat) (v:Int):(l.set i v).drop (i + 1) = l.drop (i + 1):=by
 rw [List.drop_set];rw [if_pos (by omega)]
structure OverAt (a out:List Int) (d:Int) (i:Nat) (r:Int):Prop where
 len:out.length = a.length
 dig:dgs out
 r0 : 0 <= r
 r1:r < d
 val:vl (a.drop i) = vl (out.drop i) * d + r
theorem OverAt.start (a:List Int) {d:Int} (h : 0 < d):OverAt a (List.replicate a.length 0) d a.length 0:=
 ⟨by simp,J7 _,by omega,h,by simp [vl]⟩
theorem VJ {r d x:Int} (h0 : 0 <= r) (h1:r < d) (hx0 : 0 <= x) (hx1:x <= 4294967295) : 0 <= (r * 4294967296 + x) / d /\ (r * 4294967296 + x) / d <= 4294967295 /\ 0 <= (r * 4294967296 + x) % d /\ (r * 4294967296 + x) % d < d:=by
 have a1:=Int.ediv_nonneg (a:=r * 4294967296 + x) (b:=d) (by omega) (by omega);have a2:(r * 4294967296 + x) / d < 4294967296:=Int.ediv_lt_of_lt_mul (by omega) (by omega);exact ⟨a1,by omega,Int.emod_nonneg _ (by omega),Int.emod_lt_of_pos _ (by omega)⟩
theorem OverAt.next {a out:List Int} {d:Int} {i:Nat} {r:Int} (h:OverAt a out d (i + 1) r) (ha:dgs a) (hi:i < a.length) {t:Int} (ht:t = r * 4294967296 + a[i]?.getD 0):OverAt a (out.set i (t / d)) d i (t % d):=by
 have hx:=JH ha i;have hq:=VJ h.r0 h.r1 hx.1 hx.2;rw [<- ht] at hq;refine ⟨by simp [h.len],Zd h.dig _ hq.1 hq.2.1,hq.2.2.1,hq.2.2.2,?_⟩;rw [ZA a i,ZA (out.set i _) i,Zam,h.val,List.getElem?_set_self (by rw [h.len];exact hi)];simp only [Option.getD_some];have e:=Int.mul_ediv_add_emod t d;rw [Int.add_mul,Int.mul_assoc,Int.mul_comm (t / d) d,Int.mul_add];omega
theorem OverAt.done {a out:List Int} {d:Int} {r:Int} (h:OverAt a out d 0 r):vl out = vl a / d /\ r = vl a % d:=by
 have hv:=h.val;simp only [List.drop_zero] at hv;have h0:=h.r0;have h1:=h.r1;rw [hv];constructor
 ·rw [Int.add_comm,Int.add_mul_ediv_right _ _ (by omega),Int.ediv_eq_zero_of_lt h0 h1];omega
 ·rw [Int.add_comm,Int.add_mul_emod_self_right,Int.emod_eq_of_lt h0 h1]
structure ShAt (a out:List Int) (p:Int) (i:Nat):Prop where
 len:out.length = a.length + 1
 dig:dgs out
 zer:zer out (i + 1)
 top:out[i]?.getD 0 < p
 val:vl out = vl (a.take i) * p
theorem ShAt.start (a:List Int) {p:Int} (h : 0 < p):ShAt a (List.replicate (a.length + 1) 0) p 0:=
 ⟨by simp,J7 _,ZL _ _,by simp;exact h,by rw [Xd];simp [vl]⟩
theorem ShAt.next {a out:List Int} {p s:Int} {i:Nat} (h:ShAt a out p i) (ha:dgs a) (hi:i < a.length) (hp : 0 < p) (hs:p * s = 4294967296) {x y z:Int} (hx:x = a[i]?.getD 0) (hy:y = out[i]?.getD 0 + x * p % 4294967296) (hz:z = x / s) :
  0 <= y /\ y <= 4294967295 /\ 0 <= z /\ z < p /\ ShAt a ((out.set i y).set (i + 1) z) p (i + 1):=by
 have hd:=JH ha i;rw [<- hx] at hd;have ho:=JH h.dig i;have ht:=h.top;have s0 : 0 < s:=by
  rcases Int.lt_trichotomy s 0 with h1 | h1 | h1
  ·have:=Int.mul_neg_of_pos_of_neg hp h1;omega
  ·rw [h1,Int.mul_zero] at hs;omega
  ·exact h1
 -- x p = (x / s) B + (x % s) p
 have e0:=Int.mul_ediv_add_emod x s;have e1:x * p = (x / s) * 4294967296 + (x % s) * p:=by
  have:x * p = (s * (x / s) + x % s) * p:=by rw [e0]
  rw [this,Int.add_mul,<- hs,Int.mul_comm s (x / s),Int.mul_assoc,Int.mul_comm s p]
 have r0:=Int.emod_nonneg x (show s ≠ 0 by omega);have r1:=Int.emod_lt_of_pos x s0;have b1:(x % s) * p <= 4294967296 - p:=by
  have:=Int.mul_le_mul_of_nonneg_right (show x % s <= s - 1 by omega) (show 0 <= p by omega);rw [Int.sub_mul,Int.one_mul,Int.mul_comm s p,hs] at this;exact this
 have b0 : 0 <= (x % s) * p:=Int.mul_nonneg r0 (by omega);have e2:x * p % 4294967296 = (x % s) * p:=by
  rw [e1,Int.add_comm,Int.add_mul_emod_self_right,Int.emod_eq_of_lt b0 (by omega)]
 have z0 : 0 <= x / s:=Int.ediv_nonneg hd.1 (by omega);have z1:x / s < p:=Int.ediv_lt_of_lt_mul s0 (by rw [hs];omega);rw [e2] at hy;rw [<- hz] at e1 z0 z1;have y1 : 0 <= y:=by omega
 have y2:y <= 4294967295:=by omega
 have pB:p <= 4294967296:=by
  have:=Int.mul_le_mul_of_nonneg_left (show 1 <= s by omega) (show 0 <= p by omega);omega
 refine ⟨y1,y2,z0,z1,by simp [h.len],Zd (Zd h.dig _ y1 y2) _ z0 (by omega),?_,?_,?_⟩
 ·intro q hq;rw [List.getElem?_set_ne (by omega),List.getElem?_set_ne (by omega)];exact h.zer q (by omega)
 ·rw [List.getElem?_set_self (by simp [h.len];omega)];exact z1
 ·rw [Qp _ _ _ (by simp [h.len];omega),Qp _ _ _ (by rw [h.len];omega),List.getElem?_set_ne (by omega),h.zer _ (Nat.le_refl _),h.val,Yq a i hi,<- hx,Int.add_mul,Zaz];have e3:BB * BB ^ i * (z - 0) = BB ^ i * (z * 4294967296):=by rw [Int.sub_zero,Int.mul_comm BB,Int.mul_assoc,Int.mul_comm BB z]
  rw [e3,Int.mul_assoc (BB ^ i) x p,e1,hy,Int.mul_add];have e4:BB ^ i * (out[i]?.getD 0 + x % s * p - out[i]?.getD 0) = BB ^ i * (x % s * p):=by congr 1;omega
  rw [e4];omega
theorem ShAt.done {a out:List Int} {p:Int} (h:ShAt a out p a.length):vl out = vl a * p:=by
 rw [h.val,List.take_length]
def ZiG (a:List Int) (p:Int) (i:Nat):Int:=(a[i]?.getD 0 + a[i + 1]?.getD 0 * 4294967296) / p % 4294967296
def dnL (a:List Int) (p:Int):List Int:=(List.range a.length).map (ZiG a p)
theorem Zip (a:List Int) (p:Int):dgs (dnL a p):=by
 intro x hx;obtain ⟨i,_,rfl⟩:=List.mem_map.1 hx;unfold ZiG;omega
theorem Zin {x M p s:Int} (hp : 0 < p) (hs:p * s = 4294967296) (hx0 : 0 <= x) (hx1:x <= 4294967295):(x + 4294967296 * M) / p = (x + M % 4294967296 * 4294967296) / p % 4294967296 + 4294967296 * (M / p):=by
 have s0 : 0 < s:=by
  rcases Int.lt_trichotomy s 0 with h1 | h1 | h1
  ·have:=Int.mul_neg_of_pos_of_neg hp h1;omega
  ·rw [h1,Int.mul_zero] at hs;omega
  ·exact h1
 have f:∀ y:Int,(x + y * 4294967296) / p = x / p + s * y:=fun y=>by
  have e:y * 4294967296 = (s * y) * p:=by rw [<- hs,Int.mul_comm p s,<- Int.mul_assoc,Int.mul_comm y s]
  rw [e,Int.add_mul_ediv_right _ _ (by omega)]
 rw [Int.mul_comm 4294967296 M,f,f];have q0 : 0 <= x / p:=Int.ediv_nonneg hx0 (by omega);have q1:x / p < s:=Int.ediv_lt_of_lt_mul hp (by rw [Int.mul_comm s p,hs];omega)
 -- M = p m + r
 have e0:=Int.mul_ediv_add_emod M p;have r0:=Int.emod_nonneg M (show p ≠ 0 by omega);have r1:=Int.emod_lt_of_pos M hp;have b1:s * (M % p) <= 4294967296 - s:=by
  have:=Int.mul_le_mul_of_nonneg_left (show M % p <= p - 1 by omega) (show 0 <= s by omega);rw [Int.mul_sub,Int.mul_one,Int.mul_comm s p,hs] at this;exact this
 have b0 : 0 <= s * (M % p):=Int.mul_nonneg (by omega) r0;have e1:s * M = 4294967296 * (M / p) + s * (M % p):=by
  have:s * M = s * (p * (M / p) + M % p):=by rw [e0]
  rw [this,Int.mul_add,<- Int.mul_assoc,Int.mul_comm s p,hs]
 -- the lower Qb of M
 have e2:M % 4294967296 % p = M % p:=by
  rw [<- hs,Int.emod_emod_of_dvd _ (Int.dvd_mul_right p s)]
 have e3:s * (M % 4294967296) = 4294967296 * (M % 4294967296 / p) + s * (M % p):=by
  have h:=Int.mul_ediv_add_emod (M % 4294967296) p;rw [e2] at h;have:s * (M % 4294967296) = s * (p * (M % 4294967296 / p) + M % p):=by rw [h]
  rw [this,Int.mul_add,<- Int.mul_assoc,Int.mul_comm s p,hs]
 rw [e1,e3];have e4:(x / p + (4294967296 * (M % 4294967296 / p) + s * (M % p))) % 4294967296 = x / p + s * (M % p):=by
  have:x / p + (4294967296 * (M % 4294967296 / p) + s * (M % p)) = (x / p + s * (M % p)) + 4294967296 * (M % 4294967296 / p):=by omega
  rw [this,Int.add_mul_emod_self_left,Int.emod_eq_of_lt (by omega) (by omega)]
 rw [e4];omega
theorem ZgX {l:List Int} (h:dgs l) (i:Nat):vl (l.drop i) % 4294967296 = l[i]?.getD 0:=by
 have hx:=JH h i;rw [ZA,Int.add_mul_emod_self_left,Int.emod_eq_of_lt hx.1 (by omega)]
theorem Zio {a:List Int} (h:dgs a) {p s:Int} (hp : 0 < p) (hs:p * s = 4294967296):vl (dnL a p) = vl a / p:=by
 have key:∀ k i,i + k = a.length -> vl ((dnL a p).drop i) = vl (a.drop i) / p:=by
  intro k
  induction k with
  | zero=>
   intro i hi;rw [List.drop_eq_nil_of_le (by simp [dnL];omega),List.drop_eq_nil_of_le (by omega)];simp [vl]
  | succ k ih=>
   intro i hi;have hx:=JH h i;rw [ZA (dnL a p),ZA a,ih (i + 1) (by omega),Zin hp hs hx.1 hx.2,ZgX h];have e:(dnL a p)[i]?.getD 0 = ZiG a p i:=by
    unfold dnL;rw [List.getElem?_map,List.getElem?_range (by omega)];rfl
   rw [e];rfl
 have:=key a.length 0 (by omega);simpa using this
structure DivAt (u v:Nat) (q:List Int) (m j rest:Nat):Prop where
 len:q.length = m
 dig:dgs q
 low:∀ k,k < j -> q[k]?.getD 0 = 0
 val:(u:Int) = vl q * v + rest
 small:rest < v * 4294967296 ^ j
theorem DivAt.start {u v m:Nat} (h:u < v * 4294967296 ^ m):DivAt u v (List.replicate m 0) m m u:=
 ⟨by simp,J7 _,fun k _=>by
  by_cases hk:k < m
  ·rw [List.getElem?_eq_getElem (by simpa using hk)];simp
  ·rw [List.getElem?_eq_none (by simpa using Nat.le_of_not_lt hk)];rfl,by rw [Xd];simp,h⟩
theorem DivAt.next {u v:Nat} {q:List Int} {m j rest t:Nat} (h:DivAt u v q m (j + 1) rest) (hj:j < m) (h1:v * t * 4294967296 ^ j <= rest) (h2:rest < v * (t + 1) * 4294967296 ^ j) :
  t <= 4294967295 /\ DivAt u v (q.set j t) m j (rest - v * t * 4294967296 ^ j):=by
 have hP : 0 < 4294967296 ^ j:=Nat.pow_pos (by decide);have hsm:=h.small;have ht:t <= 4294967295:=by
  have h3:v * t * 4294967296 ^ j < v * 4294967296 * 4294967296 ^ j:=by
   rw [Nat.pow_succ,Nat.mul_comm (4294967296 ^ j),<- Nat.mul_assoc] at hsm;omega
  have h4:=Nat.lt_of_mul_lt_mul_right h3;have h5:=Nat.lt_of_mul_lt_mul_left h4;omega
 refine ⟨ht,by simp [h.len],Zd h.dig _ (by omega) (by omega),fun k hk=>?_,?_,?_⟩
 ·rw [List.getElem?_set_ne (by omega)];exact h.low k (by omega)
 ·rw [Qp _ _ _ (by rw [h.len];exact hj),h.low j (by omega),h.val,Qa];have e:(((4294967296 ^ j:Nat):Int) * ((t:Int) - 0)) * (v:Int) = ((v * t * 4294967296 ^ j:Nat):Int):=by
   simp only [Int.natCast_mul,Int.sub_zero];rw [Int.mul_comm _ (v:Int),Int.mul_comm _ (t:Int),<- Int.mul_assoc]
  rw [Int.add_mul,e];omega
 ·rw [Nat.mul_add,Nat.mul_one,Nat.add_mul] at h2;omega
theorem DivAt.done {u v:Nat} {q:List Int} {m rest:Nat} (h:DivAt u v q m 0 rest):vl q = ((u / v:Nat):Int) /\ rest = u % v:=by
 have hv:=h.val;have hs:=h.small;simp only [Nat.pow_zero,Nat.mul_one] at hs;have h0:=Jw h.dig;obtain ⟨x,hx⟩:∃ x:Nat,vl q = x:=⟨(vl q).toNat,by omega⟩;rw [hx] at hv ⊢;have hu:u = x * v + rest:=by
  have:((u:Nat):Int) = ((x * v + rest:Nat):Int):=by rw [hv];simp
  exact_mod_cast this
 subst hu;constructor
 ·congr 1;rw [Nat.add_comm,Nat.add_mul_div_right _ _ (by omega),Nat.div_eq_of_lt hs];omega
 ·rw [Nat.add_comm,Nat.add_mul_mod_self_right,Nat.mod_eq_of_lt hs]
end Ear
namespace Ear

theorem Za2 (n k:Nat):(nd n)[k]?.getD 0 = ((n / 4294967296 ^ k % 4294967296:Nat):Int):=by
 induction k generalizing n with
 | zero=>
  by_cases h:n = 0
  ·subst h;rw [JE];rfl
  ·rw [YO h];simp
 | succ k ih=>
  by_cases h:n = 0
  ·subst h;rw [JE];simp
  ·rw [YO h,List.getElem?_cons_succ,ih,Nat.div_div_eq_div_mul,Nat.pow_succ,Nat.mul_comm]
theorem U9 (k:Nat):(4294967296:Nat) ^ k = 2 ^ (32 * k):=by rw [Nat.pow_mul]
theorem Zi7 (n i:Nat):n / 4294967296 ^ (i / 32) % 4294967296 / 2 ^ (i % 32) % 2 = n / 2 ^ i % 2:=by
 have e:i = 32 * (i / 32) + i % 32:=by omega
 have hr:i % 32 < 32:=by omega
 generalize i / 32 = q at *
 generalize i % 32 = r at *
 subst e;rw [U9,Nat.pow_add,<- Nat.div_div_eq_div_mul];generalize n / 2 ^ (32 * q) = m;have h2:(4294967296:Nat) = 2 ^ r * (2 * 2 ^ (31 - r)):=by
  rw [<- Nat.mul_assoc,<- Nat.pow_succ,<- Nat.pow_add,show r + 1 + (31 - r) = 32 by omega]
 rw [h2,Nat.mod_mul_right_div_self,Nat.mod_mul_right_mod]
def Zie (a:List Int) (i:Nat):Int:=a[i]?.getD 0 / 2 + a[i + 1]?.getD 0 % 2 * 2147483648
theorem ZjA {a out:List Int} (h:dgs a) (hl:out.length = a.length) (ho:∀ i,i < a.length -> out[i]?.getD 0 = Zie a i):vl out = vl a / 2:=by
 have key:∀ k i,i + k = a.length -> vl (out.drop i) = vl (a.drop i) / 2:=by
  intro k
  induction k with
  | zero=>
   intro i hi;rw [List.drop_eq_nil_of_le (by omega),List.drop_eq_nil_of_le (by omega)];simp [vl]
  | succ k ih=>
   intro i hi;rw [ZA out,ZA a,ih (i + 1) (by omega),ho i (by omega)];have e:=ZgX h (i + 1);have hx:=JH h i;have hx1:=JH h (i + 1);unfold Zie;generalize vl (a.drop (i + 1)) = m at *
   omega
 have:=key a.length 0 (by omega);simpa using this
structure BitAt (a b:Nat) (out:List Int) (m i rest:Nat):Prop where
 len:out.length = m
 dig:dgs out
 low:(vl out).toNat % 2 ^ i = 0
 val:a / 2 ^ i = (vl out).toNat / 2 ^ i * b + rest
 small:rest < b
theorem BitAt.start {a b m i:Nat} (h:a < 2 ^ i) (hb : 0 < b):BitAt a b (List.replicate m 0) m i 0:=by
 refine ⟨by simp,J7 _,by rw [Xd];simp,?_,hb⟩;rw [Xd,Nat.div_eq_of_lt h];simp
theorem Za7 {v i:Nat} (h:v % 2 ^ (i + 1) = 0):v / 4294967296 ^ (i / 32) % 4294967296 % 2 ^ (i % 32 + 1) = 0:=by
 have e:i = 32 * (i / 32) + i % 32:=by omega
 have hr:i % 32 < 32:=by omega
 generalize i / 32 = q at *
 generalize i % 32 = r at *
 subst e;have h2:(4294967296:Nat) = 2 ^ (r + 1) * 2 ^ (31 - r):=by
  rw [<- Nat.pow_add,show r + 1 + (31 - r) = 32 by omega]
 rw [U9];have h3:v / 2 ^ (32 * q) % 2 ^ (r + 1) = 0:=by
  have h4 : 2 ^ (32 * q) * 2 ^ (r + 1) ∣ v:=by
   rw [<- Nat.pow_add,<- Nat.add_assoc];exact Nat.dvd_of_mod_eq_zero h
  obtain ⟨t,ht⟩:=h4;rw [ht,Nat.mul_assoc,Nat.mul_div_cancel_left _ (Nat.pow_pos (by decide)),Nat.mul_mod_right]
 rw [h2,Nat.mod_mul_right_mod,h3]
theorem Zfu {l:List Int} (h:dgs l) (k:Nat):l[k]?.getD 0 = (((vl l).toNat / 4294967296 ^ k % 4294967296:Nat):Int):=by
 rw [<- Za2];have h0:=Jw h;have key:∀ (l:List Int) (k:Nat),dgs l -> vl l = ((vl l).toNat:Int) -> l[k]?.getD 0 = (nd (vl l).toNat)[k]?.getD 0:=by
  intro l
  induction l with
  | nil=>intro k _ _;simp [vl,JE]
  | cons d l ih=>
   intro k hd hv;have hd0:=hd d (List.mem_cons_self ..);have hl:=Zao hd;have hl0:=Jw hl;have e0:vl (d :: l) = d + 4294967296 * vl l:=rfl;rw [Za2];cases k with
   | zero=>simp;omega
   | succ k=>
    have e1:(vl (d :: l)).toNat / 4294967296 = (vl l).toNat:=(by omega);rw [List.getElem?_cons_succ,ih k hl (by omega),Za2,Nat.pow_succ,Nat.mul_comm,<- Nat.div_div_eq_div_mul,e1]
 exact key l k h (by omega)
theorem BitAt.next {a b:Nat} {out:List Int} {m i rest r2:Nat} (h:BitAt a b out m (i + 1) rest) (hr:r2 = 2 * rest + a / 2 ^ i % 2) (hlt:r2 < b):BitAt a b out m i r2:=by
 have hs:=h.small;have hp : 2 ^ (i + 1) = 2 ^ i * 2:=Nat.pow_succ ..
 obtain ⟨t,ht⟩:=Nat.dvd_of_mod_eq_zero h.low;have hv:=h.val;rw [ht,Nat.mul_div_cancel_left _ (Nat.pow_pos (by decide))] at hv;refine ⟨h.len,h.dig,?_,?_,hlt⟩
 ·rw [ht,hp,Nat.mul_assoc,Nat.mul_mod_right]
 ·rw [ht,hp,Nat.mul_assoc,Nat.mul_div_cancel_left _ (Nat.pow_pos (by decide))];rw [hp,<- Nat.div_div_eq_div_mul] at hv;have e:a / 2 ^ i = 2 * (a / 2 ^ i / 2) + a / 2 ^ i % 2:=by omega
  rw [hr,e,hv,Nat.mul_add,Nat.mul_assoc 2 t b];omega
theorem ZiY {d r:Nat} (h:d % 2 ^ (r + 1) = 0):d ||| 2 ^ r = d + 2 ^ r:=by
 obtain ⟨t,ht⟩:=Nat.dvd_of_mod_eq_zero h;rw [ht];exact (Nat.two_pow_add_eq_or_of_lt (i:=r + 1) (b:=2 ^ r) (Nat.pow_lt_pow_right (by decide) (by omega)) t).symm
theorem BitAt.take {a b:Nat} {out:List Int} {m i rest r2:Nat} (h:BitAt a b out m (i + 1) rest) (hr:r2 = 2 * rest + a / 2 ^ i % 2) (hge:b <= r2) (hm:i / 32 < m) {d:Int} (hd:d = out[i / 32]?.getD 0 + 2 ^ (i % 32)) :
  0 <= d /\ d <= 4294967295 /\ BitAt a b (out.set (i / 32) d) m i (r2 - b):=by
 have hs:=h.small;have hp : 2 ^ (i + 1) = 2 ^ i * 2:=Nat.pow_succ ..
 obtain ⟨t,ht⟩:=Nat.dvd_of_mod_eq_zero h.low;have hv:=h.val;rw [ht,Nat.mul_div_cancel_left _ (Nat.pow_pos (by decide))] at hv;have hl:=Za7 h.low;have hn:=Zfu h.dig (i / 32);generalize hx:(vl out).toNat / 4294967296 ^ (i / 32) % 4294967296 = x at *
 have hr32:i % 32 < 32:=by omega
 have hx2:x < 4294967296:=by omega
 have hb:x + 2 ^ (i % 32) < 4294967296:=by
  obtain ⟨s,hs2⟩:=Nat.dvd_of_mod_eq_zero hl;have h2:(4294967296:Nat) = 2 ^ (i % 32 + 1) * 2 ^ (31 - i % 32):=by
   rw [<- Nat.pow_add,show i % 32 + 1 + (31 - i % 32) = 32 by omega]
  have h3:s + 1 <= 2 ^ (31 - i % 32):=by
   rw [hs2,h2] at hx2;exact Nat.lt_of_mul_lt_mul_left hx2
  have h4:=Nat.mul_le_mul_left (2 ^ (i % 32 + 1)) h3;rw [<- h2,Nat.mul_add,<- hs2,Nat.mul_one,Nat.pow_succ] at h4;have : 0 < 2 ^ (i % 32):=Nat.pow_pos (by decide);omega
 have hdn:d = ((x + 2 ^ (i % 32):Nat):Int):=by rw [hd,hn];simp
 have d0 : 0 <= d:=by omega
 have d1:d <= 4294967295:=by omega
 have hv0:=Jw h.dig;have hset:(vl (out.set (i / 32) d)).toNat = (vl out).toNat + 2 ^ i:=by
  rw [Qp _ _ _ (by rw [h.len];exact hm),hd];have e:BB ^ (i / 32) * (out[i / 32]?.getD 0 + 2 ^ (i % 32) - out[i / 32]?.getD 0) = ((2 ^ i:Nat):Int):=by
   rw [show out[i / 32]?.getD 0 + 2 ^ (i % 32) - out[i / 32]?.getD 0 = (2:Int) ^ (i % 32) by omega,Qa,U9];have e2:i = 32 * (i / 32) + i % 32:=(by omega);have:((2 ^ (32 * (i / 32)):Nat):Int) * (2:Int) ^ (i % 32) = ((2 ^ (32 * (i / 32)) * 2 ^ (i % 32):Nat):Int):=(by simp);rw [this,<- Nat.pow_add,<- e2]
  rw [e];omega
 refine ⟨d0,d1,by simp [h.len],Zd h.dig _ d0 d1,?_,?_,?_⟩
 ·rw [hset,ht,hp,Nat.mul_assoc,Nat.mul_add_mod,Nat.mod_self]
 ·rw [hset,ht,hp,Nat.mul_assoc,show 2 ^ i * (2 * t) + 2 ^ i = 2 ^ i * (2 * t + 1) by rw [Nat.mul_add,Nat.mul_one],Nat.mul_div_cancel_left _ (Nat.pow_pos (by decide))];rw [hp,<- Nat.div_div_eq_div_mul] at hv;have e:a / 2 ^ i = 2 * (a / 2 ^ i / 2) + a / 2 ^ i % 2:=by omega
  rw [e,hv,Nat.add_mul,Nat.mul_assoc 2 t b,Nat.one_mul,Nat.mul_add];omega
 ·have:a / 2 ^ i % 2 < 2:=Nat.mod_lt _ (by decide);omega
theorem BitAt.done {a b:Nat} {out:List Int} {m rest:Nat} (h:BitAt a b out m 0 rest):vl out = ((a / b:Nat):Int) /\ rest = a % b:=by
 have hv:=h.val;have hs:=h.small;have h0:=Jw h.dig;simp only [Nat.pow_zero,Nat.div_one] at hv;generalize hx:(vl out).toNat = x at *
 have e:vl out = (x:Int):=by omega
 subst hv;rw [e];constructor
 ·congr 1;rw [Nat.add_comm,Nat.add_mul_div_right _ _ (by omega),Nat.div_eq_of_lt hs];omega
 ·rw [Nat.add_comm,Nat.add_mul_mod_self_right,Nat.mod_eq_of_lt hs]
theorem ZgH {v vt n j rest g:Nat} (hv:vt * 4294967296 ^ n <= v) (h:rest / 4294967296 ^ (j + n) < (g + 1) * vt):rest < v * (g + 1) * 4294967296 ^ j:=by
 have hP : 0 < 4294967296 ^ (j + n):=Nat.pow_pos (by decide);have h1:rest < (g + 1) * vt * 4294967296 ^ (j + n):=by
  rwa [Nat.div_lt_iff_lt_mul hP] at h
 have h2:(g + 1) * vt * 4294967296 ^ (j + n) = vt * 4294967296 ^ n * ((g + 1) * 4294967296 ^ j):=by
  rw [Nat.pow_add,Nat.mul_comm (4294967296 ^ j),<- Nat.mul_assoc,Nat.mul_comm (g + 1) vt,Nat.mul_assoc vt,Nat.mul_assoc vt,Nat.mul_comm (g + 1),Nat.mul_assoc];simp only [Nat.mul_assoc,Nat.mul_left_comm]
 have h3:=Nat.mul_le_mul_right ((g + 1) * 4294967296 ^ j) hv;rw [Nat.mul_assoc];omega
structure GcdAt (g a b:Nat):Prop where
 pos : 0 < a
 odd:a % 2 = 1 ∨ b % 2 = 1
 val:a.gcd b = g
theorem Vl {a b:Nat} (ha:a % 2 = 0) (hb:b % 2 = 1):(a / 2).gcd b = a.gcd b:=by
 have e:a = a / 2 * 2:=by omega
 have hc:Nat.Coprime 2 b:=by
  rw [Nat.coprime_iff_gcd_eq_one,Nat.gcd_rec,hb,Nat.gcd_one_left]
 conv=>rhs;rw [e]
 exact (Nat.Coprime.gcd_mul_right_cancel _ hc).symm
theorem GcdAt.left {g a b:Nat} (h:GcdAt g a b) (ha:a % 2 = 0):GcdAt g (a / 2) b /\ a / 2 < a:=by
 have hp:=h.pos;have hb:b % 2 = 1:=by rcases h.odd with h | h <;> omega
 exact ⟨⟨by omega,.inr hb,by rw [Vl ha hb];exact h.val⟩,by omega⟩
theorem GcdAt.right {g a b:Nat} (h:GcdAt g a b) (hb:b % 2 = 0) (hb0:b ≠ 0):GcdAt g a (b / 2) /\ b / 2 < b /\ b / 2 ≠ 0:=by
 have ha:a % 2 = 1:=by rcases h.odd with h | h <;> omega
 exact ⟨⟨h.pos,.inl ha,by rw [Nat.gcd_comm,Vl hb ha,Nat.gcd_comm];exact h.val⟩,by omega,by omega⟩
theorem GcdAt.swap {g a b:Nat} (h:GcdAt g a b) (hb:b ≠ 0):GcdAt g b a:=⟨by omega,h.odd.symm,by rw [Nat.gcd_comm];exact h.val⟩
theorem GcdAt.sub {g a b:Nat} (h:GcdAt g a b) (ha:a % 2 = 1) (hle:a <= b):GcdAt g a (b - a):=
 ⟨h.pos,.inl ha,by rw [Nat.gcd_sub_self_right hle];exact h.val⟩
theorem GcdAt.done {g a:Nat} (h:GcdAt g a 0):a = g:=by have:=h.val;rwa [Nat.gcd_zero_right] at this
end Ear
