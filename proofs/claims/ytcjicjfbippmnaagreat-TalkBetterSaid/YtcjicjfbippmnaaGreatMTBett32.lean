/- TalkBetter -/
import Derived.Test.YtcjicjfbippmnaaGreatMTBett31
import Derived.Test.YtcjicjfbippmnaaGreatMTBett27
set_option maxRecDepth 100000
set_option maxHeartbeats 32000000
namespace Go.Proofs.YtcjicjfbippmnaaGreat
open Go.RowKit Ear

def fcs (Rs:List Fr):List Value:=Rs.flatMap fun x=>[.bool x.neg,.slice x.A x.N.length x.c,.slice x.B x.D.length x.d]
theorem V8 (Rs:List Fr):(fcs Rs).length = Rs.length * 3:=by
 induction Rs with
 | nil=>rfl
 | cons x l ih=>simp only [fcs,List.flatMap_cons,List.length_append,List.length_cons,List.length_nil] at ih ⊢;omega
theorem Zcw (O R:List Fr) (x:Fr):fcs (O ++ x :: R) = fcs O ++ (.bool x.neg :: .slice x.A x.N.length x.c :: .slice x.B x.D.length x.d :: fcs R):=by simp [fcs]
theorem ZhK (Rs:List Fr) {k:Nat} (hk:k < Rs.length):∃ O R,Rs = O ++ Rs[k] :: R /\ O.length = k /\ ∀ Y,Rs.set k Y = O ++ Y :: R:=by
 refine ⟨Rs.take k,Rs.drop (k + 1),?_,by simp;omega,fun Y=>?_⟩
 ·rw [<- List.drop_eq_getElem_cons hk,List.take_append_drop]
 ·exact List.set_eq_take_append_cons_drop.trans (by rw [if_pos hk])
theorem ZiK (F:List Fr) {k:Nat} (hk:k < F.length) (Y:Fr):(((fcs F).set (k * 3) (.bool Y.neg)).set (k * 3 + 1) (.slice Y.A Y.N.length Y.c)).set (k * 3 + 2) (.slice Y.B Y.D.length Y.d) = fcs (F.set k Y):=by
 obtain ⟨O,R,e1,e2,e3⟩:=ZhK F hk;have hl:(fcs O).length = k * 3:=by rw [V8,e2]
 rw [e3]
 conv=>lhs;rw [e1]
 rw [Zcw,Zcw,List.set_append_right _ _ (by omega),hl,Nat.sub_self,List.set_append_right _ _ (by omega),hl,show k * 3 + 1 - k * 3 = 1 by omega,List.set_append_right _ _ (by omega),hl,show k * 3 + 2 - k * 3 = 2 by omega];rfl
theorem Zcv (F:List Fr) {k:Nat} (hk:k < F.length):(fcs F)[k * 3]? = some (.bool F[k].neg) /\ (fcs F)[k * 3 + 1]? = some (.slice F[k].A F[k].N.length F[k].c) /\ (fcs F)[k * 3 + 2]? = some (.slice F[k].B F[k].D.length F[k].d):=by
 obtain ⟨O,R,e1,e2,e3⟩:=ZhK F hk;have hl:(fcs O).length = k * 3:=by rw [V8,e2]
 have e:fcs F = fcs O ++ (.bool F[k].neg :: .slice F[k].A F[k].N.length F[k].c :: .slice F[k].B F[k].D.length F[k].d :: fcs R):=by
  conv=>lhs;rw [e1]
  exact Zcw _ _ _
 refine ⟨?_,?_,?_⟩
 ·rw [e,List.getElem?_append_right (by omega),hl,Nat.sub_self];rfl
 ·rw [e,List.getElem?_append_right (by omega),hl,show k * 3 + 1 - k * 3 = 1 by omega];rfl
 ·rw [e,List.getElem?_append_right (by omega),hl,show k * 3 + 2 - k * 3 = 2 by omega];rfl
theorem Zfm:(Tryz.prog.info? 28).map (fun i=>(i.zero,i.size,i.bytes)) = some (some (.agg #[.bool false,.slice none 0 0,.slice none 0 0]),3,56):=by kernel_rfl
theorem ZdR (n:Nat):(madeCells (Value.agg #[.bool false,.slice none 0 0,.slice none 0 0]).cells (n * 3)).toList = fcs (List.replicate n J1):=by
 apply List.ext_getElem (by simp [madeCells,V8]);intro k h1 h2;have h3:k < n * 3:=by simpa [madeCells] using h1
 obtain ⟨i,j,hj,rfl⟩:∃ i j,j < 3 /\ k = i * 3 + j:=⟨k / 3,k % 3,Nat.mod_lt _ (by omega),by omega⟩;have hi:i < (List.replicate n J1).length:=by simp;omega
 obtain ⟨g0,g1,g2⟩:=Zcv (List.replicate n J1) hi;simp only [List.getElem_replicate] at g0 g1 g2;have hm:(i * 3 + j) % 3 = j:=by omega
 apply Option.some.inj;rw [<- gE h1,<- gE h2];rcases (show j = 0 ∨ j = 1 ∨ j = 2 by omega) with e | e | e
 ·simp only [e,Nat.add_zero] at hm h3 ⊢;rw [g0];simp [madeCells,Value.cells,J1,h3]
 ·simp only [e] at hm h3 ⊢;rw [g1];simp [madeCells,Value.cells,J1,hm,h3]
 ·simp only [e] at hm h3 ⊢;rw [g2];simp [madeCells,Value.cells,J1,hm,h3]
theorem ZdQ (w:World) (n:Nat) (hn:n <= 1000000) (base:Nat) (hb:base <= w.heap.size) :
  ∃ w',(Instr.makeSlice 106 (.int .i64 (n:Int)) (.int .i64 (n:Int))).run Tryz.prog w = .ok (.slice (some ⟨w.heap.size,0,none⟩) n n) w' /\
   w'.ownsRow base 28 3 (.slice (some ⟨w.heap.size,0,none⟩) n n) n (fcs (List.replicate n J1)) /\ Below w.heap.size w w':=by
 obtain ⟨i0,hi0,hz0,hz1,hz2⟩:=info_parts Zfm;obtain ⟨w',h1,h2,h3⟩:=run_make_full (P:=Tryz.prog) w base 106 28 i0 _ 3 Tryz.underlying106 hi0 hz0 hz1 .i64 .i64 n (by rw [hz2];omega) (by unfold maxLen;omega) hb;rw [ZdR] at h2;exact ⟨w',h1,h2,Xf h3⟩
theorem ZgN (x y:Fr) (p q:Rat) (w:World) (hx:Fv w x p) (hy:Fv w y q) (fx:Few x 90000) (fy:Few y 90000) (q0:q ≠ 0):Calls Tryz.prog 244 #[x.val,y.val] w (ZA (p * q⁻¹) w):=by
 obtain ⟨W,hW⟩:∃ W:World,W = ((w.alloc (.cells #[.bool x.neg,.slice x.A x.N.length x.c,.slice x.B x.D.length x.d] 28)).alloc (.cells #[.bool y.neg,.slice y.A y.N.length y.c,.slice y.B y.D.length y.d] 28)).alloc (.cells #[.bool false,.slice none 0 0,.slice none 0 0] 28):=⟨_,rfl⟩;have HB0:Hid (Below w.heap.size w W):=zH (by rw [hW];exact (al2 w _ _).alloc (by simp;omega) _);have HBX:Hid (Bt 28 W (w.heap.size + 1 + 1)):=zH (by rw [hW];have:=(Bt.new 28 ((w.alloc (.cells #[.bool x.neg,.slice x.A x.N.length x.c,.slice x.B x.D.length x.d] 28)).alloc (.cells #[.bool y.neg,.slice y.A y.N.length y.c,.slice y.B y.D.length y.d] 28)));simpa using this);have C2:=zH (ZcX x y p q W (hx.below HB0.out) (hy.below HB0.out) fx fy q0);clear hx hy fx fy;obtain ⟨xn,xA,xc,xN,xB,xd,xD⟩:=x;obtain ⟨yn,yA,yc,yN,yB,yd,yD⟩:=y;go_enter Tryz.func244,Tryz.ntmps244;go_wp2_with fail;rw [<- hW];clear hW;refine C2.out.mono ?_;rintro e w3 ⟨f,rfl,hf,hb3⟩;have R3:=zH hf;have X3:=zH (HBX.out.below hb3);have BW:=zH (HB0.out.trans (hb3.mono HB0.out.size));clear hf hb3 C2 HBX HB0;obtain ⟨rn,rA,rc,rN,rB,rd,rD⟩:=f;go_upto_region 2 with fail;obtain ⟨V,hV⟩:∃ V:World,V = w3.alloc (.cells #[.bool rn,.slice rA rN.length rc,.slice rB rD.length rd] 28):=⟨_,rfl⟩;have HBV:Hid (Below w3.heap.size w3 V):=zH (by rw [hV];exact bR.alloc nR _);have R4:=zH (R3.out.below HBV.out);have X4:=zH (X3.out.below HBV.out);have BV:=zH (BW.out.trans (HBV.out.mono BW.out.size));have HN:Hid (V.heap[w3.heap.size]? = some (.cells #[.bool rn,.slice rA rN.length rc,.slice rB rD.length rd] 28 (0,0))):=zH (by rw [hV];exact heap_alloc_new w3 _);rw [<- hV];clear hV HBV X3 R3 BW;obtain ⟨n0,n1,n2⟩:=Zz HN.out;obtain ⟨k0,k1,k2,f0,f1,f2⟩:=X4.out.facts;go_wp2_with fail;obtain ⟨g0,g1,g2⟩:=Z7 (.bool rn) (.slice rA rN.length rc) (.slice rB rD.length rd) k0 k1 k2;refine bodyPost_ret (v:=.agg #[.bool rn,.slice rA rN.length rc,.slice rB rD.length rd]) (by simp [results,Tryz.results244,go_sem,g0,g1,g2]) rfl ?_;exact ⟨⟨rn,rA,rc,rN,rB,rd,rD⟩,rfl,J2 R4.out X4.out _ _ _,Ji BV.out (by omega) _ _ _⟩
structure FRow (w:World) (base:Nat) (A:Option Addr) (V:Nat) (Rs:List Fr) (F:Nat -> Rat):Prop where
 row:w.ownsRow base 28 3 (.slice A V V) V (fcs Rs)
 len:Rs.length = V
 val:∀ i r,Rs[i]? = some r -> Fq w r (F i)
theorem FRow.below {w w':World} {base V:Nat} {A:Option Addr} {Rs:List Fr} {F:Nat -> Rat} (h:FRow w base A V Rs F) (hb:Below w.heap.size w w'):FRow w' base A V Rs F:=⟨Jg h.row hb,h.len,fun i r hr=>(h.val i r hr).below hb⟩
theorem ZhJ {x:Fr} {k l:Nat} (h:Few x k) (hl:k <= l):Few x l:=⟨tR h.n hl,tR h.d hl⟩
def ZgC (ct:Int -> Int) (sm:Int) (V:Nat) (q:Rat) (i:Nat):Rat:=(((ct i:Int):Rat) + q) * (((sm:Int):Rat) + q * ((V:Int):Rat))⁻¹
def RetRow (base V:Nat) (F:Int -> Int) (q:Rat) (w:World) (e:Ending) (w':World):Prop:=∃ A Rs sm,e = .returned (.slice A V V) /\ FRow w' w.heap.size A V Rs (ZgC F sm V q) /\ Below w.heap.size w w' /\ base <= w.heap.size /\ ∃ mm:List (Int × Int),(mm.map (·.1)).Nodup /\ (∀ z,(JG mm z).getD 0 = F z) /\ Zi9 mm /\ sm = (mm.map (·.2)).sum
theorem Zf2 (lb lo ln lc V n:Nat) (x:Fr) (q:Rat) (HA:Option Addr) (hc:Nat) (hl:List Int) (b:Nat) (ct:K4 -> Int -> Int) (w:World) (hlv:w.cell? ⟨lb,lo + n,none⟩ = some (.map (some b))) (hn:n < ln) (hL:Lvl w b ct) (hH:Lies w HA (ics hl)) (h4:hl.length <= 4) (hbd:Hid (∀ x ∈ hl,0 <= x /\ x <= 1000000))
  (hx:Fv w x q) (fx:Few x 100) (hq : 0 < q) (hV : 0 < V) (hV2:V <= 100) :
  Calls Tryz.prog 247 #[.agg #[.slice (some ⟨lb,lo,none⟩) ln lc,.int .i64 (V:Int),.bool x.neg,.slice x.A x.N.length x.c,.slice x.B x.D.length x.d],.int .i64 (n:Int),.slice HA hl.length hc] w (RetRow w.heap.size V (ct (kOf hl)) q w):=by
 obtain ⟨W0,hW0⟩:∃ X:World,X = w.alloc (.cells #[.slice (some ⟨lb,lo,none⟩) ln lc,.int .i64 (V:Int),.bool x.neg,.slice x.A x.N.length x.c,.slice x.B x.D.length x.d] 240):=⟨_,rfl⟩;have HB0:Hid (Below w.heap.size w W0):=zH (by rw [hW0];exact bR.alloc nR _);have HX0:Hid (W0.heap[w.heap.size]? = some (.cells #[.slice (some ⟨lb,lo,none⟩) ln lc,.int .i64 (V:Int),.bool x.neg,.slice x.A x.N.length x.c,.slice x.B x.D.length x.d] 240 (0,0))):=zH (by rw [hW0];exact heap_alloc_new w _);have hlb:lb < w.heap.size:=Xg hlv;have HSE:=zH (Zgy lb lo ln lc (V:Int) n HA hc hl b ct W0 ((HB0.out.cell (p:=⟨lb,lo + n,none⟩) hlb).trans hlv) hn (hL.below HB0.out) (hH.below HB0.out) h4 hbd);have HV0:=zH (hx.below HB0.out);have hP:∀ u,Below W0.heap.size W0 u -> u.cell? ⟨w.heap.size,0,none⟩ = some (.slice (some ⟨lb,lo,none⟩) ln lc) /\ u.cell? ⟨w.heap.size,1,none⟩ = some (.int .i64 (V:Int)) /\ u.cell? ⟨w.heap.size,2,none⟩ = some (.bool x.neg) /\ u.cell? ⟨w.heap.size,3,none⟩ = some (.slice x.A x.N.length x.c) /\ u.cell? ⟨w.heap.size,4,none⟩ = some (.slice x.B x.D.length x.d):=fun u hu=>by
  have hh:=(hu.block _ (aE HX0.out).1).trans HX0.out;exact ⟨(cR 0 hh).trans rfl,(cR 1 hh).trans rfl,(cR 2 hh).trans rfl,(cR 3 hh).trans rfl,(cR 4 hh).trans rfl⟩
 have HPC:=zH hP;have HSQ:Hid (Sz q 100):=zH (hx.sz fx (by decide));obtain ⟨c0,c1,c2,c3,c4⟩:=hP W0 bR;clear hlv hL hH hx hP hbd;go_enter Tryz.func247,Tryz.ntmps247;go_wp2_with fail;rw [<- hW0];clear hW0;refine HSE.out.mono ?_;rintro e w1 ⟨mv,sm,rfl,⟨mm,hmv,hmm,hrb,hsm⟩,hb1⟩;have HB1:=zH hb1;have HMV:=zH hmv;have HMM:=zH hmm;have HRB:=zH hrb;have HSM:=zH hsm;have HND:=zH hmv.nodup;have hsb : 0 <= sm /\ sm <= 2001 * 1073741824:=by
  rw [hsm];have h1:=ZcN (mm.map (·.2)) (fun z hz=>by obtain ⟨q,hq,rfl⟩:=List.mem_map.1 hz;exact (hrb q hq).2.2);have h2:=ZcU hrb hmv.nodup;simp only [List.length_map] at h1;refine ⟨h1.1,Int.le_trans h1.2 ?_⟩;have:(mm.length:Int) <= 2001:=by omega
  exact Int.mul_le_mul_of_nonneg_right this (by omega)
 clear hmv hmm hrb hsm hb1 HSE c0 c1 c2 c3 c4;obtain ⟨c0,c1,c2,c3,c4⟩:=HPC.out w1 HB1.out;obtain ⟨w2,hmk,ho2,hb2⟩:=ZdQ w1 V (by omega) w1.heap.size nR;have HO2:=zH ho2;have HB2:=zH hb2;have HB02:=zH (HB1.out.trans (hb2.mono HB1.out.size));clear ho2 hb2;go_upto_region 3 with fail;clear hmk c0 c1 c2 c3 c4;obtain ⟨ob,hob⟩:∃ ob,ob = w1.heap.size:=⟨_,rfl⟩;rw [<- hob] at HO2 ⊢;have HOB:Hid (∀ b,mv = .map (some b) -> b ≠ ob):=zH (fun b e h=>by have:=HMV.out.lt e;omega);have HOE:=zH hob;have hwo:w.heap.size <= ob:=hob ▸ tR HB0.out.size HB1.out.size;have hwob:w.heap.size < ob /\ ob = w1.heap.size:=⟨by have:=(aE HX0.out).1;have:=HB1.out.size;omega,hob⟩;have HWO:=zH hwob;clear hob hwob;have HF2:=zH (HV0.out.below HB02.out);have HC3:Hid (∀ u,Below w2.heap.size w2 u -> u.cell? ⟨w.heap.size,1,none⟩ = some (.int .i64 (V:Int)) /\ u.cell? ⟨w.heap.size,2,none⟩ = some (.bool x.neg) /\ u.cell? ⟨w.heap.size,3,none⟩ = some (.slice x.A x.N.length x.c) /\ u.cell? ⟨w.heap.size,4,none⟩ = some (.slice x.B x.D.length x.d)):=zH (fun u hu=>(HPC.out u (HB02.out.trans (hu.mono HB02.out.size))).2);have S1:Hid (Sz ((sm:Int):Rat) 2):=zH (Sz.i64 (by omega) (by omega));have S2:Hid (Sz (((V:Int)):Rat) 2):=zH (Sz.i64 (by omega) (by omega));have S3:Hid (Sz (q * ((V:Int):Rat)) 102):=zH (HSQ.out.mul S2.out);have S4:Hid (Sz (((sm:Int):Rat) + q * ((V:Int):Rat)) 105):=zH (S1.out.add S3.out);have HNZ:Hid (((sm:Int):Rat) + q * ((V:Int):Rat) ≠ 0):=zH (by
  have h1:(0:Rat) <= ((sm:Int):Rat):=by exact_mod_cast hsb.1
  have h2:(0:Rat) < ((V:Int):Rat):=by exact_mod_cast (by omega:(0:Int) < (V:Int))
  have h3:=Rat.mul_pos hq h2;intro h;grind)
 refine Je 11 53 rfl (by kernel_rfl) (by kernel_rfl) (by kernel_rfl) (by kernel_rfl) (fun u=>Below w2.heap.size w2 u) (fun u u'=>Below u.heap.size u u') (Gl [isV (.int .i64 sm),isFq (((sm:Int):Rat)),isV (.pointer (some ⟨w.heap.size,2,none⟩)),isV (x.val),isV (.pointer (some ⟨w.heap.size,0,none⟩)),isV (.pointer (some ⟨w.heap.size,1,none⟩)),isV (.int .i64 (V:Int)),isFq (((V:Int):Rat)),isFq (q * ((V:Int):Rat)),isFq (((sm:Int):Rat) + q * ((V:Int):Rat)),isFb w2.heap.size]) (Gl.keep (by
   intro p hp;simp only [List.mem_cons,List.not_mem_nil,or_false] at hp;rcases hp with rfl | rfl | rfl | rfl | rfl | rfl | rfl | rfl | rfl | rfl | rfl
   ·exact Keeps.isV _
   ·exact Keeps.isFq _
   ·exact Keeps.isV _
   ·exact Keeps.isV _
   ·exact Keeps.isV _
   ·exact Keeps.isV _
   ·exact Keeps.isV _
   ·exact Keeps.isFq _
   ·exact Keeps.isFq _
   ·exact Keeps.isFq _
   ·exact Keeps.isFb _)) ?_ ?_ ?_
 ·exact (Below.refl _ w2).drew
 ·simp only [List.pop_toArray,List.dropLast,Jl];refine ⟨?_,?_,?_,?_,?_,?_,?_,?_,?_,?_,?_,trivial⟩
  ·intro bb u su dp kp K hK;have e8:gT bb 8 = .int .i64 sm:=kp 8 (by kernel_rfl);go_simp;exact hK _ _ su bR rfl
  ·intro bb u su dp kp K hK;have e24:gT bb 24 = .int .i64 sm:=dp 0 _ rfl (by kernel_rfl);go_simp;refine (Zo sm u (by omega) (by omega)).mono ?_;rintro e u' ⟨r9,rfl,hr9,hb⟩;go_simp;exact hK _ _ (su.trans (hb.mono su.size)) hb ⟨r9,rfl,zH hr9⟩
  ·intro bb u su dp kp K hK;have e3:gT bb 3 = .pointer (some ⟨w.heap.size,0,none⟩):=kp 3 (by kernel_rfl);go_simp;exact hK _ _ su bR rfl
  ·intro bb u su dp kp K hK;have e26:gT bb 26 = .pointer (some ⟨w.heap.size,2,none⟩):=dp 2 _ rfl (by kernel_rfl);obtain ⟨c1,c2,c3,c4⟩:=HC3.out u su;go_simp;exact hK _ _ su bR rfl
  ·intro bb u su dp kp K hK;have e3:gT bb 3 = .pointer (some ⟨w.heap.size,0,none⟩):=kp 3 (by kernel_rfl);go_simp;exact hK _ _ su bR rfl
  ·intro bb u su dp kp K hK;have e28:gT bb 28 = .pointer (some ⟨w.heap.size,0,none⟩):=dp 4 _ rfl (by kernel_rfl);go_simp;exact hK _ _ su bR rfl
  ·intro bb u su dp kp K hK;have e29:gT bb 29 = .pointer (some ⟨w.heap.size,1,none⟩):=dp 5 _ rfl (by kernel_rfl);obtain ⟨c1,c2,c3,c4⟩:=HC3.out u su;go_simp;exact hK _ _ su bR rfl
  ·intro bb u su dp kp K hK;have e30:gT bb 30 = .int .i64 (V:Int):=dp 6 _ rfl (by kernel_rfl);go_simp;refine (Zo (V:Int) u (by omega) (by omega)).mono ?_;rintro e u' ⟨r9,rfl,hr9,hb⟩;go_simp;exact hK _ _ (su.trans (hb.mono su.size)) hb ⟨r9,rfl,zH hr9⟩
  ·intro bb u su dp kp K hK;have e27:gT bb 27 = x.val:=dp 3 _ rfl (by kernel_rfl);obtain ⟨r31,e31,D31⟩:∃ r:Fr,gT bb 31 = r.val /\ Hid (Fq u r (((V:Int):Rat))):=dp 7 _ rfl (by kernel_rfl);go_simp;refine (Zal x r31 q ((V:Int):Rat) u (HF2.out.below su) D31.out.fv (ZhJ fx (by decide)) (D31.out.few (S2.out.mono (by decide)))).mono ?_;rintro e u' ⟨r9,rfl,hr9,hb⟩;go_simp;exact hK _ _ (su.trans (hb.mono su.size)) hb ⟨r9,rfl,zH hr9⟩
  ·intro bb u su dp kp K hK;obtain ⟨r25,e25,D25⟩:∃ r:Fr,gT bb 25 = r.val /\ Hid (Fq u r (((sm:Int):Rat))):=dp 1 _ rfl (by kernel_rfl);obtain ⟨r32,e32,D32⟩:∃ r:Fr,gT bb 32 = r.val /\ Hid (Fq u r (q * ((V:Int):Rat))):=dp 8 _ rfl (by kernel_rfl);go_simp;refine (Zam r25 r32 ((sm:Int):Rat) (q * ((V:Int):Rat)) u D25.out.fv D32.out.fv (D25.out.few (S1.out.mono (by decide))) (D32.out.few (S3.out.mono (by decide)))).mono ?_;rintro e u' ⟨r9,rfl,hr9,hb⟩;go_simp;exact hK _ _ (su.trans (hb.mono su.size)) hb ⟨r9,rfl,zH hr9⟩
  ·intro bb u su dp kp K hK;go_simp;exact hK _ _ (su.alloc su.size _) (bR.alloc nR _) ⟨u.heap.size,rfl,su.size,zH ⟨J1,Fb.new u J1⟩⟩
 ·intro bb u hN hdf su hG hsame;obtain ⟨r33,e33,D33⟩:∃ r:Fr,gT bb 33 = r.val /\ Hid (Fq u r (((sm:Int):Rat) + q * ((V:Int):Rat))):=hG 9 _ rfl;obtain ⟨kb,e10,hkb,D10⟩:∃ k,gT bb 10 = .pointer (some ⟨k,0,none⟩) /\ w2.heap.size <= k /\ Hid (∃ x,Fb u k x):=hG 10 _ rfl;rw [JD bb _ [false,false,false,false,false,false,false,false,false,false,true,false,false,false,false,false,false,false,false,false,false,false,false,false,true,true,true,true,true,true,true,true,true,true,false,false,false,false,false,false,false,false,false,false,false,false,false,false,false,false,false,false,false] _ rfl hN rfl (by kernel_rfl) hdf hsame];simp only [Z5,Nat.reduceAdd,e33,e10];clear e33 e10 hG hsame hN hdf;generalize gT bb 24 = z24,gT bb 25 = z25,gT bb 26 = z26,gT bb 27 = z27,gT bb 28 = z28,gT bb 29 = z29,gT bb 30 = z30,gT bb 31 = z31,gT bb 32 = z32;obtain ⟨x10,hx10⟩:=D10.out;obtain ⟨t0,t1,t2,f0,f1,f2⟩:=hx10.facts;have HX10:=zH hx10;have HSu:=zH su;clear hx10 su D10;refine PopQ.last rfl rfl (fun K hK=>?_);go_simp;refine hK _ _ ?_;clear hK K t0 t1 t2 f0 f1 f2;obtain ⟨W3,hW3⟩:∃ Z,Z = ((u.setCell ⟨kb,0,none⟩ (.bool r33.neg)).setCell ⟨kb,1,none⟩ (.slice r33.A r33.N.length r33.c)).setCell ⟨kb,2,none⟩ (.slice r33.B r33.D.length r33.d):=⟨_,rfl⟩;rw [<- hW3];have HFB:Hid (Fb W3 kb r33):=zH (by rw [hW3];exact HX10.out.put);have HFQ:Hid (Fq W3 r33 (((sm:Int):Rat) + q * ((V:Int):Rat))):=zH (by rw [hW3];exact D33.out.rowed HX10.out _ _ _);have HB3:Hid (Below w2.heap.size w2 W3):=zH (by rw [hW3];exact Ji HSu.out hkb _ _ _);clear hW3 HX10 HSu D33;have HB13:=zH (HB2.out.trans (HB3.out.mono HB2.out.size));have HB03:=zH (HB02.out.trans (HB3.out.mono HB02.out.size));have HMV3:=zH (HMV.out.below HB13.out);have HR0:Hid (W3.ownsRow ob 28 3 (.slice (some ⟨ob,0,none⟩) V V) V (fcs (List.replicate V J1))):=zH (Jg HO2.out HB3.out);have HV3:=zH (HV0.out.below HB03.out);have HZ0:Hid (∀ j r,j < 0 -> (List.replicate V J1)[j]? = some r -> Fq W3 r (ZgC (ct (kOf hl)) sm V q j)):=zH (fun j r hj=>absurd hj (by omega));have HK0:Hid (Kept W3 W3 ob):=zH (Kept.refl _ _);have HU0:Hid (KU W3 W3):=zH (fun A l h=>h);have hoo:ob < w2.heap.size:=by have:=(HO2.out.lt ob rfl).2;exact this
  have hkbo:kb ≠ ob:=by omega
  have hb12:w1.heap.size <= w2.heap.size:=HB2.out.size;clear HO2 HC3 HF2 HMV HB13;go_wp2_with fail;go_loopw [36] (fun t wr=>∃ (i:Nat) (Rs:List Fr),i <= V /\ t = .int .i64 (i:Int) /\ Hid (Rs.length = V) /\ Hid (wr.ownsRow ob 28 3 (.slice (some ⟨ob,0,none⟩) V V) V (fcs Rs)) /\ Hid (∀ j r,j < i -> Rs[j]? = some r -> Fq wr r (ZgC (ct (kOf hl)) sm V q j)) /\ Hid (Kept W3 wr ob) /\ Hid (KU W3 wr) /\ Hid (Below w1.heap.size w1 wr)) (fun t _=>V - (intOf t).toNat)
  case atStart=>exact ⟨0,List.replicate V J1,by omega,rfl,zH (by simp),HR0,HZ0,HK0,HU0,zH (HB2.out.trans (HB3.out.mono HB2.out.size))⟩
  case round=>
   obtain ⟨i,Rs,hi,rfl,HLN,HR,HZ,HK,HU,HB⟩:=hrel;clear HR0 HZ0 HK0 HU0;obtain ⟨Wr,rfl⟩:∃ X,X = wr:=⟨_,rfl⟩;by_cases hiV:i < V
   ·have hiV':(i:Int) < (V:Int):=(by omega);have HMVr:Hid (MV Tryz.prog 3 (Value.int .i64) (Value.int .i64) Wr mv mm):=zH (HMV3.out.kept' (fun b e=>HK.out.block b (HMV3.out.lt e) (HOB.out b e)));have HPB:Hid (Wr.heap[w.heap.size]? = some (.cells #[.slice (some ⟨lb,lo,none⟩) ln lc,.int .i64 (V:Int),.bool x.neg,.slice x.A x.N.length x.c,.slice x.B x.D.length x.d] 240 (0,0))):=zH (by
     have h1:=(aE HX0.out).1;have h2:=HB03.out.size;have h3:=HB1.out.size;have h4:=HWO.out.1;exact (HK.out.block _ (by omega) (by omega)).trans ((HB03.out.block _ h1).trans HX0.out))
    have HFBr:Hid (Fb Wr kb r33):=zH ((HK.out.block kb HFB.out.lt hkbo).trans HFB.out);have HFQr:=zH (HFQ.out.ku HU.out);have HV4:Hid (Fv Wr x q):=zH ⟨HV3.out.n.ku HU.out,HV3.out.d.ku HU.out,HV3.out.val⟩;have hilen:i < Rs.length:=(by rw [HLN.out];exact hiV);have hcb : 0 <= ct (kOf hl) (i:Int) /\ ct (kOf hl) (i:Int) <= 1073741824:=by
     rw [<- HMM.out];cases hq:JG mm (i:Int) with
     | none=>exact ⟨Int.le_refl _,by decide⟩
     | some y=>exact (HRB.out _ (Xh hq)).2.2
    obtain ⟨lk,hlk⟩:=Zfj (z:=(i:Int)) (by omega);have HLKU:Hid (∀ u,Below Wr.heap.size Wr u -> (Instr.lookup 254 mv (.int .i64 (i:Int)) false).run Tryz.prog u = .ok (.int .i64 (ct (kOf hl) (i:Int))) u):=zH (fun u hu=>by
     have h1:=(HMVr.out.below hu).lookup int_keyed Zfn Tryz.underlying254 (Tryz.zeroValue3 u) (i:Int) hlk;rw [h1,<- HMM.out];cases JG mm (i:Int) <;> rfl)
    have HC7:Hid (∀ u,Below Wr.heap.size Wr u -> u.cell? ⟨w.heap.size,2,none⟩ = some (.bool x.neg) /\ u.cell? ⟨w.heap.size,3,none⟩ = some (.slice x.A x.N.length x.c) /\ u.cell? ⟨w.heap.size,4,none⟩ = some (.slice x.B x.D.length x.d) /\ u.cell? ⟨kb,0,none⟩ = some (.bool r33.neg) /\ u.cell? ⟨kb,1,none⟩ = some (.slice r33.A r33.N.length r33.c) /\ u.cell? ⟨kb,2,none⟩ = some (.slice r33.B r33.D.length r33.d)):=zH (fun u hu=>by
     have hh:=(hu.block _ (aE HPB.out).1).trans HPB.out;obtain ⟨y0,y1,y2,-,-,-⟩:=(HFBr.out.below hu).facts;exact ⟨(cR 2 hh).trans rfl,(cR 3 hh).trans rfl,(cR 4 hh).trans rfl,y0,y1,y2⟩)
    obtain ⟨ci,hci⟩:∃ ci,ci = ct (kOf hl) (i:Int):=⟨_,rfl⟩;rw [<- hci] at HLKU hcb;have HCI:=zH hci;clear hci hlk;have S5:Hid (Sz ((ci:Int):Rat) 2):=zH (Sz.i64 (by omega) (by omega));have S6:Hid (Sz (((ci:Int):Rat) + q) 103):=zH (S5.out.add HSQ.out);go_upto_region 7 with fail;refine Je 12 53 rfl (by kernel_rfl) (by kernel_rfl) (by kernel_rfl) (by kernel_rfl) (fun u=>Below Wr.heap.size Wr u) (fun u u'=>Below u.heap.size u u') (Gl [isV (.slice (some ⟨ob,0,none⟩) V V),isV (.int .i64 (i:Int)),isV (mv),isV (.int .i64 (i:Int)),isV (.int .i64 ci),isFq ((ci:Int):Rat),isV (.pointer (some ⟨w.heap.size,2,none⟩)),isV (x.val),isFq (((ci:Int):Rat) + q),isV (r33.val),isFq ((((ci:Int):Rat) + q) * (((sm:Int):Rat) + q * ((V:Int):Rat))⁻¹),isV (.pointer (some ⟨ob,i * 3,none⟩))]) (Gl.keep (by
      intro p hp;simp only [List.mem_cons,List.not_mem_nil,or_false] at hp;rcases hp with rfl | rfl | rfl | rfl | rfl | rfl | rfl | rfl | rfl | rfl | rfl | rfl
      ·exact Keeps.isV _
      ·exact Keeps.isV _
      ·exact Keeps.isV _
      ·exact Keeps.isV _
      ·exact Keeps.isV _
      ·exact Keeps.isFq _
      ·exact Keeps.isV _
      ·exact Keeps.isV _
      ·exact Keeps.isFq _
      ·exact Keeps.isV _
      ·exact Keeps.isFq _
      ·exact Keeps.isV _)) ?_ ?_ ?_
    ·exact (Below.refl _ Wr).drew
    ·simp only [List.pop_toArray,List.dropLast,Jl];refine ⟨?_,?_,?_,?_,?_,?_,?_,?_,?_,?_,?_,?_,trivial⟩
     ·intro bb u su dp kp K hK;have e9:gT bb 9 = .slice (some ⟨ob,0,none⟩) V V:=kp 9 (by kernel_rfl);go_simp;exact hK _ _ su bR rfl
     ·intro bb u su dp kp K hK;have e11:gT bb 11 = .int .i64 (i:Int):=kp 11 (by kernel_rfl);go_simp;exact hK _ _ su bR rfl
     ·intro bb u su dp kp K hK;have e7:gT bb 7 = mv:=kp 7 (by kernel_rfl);go_simp;exact hK _ _ su bR rfl
     ·intro bb u su dp kp K hK;have e11:gT bb 11 = .int .i64 (i:Int):=kp 11 (by kernel_rfl);go_simp;exact hK _ _ su bR rfl
     ·intro bb u su dp kp K hK;have e41:gT bb 41 = mv:=dp 2 _ rfl (by kernel_rfl);have e42:gT bb 42 = .int .i64 (i:Int):=dp 3 _ rfl (by kernel_rfl);have hlk:=HLKU.out u su;go_simp;exact hK _ _ su bR rfl
     ·intro bb u su dp kp K hK;have e43:gT bb 43 = .int .i64 ci:=dp 4 _ rfl (by kernel_rfl);go_simp;refine (Zo ci u (by omega) (by omega)).mono ?_;rintro e u' ⟨r9,rfl,hr9,hb⟩;go_simp;exact hK _ _ (su.trans (hb.mono su.size)) hb ⟨r9,rfl,zH hr9⟩
     ·intro bb u su dp kp K hK;have e3:gT bb 3 = .pointer (some ⟨w.heap.size,0,none⟩):=kp 3 (by kernel_rfl);go_simp;exact hK _ _ su bR rfl
     ·intro bb u su dp kp K hK;have e45:gT bb 45 = .pointer (some ⟨w.heap.size,2,none⟩):=dp 6 _ rfl (by kernel_rfl);obtain ⟨c2,c3,c4,g0,g1,g2⟩:=HC7.out u su;go_simp;exact hK _ _ su bR rfl
     ·intro bb u su dp kp K hK;obtain ⟨r44,e44,D44⟩:∃ r:Fr,gT bb 44 = r.val /\ Hid (Fq u r (((ci:Int):Rat))):=dp 5 _ rfl (by kernel_rfl);have e46:gT bb 46 = x.val:=dp 7 _ rfl (by kernel_rfl);go_simp;refine (Zam r44 x ((ci:Int):Rat) q u D44.out.fv (HV4.out.below su) (D44.out.few (S5.out.mono (by decide))) (ZhJ fx (by decide))).mono ?_;rintro e u' ⟨r9,rfl,hr9,hb⟩;go_simp;exact hK _ _ (su.trans (hb.mono su.size)) hb ⟨r9,rfl,zH hr9⟩
     ·intro bb u su dp kp K hK;have e10:gT bb 10 = .pointer (some ⟨kb,0,none⟩):=kp 10 (by kernel_rfl);obtain ⟨c2,c3,c4,g0,g1,g2⟩:=HC7.out u su;go_simp;exact hK _ _ su bR rfl
     ·intro bb u su dp kp K hK;obtain ⟨r47,e47,D47⟩:∃ r:Fr,gT bb 47 = r.val /\ Hid (Fq u r (((ci:Int):Rat) + q)):=dp 8 _ rfl (by kernel_rfl);have e48:gT bb 48 = r33.val:=dp 9 _ rfl (by kernel_rfl);go_simp;refine (ZgN r47 r33 (((ci:Int):Rat) + q) (((sm:Int):Rat) + q * ((V:Int):Rat)) u D47.out.fv (HFQr.out.below su).fv (D47.out.few (S6.out.mono (by decide))) ((HFQr.out.below su).few (S4.out.mono (by decide))) HNZ.out).mono ?_;rintro e u' ⟨r9,rfl,hr9,hb⟩;go_simp;exact hK _ _ (su.trans (hb.mono su.size)) hb ⟨r9,rfl,zH hr9⟩
     ·intro bb u su dp kp K hK;have e39:gT bb 39 = .slice (some ⟨ob,0,none⟩) V V:=dp 0 _ rfl (by kernel_rfl);have e40:gT bb 40 = .int .i64 (i:Int):=dp 1 _ rfl (by kernel_rfl);go_simp;exact hK _ _ su bR rfl
    ·intro bb u hN hdf su hG hsame;obtain ⟨r49,e49,D49⟩:∃ r:Fr,gT bb 49 = r.val /\ Hid (Fq u r ((((ci:Int):Rat) + q) * (((sm:Int):Rat) + q * ((V:Int):Rat))⁻¹)):=hG 10 _ rfl;have e50:gT bb 50 = .pointer (some ⟨ob,i * 3,none⟩):=hG 11 _ rfl;rw [JD bb _ [false,false,false,false,false,false,false,false,false,false,false,false,false,false,false,false,false,false,false,false,false,false,false,false,false,false,false,false,false,false,false,false,false,false,false,false,false,false,false,true,true,true,true,true,true,true,true,true,true,true,true,false,false] _ rfl hN rfl (by kernel_rfl) hdf hsame];simp only [Z5,Nat.reduceAdd,e49,e50];clear e49 e50 hG hsame hN hdf;generalize gT bb 39 = z39,gT bb 40 = z40,gT bb 41 = z41,gT bb 42 = z42,gT bb 43 = z43,gT bb 44 = z44,gT bb 45 = z45,gT bb 46 = z46,gT bb 47 = z47,gT bb 48 = z48;have HSu:=zH su;have HRu:=zH (Jg HR.out su);clear su;obtain ⟨v0,v1,v2⟩:=Zcv Rs hilen;have y0:u.cell? ⟨ob,i * 3,none⟩ = some (.bool Rs[i].neg):=(HRu.out.cellAt (i * 3) (by omega)).trans v0;have y1:u.cell? ⟨ob,i * 3 + 1,none⟩ = some (.slice Rs[i].A Rs[i].N.length Rs[i].c):=(HRu.out.cellAt (i * 3 + 1) (by omega)).trans v1;have y2:u.cell? ⟨ob,i * 3 + 2,none⟩ = some (.slice Rs[i].B Rs[i].D.length Rs[i].d):=(HRu.out.cellAt (i * 3 + 2) (by omega)).trans v2;have z0:=HRu.out.frozenAt (i * 3);have z1:=HRu.out.frozenAt (i * 3 + 1);have z2:=HRu.out.frozenAt (i * 3 + 2);have HY:=zH (show u.cell? ⟨ob,i * 3,none⟩ = some (.bool Rs[i].neg) /\ u.cell? ⟨ob,i * 3 + 1,none⟩ = some (.slice Rs[i].A Rs[i].N.length Rs[i].c) /\ u.cell? ⟨ob,i * 3 + 2,none⟩ = some (.slice Rs[i].B Rs[i].D.length Rs[i].d) from ⟨y0,y1,y2⟩);clear v0 v1 v2;refine PopQ.last rfl rfl (fun K hK=>?_);go_simp;refine hK _ _ ?_;clear hK K y0 y1 y2 z0 z1 z2;obtain ⟨Z,hZ⟩:∃ Z,Z = ((u.setCell ⟨ob,i * 3,none⟩ (.bool r49.neg)).setCell ⟨ob,i * 3 + 1,none⟩ (.slice r49.A r49.N.length r49.c)).setCell ⟨ob,i * 3 + 2,none⟩ (.slice r49.B r49.D.length r49.d):=⟨_,rfl⟩;rw [<- hZ];have hs1:=(HRu.out.stored (i * 3) (.bool r49.neg)).1;have hs2:=(hs1.stored (i * 3 + 1) (.slice r49.A r49.N.length r49.c)).1;have hs3:=(hs2.stored (i * 3 + 2) (.slice r49.B r49.D.length r49.d)).1;rw [ZiK Rs hilen,<- hZ] at hs3;have HR9:=zH hs3;have HKU:Hid (KU u Z):=zH (by
      rw [hZ];refine ((KU.set HY.out.1 (by simp [UV]) _).trans (KU.set (v0:=.slice Rs[i].A Rs[i].N.length Rs[i].c) ?_ (by simp [UV]) _)).trans (KU.set (v0:=.slice Rs[i].B Rs[i].D.length Rs[i].d) ?_ (by simp [UV]) _)
      ·rw [World.cell?_setCell_other _ _ _ _ (by simp)];exact HY.out.2.1
      ·rw [World.cell?_setCell_other _ _ _ _ (by simp),World.cell?_setCell_other _ _ _ _ (by simp)];exact HY.out.2.2)
     have HGB:Hid (u.grownBy Z (some ob)):=zH (by
      rw [hZ];exact J8 (p:=⟨ob,i * 3 + 2,none⟩) (J8 (p:=⟨ob,i * 3 + 1,none⟩) (J8 (p:=⟨ob,i * 3,none⟩) (World.grownBy.refl u (some ob)) (.inl rfl) _) (.inl rfl) _) (.inl rfl) _)
     have HKW:Hid (KU Wr Z):=zH ((KU.below HSu.out).trans HKU.out);have HFZ:Hid (Fq Z r49 (ZgC (ct (kOf hl)) sm V q i)):=zH (by unfold ZgC;rw [<- HCI.out];exact D49.out.ku HKU.out);clear hs1 hs2 hs3 hZ;have HZ9:Hid (∀ j r,j < i + 1 -> (Rs.set i r49)[j]? = some r -> Fq Z r (ZgC (ct (kOf hl)) sm V q j)):=zH (fun j r hj hr=>by
      by_cases e:j = i
      ·subst e;rw [List.getElem?_set_self hilen] at hr;injection hr with hr
       rw [<- hr];exact HFZ.out
      ·rw [List.getElem?_set_ne (fun h=>e h.symm)] at hr;exact (HZ.out j r (by omega) hr).ku HKW.out)
     have HK9:Hid (Kept W3 Z ob):=zH ((HK.out.below HSu.out).grown HGB.out);have HU9:Hid (KU W3 Z):=zH (HU.out.trans HKW.out);have HB9:Hid (Below w1.heap.size w1 Z):=zH ((HB.out.trans (HSu.out.mono HB.out.size)).grown HGB.out (by have:=HB.out.size;have:=HSu.out.size;omega) (fun k e=>by injection e with e;have:=HWO.out.2;omega));clear HKU HGB HKW HFZ HRu HY HSu;go_wp2_with fail;exact ⟨⟨i + 1,Rs.set i r49,by omega,by go_num,zH (by rw [List.length_set];exact HLN.out),HR9,HZ9,HK9,HU9,HB9⟩,by simp [intOf];omega⟩
   ·obtain rfl:i = V:=(by omega);go_wp2_with fail;go_ret;refine ⟨some ⟨ob,0,none⟩,Rs,sm,rfl,⟨Jw HR.out hwo,HLN.out,fun j r hr=>HZ.out j r (by have:=(List.getElem?_eq_some_iff.1 hr).1;rw [HLN.out] at this;exact this) hr⟩,?_,Nat.le_refl _,mm,HND.out,HMM.out,HRB.out,HSM.out⟩;have h1:=HB0.out.trans (HB1.out.mono HB0.out.size);exact h1.trans (HB.out.mono h1.size)
abbrev lgc (o:Nat) (v:Int) (A:Option Addr) (n c:Nat) (x:Fr):Array Value:=#[.int .i64 (o:Int),.int .i64 v,.slice A n c,.int .i64 1,.bool x.neg,.slice x.A x.N.length x.c,.slice x.B x.D.length x.d,.slice none 0 0]
def adV (lb o:Nat) (V:Nat) (x:Fr):Value:=.agg #[.slice (some ⟨lb,0,none⟩) (o + 1) (o + 1),.int .i64 (V:Int),.bool x.neg,.slice x.A x.N.length x.c,.slice x.B x.D.length x.d]
theorem ZhT (o:Nat) (V:Nat) (A:Option Addr) (c:Nat) (L:List Gm) (x:Fr) (w:World) (hT:Tb w A L) (hv:Hid (Yb o ((V:Int) - 1) (Jd L) = 0)) (hV : 2 <= V /\ V <= 2001) :
  Calls Tryz.prog 163 #[.agg (lgc o ((V:Int) - 1) A L.length c x)] w (fun e w'=>∃ lb b,e = .returned (.iface 240 (adV lb o V x)) /\ w'.cell? ⟨lb,0 + o,none⟩ = some (.map (some b)) /\ Lvl w' b (ctL o (Jd L)) /\ Below w.heap.size w w'):=by
 obtain ⟨v,hvv⟩:∃ v,v = (V:Int) - 1:=⟨_,rfl⟩;rw [<- hvv] at hv ⊢;have p1:IntKind.i64.wrap (v + 1) = (V:Int):=by rw [IntWalk.i64_in _ (by omega)];omega
 obtain ⟨W0,hW0⟩:∃ X:World,X = w.alloc (.cells (lgc o v A L.length c x) 108):=⟨_,rfl⟩;have HB0:Hid (Below w.heap.size w W0):=zH (by rw [hW0];exact bR.alloc nR _);have HX0:Hid (W0.heap[w.heap.size]? = some (.cells (lgc o v A L.length c x) 108 (0,0))):=zH (by rw [hW0];exact heap_alloc_new w _);obtain ⟨W1,hW1⟩:∃ X:World,X = W0.alloc (.cells #[.slice none 0 0,.int .i64 (V:Int)] 232):=⟨_,rfl⟩;have HB1:Hid (Below W0.heap.size W0 W1):=zH (by rw [hW1];exact bR.alloc nR _);have HX1:Hid (W1.heap[W0.heap.size]? = some (.cells #[.slice none 0 0,.int .i64 (V:Int)] 232 (0,0))):=zH (by rw [hW1];exact heap_alloc_new W0 _);have HTB:=zH ((hT.below HB0.out).below HB1.out);have HPB:Hid (∀ u,Below W0.heap.size W0 u -> u.cell? ⟨w.heap.size,0,none⟩ = some (.int .i64 (o:Int)) /\ u.cell? ⟨w.heap.size,1,none⟩ = some (.int .i64 v) /\ u.cell? ⟨w.heap.size,2,none⟩ = some (.slice A L.length c) /\ u.cell? ⟨w.heap.size,3,none⟩ = some (.int .i64 1) /\ u.cell? ⟨w.heap.size,4,none⟩ = some (.bool x.neg) /\ u.cell? ⟨w.heap.size,5,none⟩ = some (.slice x.A x.N.length x.c) /\ u.cell? ⟨w.heap.size,6,none⟩ = some (.slice x.B x.D.length x.d)):=zH (fun u hu=>by
  have hh:=(hu.block _ (aE HX0.out).1).trans HX0.out;exact ⟨(cR 0 hh).trans rfl,(cR 1 hh).trans rfl,(cR 2 hh).trans rfl,(cR 3 hh).trans rfl,(cR 4 hh).trans rfl,(cR 5 hh).trans rfl,(cR 6 hh).trans rfl⟩)
 have HLV:=zH (ZdS o v A c L W1 HTB.out hv);obtain ⟨c0,c1,c2,c3,c4,c5,c6⟩:=HPB.out W0 bR;have HVE:=zH hvv;clear hT hvv hV;go_enter Tryz.func163,Tryz.ntmps163;go_upto_region 1 with fail;rw [<- hW0];clear hW0;go_upto_region 2 with fail;clear c0 c1 c2 c3 c4 c5 c6 p1;rw [<- hW1];clear hW1;obtain ⟨c0,c1,c2,c3,c4,c5,c6⟩:=HPB.out W1 HB1.out;go_wp2_with fail;refine HLV.out.mono ?_;rintro e w2 ⟨lb,b,rfl,hcell,hlvl,hb2⟩;obtain ⟨cb,hcb⟩:∃ cb,cb = W0.heap.size:=⟨_,rfl⟩;rw [<- hcb] at HX1 ⊢;have hcw:cb < W1.heap.size:=(aE HX1.out).1;have hww:w.heap.size < cb:=by rw [hcb];exact (aE HX0.out).1
 have HCB:=zH hcb;clear hcb;have HX2:Hid (w2.heap[cb]? = some (.cells #[.slice none 0 0,.int .i64 (V:Int)] 232 (0,0))):=zH ((hb2.block _ hcw).trans HX1.out);have k0:w2.cell? ⟨cb,0,none⟩ = some (.slice none 0 0):=(cR 0 HX2.out).trans rfl;have f0:w2.frozen? ⟨cb,0,none⟩ = false:=Jm HX2.out 0;have hlw:lb < w2.heap.size:=Xg hcell;obtain ⟨W3,hW3⟩:∃ X:World,X = w2.setCell ⟨cb,0,none⟩ (.slice (some ⟨lb,0,none⟩) (o + 1) (o + 1)):=⟨_,rfl⟩;have HX3:Hid (W3.heap[cb]? = some (.cells #[.slice (some ⟨lb,0,none⟩) (o + 1) (o + 1),.int .i64 (V:Int)] 232 (0,0))):=zH (by rw [hW3];exact (JM HX2.out 0 _).trans rfl);have hne:lb ≠ cb:=fun e=>by
  rw [e,cell_of_row _ _ _ _ _ _ HX2.out] at hcell;rcases o with _ | _ | o
  ·cases hcell
  ·cases hcell
  ·simp at hcell
 have HCE:Hid (W3.cell? ⟨lb,0 + o,none⟩ = some (.map (some b))):=zH (by rw [hW3];exact (World.cell?_setCell_other _ _ _ _ (by simp)).trans hcell);have HLL:Hid (Lvl W3 b (ctL o (Jd L))):=zH (hlvl.maps (fun y es cl hy=>by
  rw [hW3];exact Below.heap_setCell _ _ _ _ (fun e=>by rw [e,HX2.out] at hy;cases hy)))
 have HB3:Hid (Below W0.heap.size W0 W3):=zH (by rw [hW3];exact ((HB1.out.trans (hb2.mono HB1.out.size)).setCell (by show W0.heap.size <= cb;have:=HCB.out;omega) _));clear c0 c1 c2 c3 c4 c5 c6 hcell hlvl;go_upto_region 3 with fail;rw [<- hW3];clear hW3 k0 f0;obtain ⟨c0,c1,c2,c3,c4,c5,c6⟩:=HPB.out W3 HB3.out;have k0:W3.cell? ⟨cb,0,none⟩ = some (.slice (some ⟨lb,0,none⟩) (o + 1) (o + 1)):=(cR 0 HX3.out).trans rfl;have k1:W3.cell? ⟨cb,1,none⟩ = some (.int .i64 (V:Int)):=(cR 1 HX3.out).trans rfl;go_wp2_with fail;refine bodyPost_ret (v:=.iface 240 (adV lb o V x)) (by simp [results,Tryz.results163,go_sem,adV]) rfl ?_;exact ⟨lb,b,rfl,HCE.out,HLL.out,HB0.out.trans (HB3.out.mono HB0.out.size)⟩
end Go.Proofs.YtcjicjfbippmnaaGreat
