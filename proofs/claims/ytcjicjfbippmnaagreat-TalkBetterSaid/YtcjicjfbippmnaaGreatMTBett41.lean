/- TalkBetter -/
import Derived.Test.YtcjicjfbippmnaaGreatMTBett40
set_option maxRecDepth 100000
set_option maxHeartbeats 32000000
namespace Go.Proofs.YtcjicjfbippmnaaGreat
open Go.RowKit Go.WideShapes Ear

section
variable {H:Type} {enc:TypeId × Value -> H} {P:Program} {w:World} {t e:TypeId} {cs:List Value} {v:Value} {d:DataW H} {p:List MemPlace} {r:Reach} {b0:Nat}
theorem Rd.dg (ht:P.underlying t = some (.slice e)) (he:P.underlying e = some (.int .u32)) (hc:P.cellsOf e = 1) (h:Rd enc P w t cs) :
  ∃ A c,∃ l:List Int,cs = [.slice A l.length c] /\ Dg w A c l /\ l.length <= 9223372036854775807:=by
 obtain ⟨A,c,l,h1,h2,h3,h4,h5,h6⟩:=h.slice ht hc (fun n=>[Value.int .u32 n]) (fun n=>0 <= n /\ n <= 4294967295) (fun cs hcs=>hcs.int he);rw [Zhe] at h2;exact ⟨A,c,l,h1,⟨h2,h6,h5,fun hA=>(h3 hA).1⟩,h4⟩
theorem Zif {f0 f1 f2:Field} (ht:P.underlying t = some (.struct #[f0,f1,f2])) (hC:P.cellsOf t = 3) (o0:f0.offset = 0) (o1:f1.offset = 1) (o2:f2.offset = 2) (u0:P.underlying f0.type = some .bool) (k0:P.cellsOf f0.type = 1)
  (u1:P.underlying f1.type = some (.slice e)) (k1:P.cellsOf f1.type = 1) (he:P.underlying e = some (.int .u32)) (ke:P.cellsOf e = 1) (u2:P.underlying f2.type = some (.slice e)) (k2:P.cellsOf f2.type = 1)
  (hv:Value.okWide P w r b0 t v) (h:DataW.Trod enc P w 0 (fun _=>true) true t v d p) :
  ∃ x:Fr,v = x.val /\ FrOk w x /\ x.N.length <= 9223372036854775807 /\ x.D.length <= 9223372036854775807:=by
 obtain ⟨cs,rfl,hl,hf⟩:=UU ht hC hv h
 match cs,hl with
 | [a,b,c],_=>
  have q0:=hf 0 f0 rfl;have q1:=hf 1 f1 rfl;have q2:=hf 2 f2 rfl;rw [o0,k0] at q0;rw [o1,k1] at q1;rw [o2,k2] at q2;obtain ⟨n,e0⟩:=q0.bool u0;obtain ⟨A,cA,N,e1,h1,l1⟩:=q1.dg u1 he ke;obtain ⟨B,cB,D,e2,h2,l2⟩:=q2.dg u2 he ke;simp at e0 e1 e2;subst e0 e1 e2;exact ⟨⟨n,A,cA,N,B,cB,D⟩,rfl,⟨h1,h2⟩,l1,l2⟩
end
end Go.Proofs.YtcjicjfbippmnaaGreat
namespace Ear
def Uf (F:List PFl):Nat:=F.findIdx fun f=>decide (f.st ≠ 3)
def Q0 (F:List PFl):Int:=if Uf F < F.length then (Uf F:Int) else -1
theorem ZiY {F:List PFl} {k:Nat} (hk:k < F.length) (h:F[k].st ≠ 3) (h2:∀ (j:Nat) (hj:j < F.length),j < k -> F[j].st = 3):Uf F = k:=by
 unfold Uf;rw [List.findIdx_eq hk];exact ⟨by simpa using h,fun j hj=>by simpa using h2 j (by omega) hj⟩
theorem ZfY {F:List PFl} (h2:∀ (j:Nat) (hj:j < F.length),F[j].st = 3):Uf F = F.length:=by
 unfold Uf;refine List.findIdx_eq_length_of_false fun x hx=>?_;obtain ⟨j,hj,rfl⟩:=List.getElem_of_mem hx;simpa using h2 j hj
theorem ZiZ {F:List PFl} {k:Nat} (hk:k < F.length) (h:F[k].st ≠ 3) (h2:∀ (j:Nat) (hj:j < F.length),j < k -> F[j].st = 3):Q0 F = k:=by
 unfold Q0;rw [ZiY hk h h2,if_pos hk]
theorem ZfZ {F:List PFl} (h2:∀ (j:Nat) (hj:j < F.length),F[j].st = 3):Q0 F = -1:=by
 unfold Q0;rw [ZfY h2,if_neg (by omega)]
end Ear
namespace Go.Proofs.YtcjicjfbippmnaaGreat
open Go.RowKit Ear

theorem Zd6 (f:FlM) (w:World) (r:Bool) (hr:Hid (decide (f.st ≠ 3) = r)):Calls Tryz.prog 143 #[.agg #[.int .i64 f.st,.string f.val,.slice f.A f.ref.length f.c]] w (Zdq r w):=by
 obtain ⟨W0,hW0⟩:∃ W0:World,W0 = w.alloc (.cells #[.int .i64 f.st,.string f.val,.slice f.A f.ref.length f.c] 76):=⟨_,rfl⟩;have HB0:Hid (Below w.heap.size w W0):=zH (by rw [hW0];exact bR.alloc nR _);have HX0:Hid (W0.heap[w.heap.size]? = some (.cells #[.int .i64 f.st,.string f.val,.slice f.A f.ref.length f.c] 76 (0,0))):=zH (by rw [hW0];exact heap_alloc_new w _);have c0:W0.cell? ⟨w.heap.size,0,none⟩ = some (.int .i64 f.st):=(cR 0 HX0.out).trans rfl;have hrr:=hr.out;obtain ⟨st,val,A,c,ref⟩:=f;simp only at *
 clear hr;have HR:=zH hrr;clear hrr;go_enter Tryz.func143,Tryz.ntmps143;go_wp2_with fail;rw [<- hW0];clear hW0;go_wp2_with fail;go_ret;refine ⟨?_,HB0.out⟩;rw [<- HR.out];by_cases h3:st = 3
 ·subst h3;rfl
 ·rw [decide_eq_true h3];have:(st != 3) = true:=by simp [h3]
  rw [<- this];rfl
theorem Vz {w:World} {g c n:Nat} {Fm:List FlM} (h:w.ownsRow 0 76 3 (.slice (some ⟨g,0,none⟩) n c) n (Yg Fm)) (hn:n = Fm.length) {k:Nat} (hk:k < Fm.length):w.cell? ⟨g,k * 3,none⟩ = some (.int .i64 Fm[k].st) /\ w.cell? ⟨g,k * 3 + 1,none⟩ = some (.string Fm[k].val) /\ w.cell? ⟨g,k * 3 + 2,none⟩ = some (.slice Fm[k].A Fm[k].ref.length Fm[k].c) /\ w.frozen? ⟨g,k * 3,none⟩ = false /\ w.frozen? ⟨g,k * 3 + 1,none⟩ = false /\ w.frozen? ⟨g,k * 3 + 2,none⟩ = false:=
 ⟨(h.cellAt (k * 3 + 0) (by omega)).trans (Vy Fm hk 0 (by omega)),(h.cellAt (k * 3 + 1) (by omega)).trans (Vy Fm hk 1 (by omega)),(h.cellAt (k * 3 + 2) (by omega)).trans (Vy Fm hk 2 (by omega)),h.frozenAt _,h.frozenAt _,h.frozenAt _⟩
theorem Zea (g c:Nat) (Fm:List FlM) (w:World) (h:w.ownsRow 0 76 3 (.slice (some ⟨g,0,none⟩) Fm.length c) Fm.length (Yg Fm)) (hn:Fm.length <= 1000000) (r:Int) (hr:Hid (Q0 (Fm.map FlM.pure) = r)) :
  Calls Tryz.prog 142 #[.slice (some ⟨g,0,none⟩) Fm.length c,.func (.func 143) #[] #[]] w fun e w'=>e = .returned (.int .i64 r) /\ Below w.heap.size w w':=by
 have heg:=enters_of Tryz.func143 (by kernel_rfl) rfl;have HO:=zH h;clear h;go_enter Tryz.func142,Tryz.ntmps142;go_wp2_with fail;go_loopw [8] (fun i wr=>∃ k:Nat,k <= Fm.length /\ i = .int .i64 k /\ Hid (∀ (j:Nat) (hj:j < Fm.length),j < k -> Fm[j].st = 3) /\ Hid (Below w.heap.size w wr)) (fun i _=>Fm.length - (intOf i).toNat)
 case atStart=>exact ⟨0,Nat.zero_le _,rfl,zH (fun j _ h=>by omega),zH bR⟩
 case round=>
  obtain ⟨k,hk,rfl,HN,HB⟩:=hrel;by_cases hlt:k < Fm.length
  ·obtain ⟨c0,c1,c2,-⟩:=Vz (Jg HO.out HB.out) rfl hlt;have HT:Hid (Fm[k].st ≠ 3 -> r = (k:Int)):=zH (fun hx=>by
    rw [<- hr.out];exact ZiZ (by simpa using hlt) (by simpa [FlM.pure] using hx) (fun j hj hjk=>by simpa [FlM.pure] using HN.out j (by simpa using hj) hjk))
   have HF:Hid (¬ Fm[k].st ≠ 3 -> ∀ (j:Nat) (hj:j < Fm.length),j < k + 1 -> Fm[j].st = 3):=zH (fun hx j hj hjk=>by
    by_cases e:j = k
    ·subst e;exact Classical.not_not.1 hx
    ·exact HN.out j hj (by omega))
   generalize Fm[k] = X at *
   go_wp2_with fail;refine (Zd6 X wr (decide (X.st ≠ 3)) (zH rfl)).mono ?_;rintro e w1 ⟨rfl,hb1⟩;have HB1:=zH (HB.out.trans (hb1.mono HB.out.size));clear hb1 c0 c1 c2;by_cases h3:X.st ≠ 3
   ·have HR:=zH (HT.out h3);rw [decide_eq_true h3];clear HT HF h3;go_wp2_with fail;go_ret;exact ⟨by rw [HR.out];rfl,HB1.out⟩
   ·have HR:=zH (HF.out h3);rw [dF h3];clear HT HF h3;go_wp2_with fail;exact ⟨⟨k + 1,by omega,by go_num,HR,HB1⟩,by simp [intOf];omega⟩
  ·have HR:Hid (r = -1):=zH (by
    rw [<- hr.out];exact ZfZ (fun j hj=>by
     have hj':j < Fm.length:=(by simpa using hj);simpa [FlM.pure] using HN.out j hj' (by omega)))
   have hlt':¬ (k:Int) < (Fm.length:Int):=(by omega);go_wp2_with fail;go_ret;exact ⟨by rw [HR.out];rfl,HB.out⟩
theorem DlM.cells {w:World} {bs:Nat} {a:DlA} {D:PDl} (h:DlM w bs a D):w.cell? ⟨a.q,0,none⟩ = some (.slice a.PA a.Ss.length a.pc) /\ w.cell? ⟨a.q,1,none⟩ = some (.int .i64 D.pat) /\ w.cell? ⟨a.q,2,none⟩ = some (.int .i64 D.prm) /\ w.cell? ⟨a.q,3,none⟩ = some (.int .i64 D.need) /\ w.cell? ⟨a.q,4,none⟩ = some (.slice (some ⟨a.gF,0,none⟩) a.Fm.length a.fc) /\ w.cell? ⟨a.q,5,none⟩ = some (.int .i64 D.stand) /\ w.cell? ⟨a.q,6,none⟩ = some (.int .i64 D.bad) /\ w.cell? ⟨a.q,7,none⟩ = some (.int .i64 D.cuts) /\ w.cell? ⟨a.q,8,none⟩ = some (.int .i64 D.prompt) /\ w.cell? ⟨a.q,9,none⟩ = some (.int .i64 D.last):=
 ⟨(cR 0 h.cell).trans rfl,(cR 1 h.cell).trans rfl,(cR 2 h.cell).trans rfl,(cR 3 h.cell).trans rfl,(cR 4 h.cell).trans rfl,(cR 5 h.cell).trans rfl,(cR 6 h.cell).trans rfl,(cR 7 h.cell).trans rfl,(cR 8 h.cell).trans rfl,(cR 9 h.cell).trans rfl⟩
theorem Qd (bs:Nat) (a:DlA) (D:PDl) (w:World) (h:DlM w bs a D) (hn:a.Fm.length <= 1000000) (r:Int) (hr:Hid (Q0 D.F = r)):Calls Tryz.prog 86 #[.pointer (some ⟨a.q,0,none⟩)] w fun e w'=>e = .returned (.int .i64 r) /\ Below w.heap.size w w':=by
 obtain ⟨-,-,-,-,c4,-,-,-,-,-⟩:=h.cells;have HI:=zH (Zea a.gF a.fc a.Fm w h.row hn r (zH (by rw [h.pure];exact hr.out)));clear h;go_enter Tryz.func86,Tryz.ntmps86;go_wp2_with fail;refine HI.out.mono ?_;rintro e w1 ⟨rfl,hb⟩;have HB:=zH hb;clear hb;go_wp2_with fail;go_ret;exact ⟨rfl,HB.out⟩
theorem ZD (bs:Nat) (a:DlA) (D:PDl) (w:World) (h:DlM w bs a D):Calls Tryz.prog 83 #[.pointer (some ⟨a.q,0,none⟩)] w fun e w'=>e = .returned (.bool true) /\ w' = w:=by
 obtain ⟨-,-,-,-,c4,-,-,-,-,-⟩:=h.cells;have hp:=h.pos;have hp2:(0:Int) < (a.Fm.length:Int):=by omega
 clear h;go_enter Tryz.func83,Tryz.ntmps83;go_wp2_with fail;go_ret;exact ⟨rfl,rfl⟩
structure EvM where
 kind:Int
 val:BA
 W:Fr
 at_:Int
def EvM.v (E:EvM):Value:=.agg #[.int .i64 E.kind,.string E.val,.bool E.W.neg,.slice E.W.A E.W.N.length E.W.c,.slice E.W.B E.W.D.length E.W.d,.int .i64 E.at_]
def Zj3 (D:PDl) (f:PFl) (s:PSl) (q:Rat) (at_:Int):Bool:=decide (f.st = 2) && decide (D.prompt + D.need <= at_) && decide (0 <= Yu (q + -s.le))
theorem ZcA (bs:Nat) (a:DlA) (D:PDl) (E:EvM) (q:Rat) (w:World) (h:DlM w bs a D) (hE:Fv w E.W q) (fE:Few E.W 90000) (k:Nat) (f:PFl) (ps:PSl) (hk:D.F[k]? = some f) (hs:D.S[k]? = some ps) (ha:Q0 D.F = k) (hn:a.Fm.length <= 1000000) (hp : 0 <= D.prompt /\ D.prompt <= 2199023255552) (hd : 0 <= D.need /\ D.need <= 10000) (r:Bool) (hr:Hid (Zj3 D f ps q E.at_ = r)) :
  Calls Tryz.prog 172 #[.pointer (some ⟨a.q,0,none⟩),E.v] w fun e w'=>e = .returned (.tuple #[.int .i64 k,.bool r]) /\ Below w.heap.size w w':=by
 obtain ⟨W0,hW0⟩:∃ W0:World,W0 = w.alloc (.cells #[.int .i64 E.kind,.string E.val,.bool E.W.neg,.slice E.W.A E.W.N.length E.W.c,.slice E.W.B E.W.D.length E.W.d,.int .i64 E.at_] 61):=⟨_,rfl⟩;have HB0:Hid (Below w.heap.size w W0):=zH (by rw [hW0];exact bR.alloc nR _);have HX0:Hid (W0.heap[w.heap.size]? = some (.cells #[.int .i64 E.kind,.string E.val,.bool E.W.neg,.slice E.W.A E.W.N.length E.W.c,.slice E.W.B E.W.D.length E.W.d,.int .i64 E.at_] 61 (0,0))):=zH (by rw [hW0];exact heap_alloc_new w _);have HD0:=zH (h.below HB0.out);have HA:=zH ha;have HE0:=zH (hE.below HB0.out);have HFE:=zH fE;have hws:w.heap.size < W0.heap.size:=(aE HX0.out).1;have HKF:=zH hk;have HKS:=zH hs;clear h ha hE fE hk hs;unfold EvM.v;go_enter Tryz.func172,Tryz.ntmps172;go_wp2_with fail;rw [<- hW0];clear hW0;refine (Qd bs a D W0 HD0.out hn k HA).mono ?_;rintro e W1 ⟨rfl,hb1⟩;have HD1:=zH (HD0.out.below hb1);have HEV:=zH (HE0.out.below hb1);have HX1:Hid (W1.heap[w.heap.size]? = some (.cells #[.int .i64 E.kind,.string E.val,.bool E.W.neg,.slice E.W.A E.W.N.length E.W.c,.slice E.W.B E.W.D.length E.W.d,.int .i64 E.at_] 61 (0,0))):=zH ((hb1.block _ hws).trans HX0.out);have HB1:=zH (HB0.out.trans (hb1.mono HB0.out.size));have hws1:w.heap.size < W1.heap.size:=(aE HX1.out).1;clear hb1;have hkS:k < a.Ss.length:=by
  have h1:=(List.getElem?_eq_some_iff.1 HKS.out).1;rw [HD1.out.plan.len];exact h1
 have hkF:k < a.Fm.length:=by rw [HD1.out.len];exact hkS
 obtain ⟨gb,go,ePA,hgb,hcell⟩:=HD1.out.plan.at_ hkS;have HOK:=zH (HD1.out.plan.ok k _ _ (gE hkS) HKS.out);have efm:a.Fm[k].st = f.st:=by
  have h1:(a.Fm.map FlM.pure)[k]? = some f:=by rw [HD1.out.pure];exact HKF.out
  rw [List.getElem?_map,gE hkF] at h1;injection h1 with h1
  rw [<- h1];rfl
 obtain ⟨k0,-,-,-,-,-⟩:=Vz HD1.out.row rfl hkF;rw [efm] at k0;generalize a.Ss[k] = s at *
 have HSL:=zH HOK.out.L;have HFS:=zH HOK.out.fL;obtain ⟨st,fval,fref⟩:=f;obtain ⟨pnm,pvs,le,su⟩:=ps;simp only at *
 have HCA:Hid (∀ w',Below W1.heap.size W1 w' -> w'.cell? ⟨a.q,0,none⟩ = some (.slice (some ⟨gb,go,none⟩) a.Ss.length a.pc) /\ w'.cell? ⟨a.q,3,none⟩ = some (.int .i64 D.need) /\ w'.cell? ⟨a.q,4,none⟩ = some (.slice (some ⟨a.gF,0,none⟩) a.Fm.length a.fc) /\ w'.cell? ⟨a.q,8,none⟩ = some (.int .i64 D.prompt) /\ w'.cell? ⟨a.gF,k * 3,none⟩ = some (.int .i64 st) /\ w'.cell? ⟨w.heap.size,2,none⟩ = some (.bool E.W.neg) /\ w'.cell? ⟨w.heap.size,3,none⟩ = some (.slice E.W.A E.W.N.length E.W.c) /\ w'.cell? ⟨w.heap.size,4,none⟩ = some (.slice E.W.B E.W.D.length E.W.d) /\ w'.cell? ⟨w.heap.size,5,none⟩ = some (.int .i64 E.at_) /\ w'.cell? ⟨gb,go + k * 8 + 2,none⟩ = some (.bool s.L.neg) /\ w'.cell? ⟨gb,go + k * 8 + 3,none⟩ = some (.slice s.L.A s.L.N.length s.L.c) /\ w'.cell? ⟨gb,go + k * 8 + 4,none⟩ = some (.slice s.L.B s.L.D.length s.L.d)):=zH (fun w' hw=>by
  obtain ⟨c0,-,-,c3,c4,-,-,-,c8,-⟩:=(HD1.out.below hw).cells;rw [ePA] at c0;have hx:=(hw.block _ hws1).trans HX1.out;exact ⟨c0,c3,c4,c8,(hw.cell (p:=⟨a.gF,k * 3,none⟩) (World.block_lt_of_cell? W1 _ k0)).trans k0,(cR 2 hx).trans rfl,(cR 3 hx).trans rfl,(cR 4 hx).trans rfl,(cR 5 hx).trans rfl,
   (hw.cell (p:=⟨gb,go + k * 8 + 2,none⟩) hgb).trans (hcell 2 _ rfl),(hw.cell (p:=⟨gb,go + k * 8 + 3,none⟩) hgb).trans (hcell 3 _ rfl),(hw.cell (p:=⟨gb,go + k * 8 + 4,none⟩) hgb).trans (hcell 4 _ rfl)⟩)
 have HC:=zH (HCA.out W1.drew bR.drew);have hkSi:(k:Int) < (a.Ss.length:Int):=by omega
 have hkFi:(k:Int) < (a.Fm.length:Int):=by omega
 have p1:IntKind.i64.wrap (D.prompt + D.need) = D.prompt + D.need:=IntWalk.i64_in _ (by omega);obtain ⟨R,hR⟩:∃ R,Yu (q + -le) = R:=⟨_,rfl⟩;have HR:=zH hR;have HRR:Hid (r = (decide (st = 2) && decide (D.prompt + D.need <= E.at_) && decide (0 <= R))):=zH (by rw [<- hr.out,<- hR];rfl);clear hR hr k0 hcell efm;go_upto_region 2 with fail;by_cases h2:st = 2;rotate_left
 ·have g2:(st == 2) = false:=by simp [h2]
  have H2:=zH h2;clear h2;refine Jk (S:=fun w'=>w'.cell? ⟨a.q,0,none⟩ = some (.slice (some ⟨gb,go,none⟩) a.Ss.length a.pc) /\ w'.cell? ⟨a.q,3,none⟩ = some (.int .i64 D.need) /\ w'.cell? ⟨a.q,4,none⟩ = some (.slice (some ⟨a.gF,0,none⟩) a.Fm.length a.fc) /\ w'.cell? ⟨a.q,8,none⟩ = some (.int .i64 D.prompt) /\ w'.cell? ⟨a.gF,k * 3,none⟩ = some (.int .i64 st) /\ w'.cell? ⟨w.heap.size,2,none⟩ = some (.bool E.W.neg) /\ w'.cell? ⟨w.heap.size,3,none⟩ = some (.slice E.W.A E.W.N.length E.W.c) /\ w'.cell? ⟨w.heap.size,4,none⟩ = some (.slice E.W.B E.W.D.length E.W.d) /\ w'.cell? ⟨w.heap.size,5,none⟩ = some (.int .i64 E.at_) /\ w'.cell? ⟨gb,go + k * 8 + 2,none⟩ = some (.bool s.L.neg) /\ w'.cell? ⟨gb,go + k * 8 + 3,none⟩ = some (.slice s.L.A s.L.N.length s.L.c) /\ w'.cell? ⟨gb,go + k * 8 + 4,none⟩ = some (.slice s.L.B s.L.D.length s.L.d)) 42 rfl (by kernel_rfl) HC.out (fun hHeld=>?_);iterate 42 (first | ((refine Jb (v:=?_) rfl (by kernel_rfl) (fun _ _ _ h=>h) ⟨by rfl,?_⟩ hHeld ?_;rotate_left;· intro w' sw;obtain ⟨hS1,hS2,hS3,hS4,hS5,hS6,hS7,hS8,hS9,hS10,hS11,hS12⟩:=sw;go_simp;try with_reducible rfl);simp only [zA,zB,zC]) | (refine Xy rfl (by kernel_rfl) (fun _ _ _ h=>h) (by rfl) hHeld ?_;simp only [zA,zB,zC]))
  refine wpAnyH_done (by kernel_rfl) ?_ _;go_wp2_with fail;go_ret2;exact ⟨by rw [HRR.out,dF H2.out];rfl,HB1.out.drew⟩
 ·have g2:(st == 2) = true:=by simp [h2]
  have H2:=zH h2;clear h2;by_cases h3:D.prompt + D.need <= E.at_;rotate_left
  ·have g3:decide (D.prompt + D.need <= E.at_) = false:=dF h3;have H3:=zH h3;clear h3;refine Jk (S:=fun w'=>w'.cell? ⟨a.q,0,none⟩ = some (.slice (some ⟨gb,go,none⟩) a.Ss.length a.pc) /\ w'.cell? ⟨a.q,3,none⟩ = some (.int .i64 D.need) /\ w'.cell? ⟨a.q,4,none⟩ = some (.slice (some ⟨a.gF,0,none⟩) a.Fm.length a.fc) /\ w'.cell? ⟨a.q,8,none⟩ = some (.int .i64 D.prompt) /\ w'.cell? ⟨a.gF,k * 3,none⟩ = some (.int .i64 st) /\ w'.cell? ⟨w.heap.size,2,none⟩ = some (.bool E.W.neg) /\ w'.cell? ⟨w.heap.size,3,none⟩ = some (.slice E.W.A E.W.N.length E.W.c) /\ w'.cell? ⟨w.heap.size,4,none⟩ = some (.slice E.W.B E.W.D.length E.W.d) /\ w'.cell? ⟨w.heap.size,5,none⟩ = some (.int .i64 E.at_) /\ w'.cell? ⟨gb,go + k * 8 + 2,none⟩ = some (.bool s.L.neg) /\ w'.cell? ⟨gb,go + k * 8 + 3,none⟩ = some (.slice s.L.A s.L.N.length s.L.c) /\ w'.cell? ⟨gb,go + k * 8 + 4,none⟩ = some (.slice s.L.B s.L.D.length s.L.d)) 42 rfl (by kernel_rfl) HC.out (fun hHeld=>?_);iterate 42 (first | ((refine Jb (v:=?_) rfl (by kernel_rfl) (fun _ _ _ h=>h) ⟨by rfl,?_⟩ hHeld ?_;rotate_left;· intro w' sw;obtain ⟨hS1,hS2,hS3,hS4,hS5,hS6,hS7,hS8,hS9,hS10,hS11,hS12⟩:=sw;go_simp;try with_reducible rfl);simp only [zA,zB,zC]) | (refine Xy rfl (by kernel_rfl) (fun _ _ _ h=>h) (by rfl) hHeld ?_;simp only [zA,zB,zC]))
   refine wpAnyH_done (by kernel_rfl) ?_ _;go_wp2_with fail;go_ret2;exact ⟨by rw [HRR.out,decide_eq_true H2.out,g3];rfl,HB1.out.drew⟩
  ·have g3:decide (D.prompt + D.need <= E.at_) = true:=decide_eq_true h3;have H3:=zH h3;clear h3;refine Jk (S:=fun w'=>w'.cell? ⟨a.q,0,none⟩ = some (.slice (some ⟨gb,go,none⟩) a.Ss.length a.pc) /\ w'.cell? ⟨a.q,3,none⟩ = some (.int .i64 D.need) /\ w'.cell? ⟨a.q,4,none⟩ = some (.slice (some ⟨a.gF,0,none⟩) a.Fm.length a.fc) /\ w'.cell? ⟨a.q,8,none⟩ = some (.int .i64 D.prompt) /\ w'.cell? ⟨a.gF,k * 3,none⟩ = some (.int .i64 st) /\ w'.cell? ⟨w.heap.size,2,none⟩ = some (.bool E.W.neg) /\ w'.cell? ⟨w.heap.size,3,none⟩ = some (.slice E.W.A E.W.N.length E.W.c) /\ w'.cell? ⟨w.heap.size,4,none⟩ = some (.slice E.W.B E.W.D.length E.W.d) /\ w'.cell? ⟨w.heap.size,5,none⟩ = some (.int .i64 E.at_) /\ w'.cell? ⟨gb,go + k * 8 + 2,none⟩ = some (.bool s.L.neg) /\ w'.cell? ⟨gb,go + k * 8 + 3,none⟩ = some (.slice s.L.A s.L.N.length s.L.c) /\ w'.cell? ⟨gb,go + k * 8 + 4,none⟩ = some (.slice s.L.B s.L.D.length s.L.d)) 42 rfl (by kernel_rfl) HC.out (fun hHeld=>?_);iterate 37 (((refine Jb (v:=?_) rfl (by kernel_rfl) (fun _ _ _ h=>h) ⟨by rfl,?_⟩ hHeld ?_;rotate_left;· intro w' sw;obtain ⟨hS1,hS2,hS3,hS4,hS5,hS6,hS7,hS8,hS9,hS10,hS11,hS12⟩:=sw;go_simp;try with_reducible rfl);simp only [zA,zB,zC]))
   refine JR 37 rfl (by kernel_rfl) (by rfl) (fun K hK=>?_);go_simp;refine (XJ E.W s.L q le W1.drew (HEV.out.below bR.drew) (HSL.out.below bR.drew) HFE.out HFS.out R HR).mono ?_;rintro e u1 ⟨rfl,hb1⟩;have HB9:=zH (HB1.out.trans ((Jz hb1).mono HB1.out.size));have hC9:=HCA.out u1 (Jz hb1);go_simp;refine hK _ _ hC9 (fun hHeld=>?_);clear hK K;iterate 4 (((refine Jb (v:=?_) rfl (by kernel_rfl) (fun _ _ _ h=>h) ⟨by rfl,?_⟩ hHeld ?_;rotate_left;· intro w' sw;obtain ⟨hS1,hS2,hS3,hS4,hS5,hS6,hS7,hS8,hS9,hS10,hS11,hS12⟩:=sw;go_simp;try with_reducible rfl);simp only [zA,zB,zC]))
   refine wpAnyH_done (by kernel_rfl) ?_ _;go_wp2_with fail;go_ret2;exact ⟨by rw [HRR.out,decide_eq_true H2.out,g3];rfl,HB9.out⟩
structure Chg (w w':World) (a a':DlA):Prop where
 os:w'.os = w.os
 tape:w'.tape = w.tape
 output:w'.output = w.output
 size:w.heap.size <= w'.heap.size
 block:∀ b,b < w.heap.size -> b ≠ a.q -> b ≠ a.gF -> (∀ f ∈ a.Fm,blk f.A ≠ some b) -> w'.heap[b]? = w.heap[b]?
 fresh:∀ f ∈ a'.Fm,∀ b,blk f.A = some b -> (∃ g ∈ a.Fm,blk g.A = some b) ∨ w.heap.size <= b
 same:a'.q = a.q /\ a'.gF = a.gF
theorem Chg.of_below {w w':World} {a:DlA} (h:Below w.heap.size w w'):Chg w w' a a:=⟨h.os,h.tape,h.output,h.size,fun b hb _ _ _=>h.block b hb,fun f hf _ hb=>.inl ⟨f,hf,hb⟩,rfl,rfl⟩
theorem Chg.trans {w w' w'':World} {a a' a'':DlA} (h:Chg w w' a a') (k:Chg w' w'' a' a''):Chg w w'' a a'':=
 ⟨k.os.trans h.os,k.tape.trans h.tape,k.output.trans h.output,tR h.size k.size,fun b h1 h2 h3 h4=>(k.block b (Nat.lt_of_lt_of_le h1 h.size) (by rw [h.same.1];exact h2) (by rw [h.same.2];exact h3) (fun f hf e=>by
  rcases h.fresh f hf b e with ⟨g,hg,e2⟩ | h5
  ·exact h4 g hg e2
  ·omega)).trans (h.block b h1 h2 h3 h4),
 fun f hf b hb=>by
  rcases k.fresh f hf b hb with ⟨g,hg,e2⟩ | h5
  ·exact h.fresh g hg b e2
  ·exact .inr (tR h.size h5),
 k.same.1.trans h.same.1,k.same.2.trans h.same.2⟩
theorem QU {Fs:List FlM} {k:Nat} {X x:FlM} (h:x ∈ Fs.set k X):x = X ∨ ∃ j,∃ hj:j < Fs.length,j ≠ k /\ x = Fs[j]:=by
 obtain ⟨j,hj,rfl⟩:=List.getElem_of_mem h;rw [List.getElem_set];split
 ·exact .inl rfl
 ·rename_i e;exact .inr ⟨j,by simpa using hj,fun e2=>e e2.symm,rfl⟩
theorem Zax {Fs:List FlM} (h:Fs.Pairwise fun x y=>∀ k,blk x.A = some k -> blk y.A ≠ some k) {i j:Nat} (hi:i < Fs.length) (hj:j < Fs.length) (hne:i ≠ j):∀ k,blk Fs[i].A = some k -> blk Fs[j].A ≠ some k:=by
 intro k h1 h2;rw [List.pairwise_iff_getElem] at h;rcases Nat.lt_or_ge i j with hl | hl
 ·exact h i j hi hj hl k h1 h2
 ·exact h j i hj hi (by omega) k h2 h1
theorem Zby {Fs:List FlM} {a:Nat} {X:FlM} (h:Fs.Pairwise fun x y=>∀ k,blk x.A = some k -> blk y.A ≠ some k) (hX:∀ k,blk X.A = some k -> ∀ j (hj:j < Fs.length),j ≠ a -> blk Fs[j].A ≠ some k):(Fs.set a X).Pairwise fun x y=>∀ k,blk x.A = some k -> blk y.A ≠ some k:=by
 rw [List.pairwise_iff_getElem];intro i j hi hj hlt k h1 h2;simp only [List.length_set] at hi hj;rw [List.getElem_set] at h1 h2;split at h1
 ·split at h2
  ·omega
  ·rename_i e1 e2;exact hX k h1 j hj (fun e=>e2 e.symm) h2
 ·split at h2
  ·rename_i e1 e2;exact hX k h2 i hi (fun e=>e1 e.symm) h1
  ·exact Zax h hi hj (by omega) k h1 h2
def DlA.put (a:DlA) (k:Nat) (Y:FlM):DlA:={ a with Fm:=a.Fm.set k Y }
def _root_.Ear.PDl.put (D:PDl) (k:Nat) (f:PFl):PDl:={ D with F:=D.F.set k f }
theorem DlM.put {w w':World} {bs:Nat} {a:DlA} {D:PDl} (h:DlM w bs a D) {k:Nat} (hk:k < a.Fm.length) (Y:FlM) (hs:w.heap.size <= w'.heap.size) (ho:w'.os = w.os) (ht:w'.tape = w.tape) (hu:w'.output = w.output)
  (hrow:w'.ownsRow 0 76 3 (.slice (some ⟨a.gF,0,none⟩) a.Fm.length a.fc) a.Fm.length (Yg (a.Fm.set k Y))) (hoth:∀ b,b < w.heap.size -> b ≠ a.gF -> blk a.Fm[k].A ≠ some b -> w'.heap[b]? = w.heap[b]?)
  (hY:w'.ownsRow bs 9 1 (.slice Y.A Y.ref.length Y.c) Y.ref.length (sbs Y.ref)) (hfr:∀ b,blk Y.A = some b -> blk a.Fm[k].A = some b ∨ w.heap.size <= b):DlM w' bs (a.put k Y) (D.put k Y.pure) /\ Chg w w' a (a.put k Y):=by
 have hbF:BT w a.gF 76:=BT.of_own h.row rfl;have hbX:∀ b,blk a.Fm[k].A = some b -> BT w b 9 /\ bs <= b:=fun b hb=>⟨BT.of_own (h.ref _ (yM hk)) (by rw [Jo];exact hb),((h.ref _ (yM hk)).lt b (by rw [Jo];exact hb)).1⟩;have hqb:BT w a.q 133:=⟨_,_,h.cell⟩;have hq:w'.heap[a.q]? = w.heap[a.q]?:=hoth _ hqb.lt (hqb.ne hbF (by decide)) (fun e=>(hbX _ e).1.ne hqb (by decide) rfl);refine ⟨⟨?_,?_,?_,?_,?_,?_,?_,?_,h.lt.1,h.lt.2.1,tR h.lt.2.2 hs⟩,?_⟩
 ·show w'.heap[a.q]? = some (.cells #[_,_,_,_,.slice (some ⟨a.gF,0,none⟩) (a.Fm.set k Y).length a.fc,_,_,_,_,_] _ _);rw [List.length_set,hq];exact h.cell
 ·intro w2 hs2 hk2;refine h.stab w2 (tR hs hs2) (fun b h1 h2 h3=>(hk2 b h1 h2 h3).trans (hoth b (Nat.lt_of_lt_of_le h1 h.lt.2.2) h3 (fun e=>?_)));have:=(hbX b e).2;omega
 ·show w'.ownsRow 0 _ 3 (.slice _ (a.Fm.set k Y).length _) (a.Fm.set k Y).length _;rw [List.length_set];exact hrow
 ·intro f hf;rcases QU hf with rfl | ⟨j,hj,hne,rfl⟩
  ·exact hY
  ·have ho:=h.ref _ (yM hj);have hgr:w.grownBy w' none ∨ True:=.inr trivial;refine ⟨ho.1,?_⟩;rcases ho.2 with hz | ⟨g,cap,cur,e1,e2,e3,rest⟩
   ·exact .inl hz
   ·refine .inr ⟨g,cap,cur,e1,e2,?_,rest⟩;have hbj:blk a.Fm[j].A = some g:=by
     injection e1 with e1
     rw [e1];rfl
    have hgt:BT w g 9:=⟨_,_,e3⟩;rw [hoth g hgt.lt (hgt.ne hbF (by decide)) (Zax h.apart hj hk hne g hbj)];exact e3
 ·refine Zby h.apart fun b hb j hj hne e=>?_;rcases hfr b hb with h1 | h1
  ·exact Zax h.apart hk hj (fun e=>hne e.symm) b h1 e
  ·have:=(BT.of_own (h.ref _ (yM hj)) (by rw [Jo];exact e)).lt;omega
 ·show (a.Fm.set k Y).map FlM.pure = D.F.set k Y.pure;rw [List.map_set,h.pure]
 ·show (a.Fm.set k Y).length = a.Ss.length;rw [List.length_set];exact h.len
 ·show 0 < (a.Fm.set k Y).length;rw [List.length_set];exact h.pos
 ·refine ⟨ho,ht,hu,hs,fun b h1 _ h3 h4=>hoth b h1 h3 (h4 _ (yM hk)),fun f hf b hb=>?_,rfl,rfl⟩;rcases QU hf with rfl | ⟨j,hj,hne,rfl⟩
  ·rcases hfr b hb with h1 | h1
   ·exact .inl ⟨_,yM hk,h1⟩
   ·exact .inr h1
  ·exact .inl ⟨_,yM hj,hb⟩
theorem Zcs (Fs:List FlM) {k:Nat} (hk:k < Fs.length):∃ O R,Fs = O ++ Fs[k] :: R /\ O.length = k /\ ∀ Y,Fs.set k Y = O ++ Y :: R:=by
 refine ⟨Fs.take k,Fs.drop (k + 1),?_,by simp;omega,fun Y=>?_⟩
 ·rw [<- List.drop_eq_getElem_cons hk,List.take_append_drop]
 ·exact List.set_eq_take_append_cons_drop.trans (by rw [if_pos hk])
theorem Y5 (O R:List FlM) (x:FlM):Yg (O ++ x :: R) = Yg O ++ (.int .i64 x.st :: .string x.val :: .slice x.A x.ref.length x.c :: Yg R):=by simp [Yg,flc]
theorem DlM.setSt {w:World} {bs:Nat} {a:DlA} {D:PDl} (h:DlM w bs a D) {k:Nat} (hk:k < a.Fm.length) (n:Int):DlM (w.setCell ⟨a.gF,k * 3,none⟩ (.int .i64 n)) bs (a.put k { a.Fm[k] with st:=n }) (D.put k { a.Fm[k].pure with st:=n }) /\ Chg w (w.setCell ⟨a.gF,k * 3,none⟩ (.int .i64 n)) a (a.put k { a.Fm[k] with st:=n }):=by
 obtain ⟨O,R,e1,e2,e3⟩:=Zcs a.Fm hk;have hst:=h.row.stored (k * 3) (.int .i64 n);have hset:(Yg a.Fm).set (k * 3) (.int .i64 n) = Yg (a.Fm.set k { a.Fm[k] with st:=n }):=by
  have hl:(Yg O).length = k * 3:=by rw [Yz,e2]
  rw [e3]
  conv=>lhs;rw [e1]
  rw [Y5,Y5,List.set_append_right _ _ (by omega),hl,Nat.sub_self];rfl
 rw [hset] at hst;have hr:=h.ref _ (yM hk);have hbF:BT w a.gF 76:=BT.of_own h.row rfl;refine h.put hk { a.Fm[k] with st:=n } hst.2.size hst.2.os hst.2.tape hst.2.output hst.1 (fun b h1 h2 _=>hst.2.block b h1 (by intro e;injection e with e;exact h2 e)) ?_ (fun b hb=>.inl hb);exact Jq hr hst.2 (fun b hb e=>by injection e with e;subst e;exact (BT.of_own hr hb).ne hbF (by decide) rfl)
theorem DlM.setVal {w:World} {bs:Nat} {a:DlA} {D:PDl} (h:DlM w bs a D) {k:Nat} (hk:k < a.Fm.length) (s:BA):DlM (w.setCell ⟨a.gF,k * 3 + 1,none⟩ (.string s)) bs (a.put k { a.Fm[k] with val:=s }) (D.put k { a.Fm[k].pure with val:=s }) /\ Chg w (w.setCell ⟨a.gF,k * 3 + 1,none⟩ (.string s)) a (a.put k { a.Fm[k] with val:=s }):=by
 obtain ⟨O,R,e1,e2,e3⟩:=Zcs a.Fm hk;have hst:=h.row.stored (k * 3 + 1) (.string s);have hset:(Yg a.Fm).set (k * 3 + 1) (.string s) = Yg (a.Fm.set k { a.Fm[k] with val:=s }):=by
  have hl:(Yg O).length = k * 3:=by rw [Yz,e2]
  rw [e3]
  conv=>lhs;rw [e1]
  rw [Y5,Y5,List.set_append_right _ _ (by omega),hl,show k * 3 + 1 - k * 3 = 1 by omega];rfl
 rw [hset] at hst;have hr:=h.ref _ (yM hk);have hbF:BT w a.gF 76:=BT.of_own h.row rfl;refine h.put hk { a.Fm[k] with val:=s } hst.2.size hst.2.os hst.2.tape hst.2.output hst.1 (fun b h1 h2 _=>hst.2.block b h1 (by intro e;injection e with e;exact h2 e)) ?_ (fun b hb=>.inl hb);exact Jq hr hst.2 (fun b hb e=>by injection e with e;subst e;exact (BT.of_own hr hb).ne hbF (by decide) rfl)
def Up (bs:Nat) (a:DlA) (r:Bool) (D:PDl) (w:World) (e:Ending) (w':World):Prop:=∃ a',e = .returned (.bool r) /\ DlM w' bs a' D /\ Chg w w' a a'
theorem ZhR (bs:Nat) (a:DlA) (D:PDl) (E:EvM) (q:Rat) (w:World) (h:DlM w bs a D) (hE:Fv w E.W q) (fE:Few E.W 90000) (k:Nat) (f:PFl) (ps:PSl) (hk:D.F[k]? = some f) (hs:D.S[k]? = some ps) (ha:Q0 D.F = k) (hn:a.Fm.length <= 1000000) (hp : 0 <= D.prompt /\ D.prompt <= 2199023255552) (hd : 0 <= D.need /\ D.need <= 10000) (r:Bool) (hr:Hid (Zj3 D f ps q E.at_ = r)) (D':PDl) (hD':Hid ((if r = true then D.put k { f with st:=3 } else D) = D')) :
  Calls Tryz.prog 139 #[.pointer (some ⟨a.q,0,none⟩),E.v] w (Up bs a r D' w):=by
 obtain ⟨W0,hW0⟩:∃ W0:World,W0 = w.alloc (.cells #[.int .i64 E.kind,.string E.val,.bool E.W.neg,.slice E.W.A E.W.N.length E.W.c,.slice E.W.B E.W.D.length E.W.d,.int .i64 E.at_] 61):=⟨_,rfl⟩;have HB0:Hid (Below w.heap.size w W0):=zH (by rw [hW0];exact bR.alloc nR _);have HX0:Hid (W0.heap[w.heap.size]? = some (.cells #[.int .i64 E.kind,.string E.val,.bool E.W.neg,.slice E.W.A E.W.N.length E.W.c,.slice E.W.B E.W.D.length E.W.d,.int .i64 E.at_] 61 (0,0))):=zH (by rw [hW0];exact heap_alloc_new w _);have HD0:=zH (h.below HB0.out);have HAN:=zH (ZcA bs a D E q W0 HD0.out (hE.below HB0.out) fE k f ps hk hs ha hn hp hd r hr);have hkF:k < a.Fm.length:=by
  have h1:=(List.getElem?_eq_some_iff.1 hk).1;have h2:=congrArg List.length h.pure;simp at h2;omega
 have efm:a.Fm[k].pure = f:=by
  have h1:(a.Fm.map FlM.pure)[k]? = some f:=by rw [h.pure];exact hk
  rw [List.getElem?_map,gE hkF] at h1;injection h1
 have EFM:=zH efm;have c0:=(cR 0 HX0.out).trans rfl;have c1:=(cR 1 HX0.out).trans rfl;have c2:=(cR 2 HX0.out).trans rfl;have c3:=(cR 3 HX0.out).trans rfl;have c4:=(cR 4 HX0.out).trans rfl;have c5:=(cR 5 HX0.out).trans rfl;clear h hE ha hp hd hr efm hk hs;unfold EvM.v at *
 go_enter Tryz.func139,Tryz.ntmps139;go_wp2_with fail;rw [<- hW0];clear hW0;go_wp2_with fail;refine HAN.out.mono ?_;rintro e W1 ⟨rfl,hb1⟩;have HD1:=zH (HD0.out.below hb1);have HB1:=zH (HB0.out.trans (hb1.mono HB0.out.size));clear hb1 c0 c1 c2 c3 c4 c5 HAN;cases r with
 | false=>
  go_wp2_with fail;go_ret;have e:=hD'.out;rw [if_neg (by decide)] at e;exact ⟨a,rfl,e ▸ HD1.out,Chg.of_below HB1.out⟩
 | true=>
  obtain ⟨-,-,-,-,c4,-,-,-,-,-⟩:=HD1.out.cells;obtain ⟨k0,-,-,f0,-,-⟩:=Vz HD1.out.row rfl hkF;have hki:(k:Int) < (a.Fm.length:Int):=by omega
  go_wp2_with fail;go_ret;obtain ⟨h1,h2⟩:=HD1.out.setSt hkF 3;rw [EFM.out] at h1;have e:=hD'.out;rw [if_pos trivial] at e;exact ⟨_,rfl,e ▸ h1,(Chg.of_below HB1.out).trans h2⟩
def Zkb (x:BA) (l:List BA) (w:World) (e:Ending) (w':World):Prop:=∃ r:Int,e = .returned (.int .i64 r) /\ w = w' /\ decide (0 <= r) = decide (x ∈ l)
theorem ZcO {l:List BA} {k:Nat} (hk:k < l.length) {x:BA} (h:x ∉ l.take k) (h2:¬ x = l[k]):x ∉ l.take (k + 1):=by
 rw [List.take_succ_eq_append_getElem hk];simp only [List.mem_append,List.mem_singleton,not_or];exact ⟨h,h2⟩
theorem ZbK (A:Option Addr) (c:Nat) (l:List BA) (x:BA) (w:World) (h:Lies w A (sbs l)) (hn:l.length <= 9223372036854775807) :
  Calls Tryz.prog 197 #[.slice A l.length c,.string x] w (Zkb x l w):=by
 go_enter Tryz.func197,Tryz.ntmps197;go_wp2;go_loop [5,8] (fun _ i=>∃ k:Nat,k <= l.length /\ i = .int .i64 k /\ x ∉ l.take k) (fun _ i=>l.length - (intOf i).toNat)
 case atStart=>exact ⟨0,Nat.zero_le _,rfl,by simp⟩
 case round=>
  obtain ⟨k,hk,rfl,hp'⟩:=hrel;have HP:=zH hp';clear hp';by_cases hlt:k < l.length
  ·obtain ⟨bk,off,rfl,hb,hc⟩:=h
    (by simpa using Nat.lt_of_le_of_lt (Nat.zero_le k) hlt)
   have hc0:=hc k (.string l[k]) (by simp [gE hlt]);have HL:=zH (rfl:l[k] = l[k]);clear hc;by_cases hx:x = l[k]
   ·have HX:=zH hx;rw [<- hx] at hc0;clear hx;go_wp2_with fail;go_ret;exact ⟨k,rfl,rfl,by rw [decide_eq_true (by omega),decide_eq_true (by rw [HX.out];exact yM hlt)]⟩
   ·have HX:=zH hx;have hxx:(ByteArray.toList x == ByteArray.toList l[k]) = false:=(by rw [beq_eq_false_iff_ne];rw [ByteArray.toList_eq,ByteArray.toList_eq];exact fun e=>hx (by cases hq:l[k];cases x;rw [hq] at e;simpa using e));clear hx;go_wp2_with fail;exact ⟨⟨k + 1,by omega,by go_num,ZcO hlt HP.out HX.out⟩,by simp [intOf];omega⟩
  ·go_wp2;go_ret;exact ⟨-1,rfl,rfl,by have hh:=HP.out;rw [List.take_of_length_le (by omega)] at hh;rw [dF hh];rfl⟩
theorem YD (A:Option Addr) (c:Nat) (l:List BA) (x:BA) (w:World) (h:Lies w A (sbs l)) (hn:l.length <= 9223372036854775807) (r:Bool) (hr:Hid (decide (x ∈ l) = r)) :
  Calls Tryz.prog 173 #[.slice A l.length c,.string x] w fun e w'=>e = .returned (.bool r) /\ w = w':=by
 go_enter Tryz.func173,Tryz.ntmps173;go_wp2_with fail;refine (ZbK A c l x _ h hn).mono ?_;rintro e w' ⟨r',rfl,rfl,hr'⟩;have HR:=zH (hr'.trans hr.out);clear hr';go_wp2_with fail;go_ret;exact ⟨Jn HR.out,rfl⟩
end Go.Proofs.YtcjicjfbippmnaaGreat
