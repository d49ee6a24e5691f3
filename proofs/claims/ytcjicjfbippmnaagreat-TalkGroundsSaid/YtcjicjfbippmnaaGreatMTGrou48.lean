/- TalkGrounds -/
import Derived.Test.YtcjicjfbippmnaaGreatMTGrou45
set_option maxRecDepth 100000
set_option maxHeartbeats 32000000
namespace Go.Proofs.YtcjicjfbippmnaaGreat
open Go.RowKit Ear

theorem Zdd (A:Option Addr) (c:Nat) (l:List BA) (x:BA) (w:World) (h:Lies w A (sbs l)) (hn:l.length <= 9223372036854775807) (r:Bool) (hr:Hid (decide (x ∈ l) = r)) :
  Calls Tryz.prog 38 #[.slice A l.length c,.string x] w fun e w'=>e = .returned (.bool r) /\ w = w':=by
 go_enter Tryz.func38,Tryz.ntmps38
 go_wp2_with fail
 go_loop [5] (fun i=>∃ k:Nat,k <= l.length /\ i = .int .i64 k /\ Hid (x ∉ l.take k)) (fun i=>l.length - (intOf i).toNat)
 case atStart=>exact ⟨0,Nat.zero_le _,rfl,zH (by simp)⟩
 case round=>
  obtain ⟨k,hk,rfl,HP⟩:=hrel
  by_cases hlt:k < l.length
  ·obtain ⟨bk,off,rfl,hb,hc⟩:=h
    (by simpa using Nat.lt_of_le_of_lt (Nat.zero_le k) hlt)
   have hc0:=hc k (.string l[k]) (by simp [gE hlt])
   clear hc
   by_cases hx:x = l[k]
   ·have hz:r = true:=by rw [<- hr.out];exact decide_eq_true (by rw [hx];exact gM hlt)
    subst hz
    clear hr HP
    rw [<- hx] at hc0
    clear hx
    go_wp2_with fail
    go_ret
    exact ⟨rfl,rfl⟩
   ·have HX:=zH hx
    have hxx:(ByteArray.toList l[k] == ByteArray.toList x) = false:=by rw [beq_eq_false_iff_ne];rw [ByteArray.toList_eq,ByteArray.toList_eq];exact fun e=>hx (by cases hq:l[k];cases x;rw [hq] at e;simpa using e.symm)
    clear hx
    have HN:=zH (Uo hlt HP.out HX.out)
    clear HP HX
    go_wp2_with fail
    exact ⟨⟨k + 1,by omega,by go_num,HN⟩,by simp [intOf];omega⟩
  ·have hz:r = false:=by rw [<- hr.out];exact dF (by have hh:=HP.out;rw [List.take_of_length_le (by omega)] at hh;exact hh)
   subst hz
   clear hr HP
   go_wp2_with fail
   go_ret
   exact ⟨rfl,rfl⟩
theorem Zc4 (w:World):Calls Tryz.prog 144 #[.int .i64 0] w fun e w'=>e = .returned (.int .i64 0) /\ w' = w:=by
 go_enter Tryz.func144,Tryz.ntmps144
 go_wp2_with fail
 go_ret
 exact ⟨rfl,rfl⟩
theorem Qu:∀ l:List UInt8,Op.bytesLess l l = false:=by
 intro l
 induction l with
 | nil=>rfl
 | cons x l ih=>unfold Op.bytesLess;simp [ih]
theorem ZcU (A B:Option Addr) (c d:Nat) (l:List BA) (w:World) (hA:Lies w A (sbs l)) (hB:Lies w B (sbs l)) (hn:l.length <= 9223372036854775807) :
  Calls Tryz.prog 93 #[.slice A l.length c,.slice B l.length d] w fun e w'=>e = .returned (.int .i64 0) /\ Below w.heap.size w w':=by
 go_enter Tryz.func93,Tryz.ntmps93
 go_wp2_with fail
 go_loopw [5] (fun i wr=>∃ k:Nat,k <= l.length /\ i = .int .i64 k /\ Hid (Below w.heap.size w wr)) (fun i _=>l.length - (intOf i).toNat)
 case atStart=>exact ⟨0,Nat.zero_le _,rfl,zH bR⟩
 case round=>
  obtain ⟨k,hk,rfl,HB⟩:=hrel
  by_cases hlt:k < l.length
  ·obtain ⟨bk,off,rfl,hb,hc⟩:=(hA.below HB.out) (by simpa using Nat.lt_of_le_of_lt (Nat.zero_le k) hlt)
   obtain ⟨bm,ofm,rfl,hbm,hcm⟩:=(hB.below HB.out) (by simpa using Nat.lt_of_le_of_lt (Nat.zero_le k) hlt)
   have hc0:=hc k (.string l[k]) (by simp [gE hlt])
   have hc1:=hcm k (.string l[k]) (by simp [gE hlt])
   clear hc hcm
   generalize l[k] = x at *
   have hl:=Qu (ByteArray.toList x)
   go_upto_region 4 with fail
   go_quiet (fail)
   obtain ⟨W1,hW1⟩:∃ W1:World,W1 = wr.drewN nq:=⟨_,rfl⟩
   have HB1:Hid (Below wr.heap.size wr W1):=zH (by rw [hW1];exact bR.drw _)
   have hc2:=(HB1.out.cell (p:=⟨bk,off + k,none⟩) hb).trans hc0
   have hc3:=(HB1.out.cell (p:=⟨bm,ofm + k,none⟩) hbm).trans hc1
   rw [<- hW1]
   clear hW1 hc0 hc1
   go_upto_region 6 with fail
   go_quiet (fail)
   have HB2:Hid (Below w.heap.size w (W1.drewN nq)):=zH (HB.out.trans ((HB1.out.trans ((Below.refl W1.heap.size W1).drw nq |>.mono HB1.out.size)).mono HB.out.size))
   go_wp2_with fail
   exact ⟨⟨k + 1,by omega,by go_num,HB2⟩,by simp [intOf];omega⟩
  ·obtain rfl:k = l.length:=by omega
   go_wp2_with fail
   refine (Zc4 wr).mono ?_
   rintro e w1 ⟨rfl,rfl⟩
   go_wp2_with fail
   go_ret
   exact ⟨rfl,HB.out⟩
structure StM (w:World) (A:Option Addr) (F:List FlM):Prop where
 row:Lies w A (XP F)
 ref:∀ f ∈ F,Lies w f.A (sbs f.ref)
theorem StM.below {w w':World} {A:Option Addr} {F:List FlM} (h:StM w A F) (hb:Below w.heap.size w w'):StM w' A F:=⟨h.row.below hb,fun f hf=>(h.ref f hf).below hb⟩
theorem StM.at_ {w:World} {A:Option Addr} {F:List FlM} (h:StM w A F) {k:Nat} (hk:k < F.length):∃ b off,A = some ⟨b,off,none⟩ /\ b < w.heap.size /\ w.cell? ⟨b,off + k * 3,none⟩ = some (.int .i64 F[k].st) /\ w.cell? ⟨b,off + k * 3 + 1,none⟩ = some (.string F[k].val) /\ w.cell? ⟨b,off + k * 3 + 2,none⟩ = some (.slice F[k].A F[k].ref.length F[k].c):=by
 obtain ⟨b,off,e,hb,hc⟩:=h.row (by rw [XB];omega)
 have key:∀ (j:Nat) (v:Value),j < 3 -> (flc F[k])[j]? = some v -> w.cell? ⟨b,off + (k * 3 + j),none⟩ = some v:=fun j v hj hv=>hc _ _ (by rw [Zt F hk j hj];exact hv)
 exact ⟨b,off,e,hb,key 0 _ (by omega) rfl,by rw [Nat.add_assoc];exact key 1 _ (by omega) rfl,by rw [Nat.add_assoc];exact key 2 _ (by omega) rfl⟩
theorem VI (A B:Option Addr) (c d:Nat) (F G:List FlM) (bad cuts:Int) (dn gu:Bool) (w:World) (hF:StM w A F) (hG:StM w B G) (hp:F.map FlM.pure = G.map FlM.pure) (hn:F.length <= 1000000) (hr:∀ f ∈ F,f.ref.length <= 1000000) :
  Calls Tryz.prog 37 #[.agg #[.slice A F.length c,.int .i64 bad,.bool dn,.bool gu,.int .i64 cuts],.agg #[.slice B G.length d,.int .i64 bad,.bool dn,.bool gu,.int .i64 cuts]] w (Qx true w):=by
 obtain ⟨W,hW⟩:∃ W:World,W = (w.alloc (.cells #[.slice A F.length c,.int .i64 bad,.bool dn,.bool gu,.int .i64 cuts] 65)).alloc (.cells #[.slice B G.length d,.int .i64 bad,.bool dn,.bool gu,.int .i64 cuts] 65):=⟨_,rfl⟩
 have HB0:Hid (Below w.heap.size w W):=zH (by rw [hW];exact al2 w _ _)
 have HWS:Hid (W.heap.size = w.heap.size + 2):=zH (by rw [hW];simp)
 have hx1:W.heap[w.heap.size]? = some (.cells #[.slice A F.length c,.int .i64 bad,.bool dn,.bool gu,.int .i64 cuts] 65 (0,0)):=by rw [hW];exact (ZO w _ _)
 have hx2:W.heap[w.heap.size + 1]? = some (.cells #[.slice B G.length d,.int .i64 bad,.bool dn,.bool gu,.int .i64 cuts] 65 (0,0)):=by rw [hW];exact (ZN w _ _)
 have hgl:G.length = F.length:=by have:=congrArg List.length hp;simpa using this.symm
 rw [hgl] at hx2 hW
 have HC:Hid (∀ u,Below W.heap.size W u -> (u.cell? ⟨w.heap.size,0,none⟩ = some (.slice A F.length c) /\ u.cell? ⟨w.heap.size,1,none⟩ = some (.int .i64 bad) /\ u.cell? ⟨w.heap.size,2,none⟩ = some (.bool dn) /\ u.cell? ⟨w.heap.size,3,none⟩ = some (.bool gu) /\ u.cell? ⟨w.heap.size,4,none⟩ = some (.int .i64 cuts)) /\
   (u.cell? ⟨w.heap.size + 1,0,none⟩ = some (.slice B F.length d) /\ u.cell? ⟨w.heap.size + 1,1,none⟩ = some (.int .i64 bad) /\ u.cell? ⟨w.heap.size + 1,2,none⟩ = some (.bool dn) /\ u.cell? ⟨w.heap.size + 1,3,none⟩ = some (.bool gu) /\ u.cell? ⟨w.heap.size + 1,4,none⟩ = some (.int .i64 cuts))):=zH (fun u hu=>by
  have h1:=(hu.block _ (aE hx1).1).trans hx1
  have h2:=(hu.block _ (aE hx2).1).trans hx2
  exact ⟨⟨(cR 0 h1).trans rfl,(cR 1 h1).trans rfl,(cR 2 h1).trans rfl,(cR 3 h1).trans rfl,(cR 4 h1).trans rfl⟩,(cR 0 h2).trans rfl,(cR 1 h2).trans rfl,(cR 2 h2).trans rfl,(cR 3 h2).trans rfl,(cR 4 h2).trans rfl⟩)
 have HF:=zH (hF.below HB0.out)
 have HG:=zH (hG.below HB0.out)
 have HGL:=zH hgl
 have HP:=zH hp
 have HR:=zH hr
 obtain ⟨⟨c0,c1,c2,c3,c4⟩,d0,d1,d2,d3,d4⟩:=HC.out W bR
 rw [hgl]
 clear hF hG hp hr hx1 hx2 hgl
 have q1:(bad != bad) = false:=by simp
 have q2:(cuts != cuts) = false:=by simp
 have q3:((F.length:Int) != (F.length:Int)) = false:=by simp
 go_enter Tryz.func37,Tryz.ntmps37
 go_upto_region 1 with fail
 rw [<- hW]
 clear hW
 have q4:(dn != dn) = false:=by cases dn <;> rfl
 have q5:(gu != gu) = false:=by cases gu <;> rfl
 go_wp2_with fail
 clear c0 c1 c2 c3 c4 d0 d1 d2 d3 d4
 go_loopw [5,6,7] (fun i _ _ wr=>∃ k:Nat,k <= F.length /\ i = .int .i64 k /\ Hid (Below W.heap.size W wr)) (fun i _ _ _=>F.length - (intOf i).toNat)
 case atStart=>exact ⟨0,Nat.zero_le _,rfl,zH bR⟩
 case round=>
  obtain ⟨k,hk,rfl,HB⟩:=hrel
  obtain ⟨⟨c0,-,-,-,-⟩,d0,-,-,-,-⟩:=HC.out wr HB.out
  by_cases hlt:k < F.length
  ·have hlg:k < G.length:=by rw [HGL.out];exact hlt
   have hws:w.heap.size < wr.heap.size:=by have:=HB.out.size;have:=HWS.out;omega
   have hws2:w.heap.size + 1 < wr.heap.size:=by have:=HB.out.size;have:=HWS.out;omega
   obtain ⟨ba,oa,rfl,hba,x0,x1,x2⟩:=(HF.out.below HB.out).at_ hlt
   obtain ⟨bb,ob,rfl,hbb,y0,y1,y2⟩:=(HG.out.below HB.out).at_ hlg
   have HRF:=zH ((HF.out.below HB.out).ref _ (gM hlt))
   have HRG:=zH ((HG.out.below HB.out).ref _ (gM hlg))
   have hrl:=HR.out _ (gM hlt)
   have hfg:F[k].pure = G[k].pure:=by
    have h9:(F.map FlM.pure)[k]? = (G.map FlM.pure)[k]?:=by rw [HP.out]
    simpa [gE hlt,gE hlg] using h9
   generalize F[k] = f at *
   generalize G[k] = g at *
   obtain ⟨fs,fv,fA,fc,fr⟩:=f
   obtain ⟨gs,gv,gA,gc,gr⟩:=g
   simp only [FlM.pure] at hfg
   injection hfg with e1 e2 e3
   subst e1 e2 e3
   simp only at *
   go_upto_region 6 with fail
   go_cut [6,7] from 43 to 79 (fun t6 t7 wx=>∃ k6 k7,t6 = .pointer (some ⟨k6,0,none⟩) /\ t7 = .pointer (some ⟨k7,0,none⟩) /\ Hid (wx.heap[k6]? = some (.cells #[.int .i64 fs,.string fv,.slice fA fr.length fc] 76 (0,0))) /\ Hid (wx.heap[k7]? = some (.cells #[.int .i64 fs,.string fv,.slice gA fr.length gc] 76 (0,0))) /\ Hid (Below wr.heap.size wr wx))
   case first=>
    go_region
    all_goals (go_wp2_with fail;go_meet)
    ·exact ⟨_,_,rfl,rfl,zH (ZO _ _ _),zH (ZN _ _ _),zH (Y1 (al2 _ _ _))⟩
    ·exact ⟨_,_,rfl,rfl,zH (ZN _ _ _),zH (ZO _ _ _),zH (Y1 (al2 _ _ _))⟩
   case rest=>
    obtain ⟨k6,k7,rfl,rfl,h6,h7,HBX⟩:=hcut
    have HWX:=zH (HB.out.trans (HBX.out.mono HB.out.size))
    have p0:wc.cell? ⟨k6,0,none⟩ = some (.int .i64 fs):=(cR 0 h6.out).trans rfl
    have p1:wc.cell? ⟨k6,1,none⟩ = some (.string fv):=(cR 1 h6.out).trans rfl
    have p2:wc.cell? ⟨k6,2,none⟩ = some (.slice fA fr.length fc):=(cR 2 h6.out).trans rfl
    have r0:wc.cell? ⟨k7,0,none⟩ = some (.int .i64 fs):=(cR 0 h7.out).trans rfl
    have r1:wc.cell? ⟨k7,1,none⟩ = some (.string fv):=(cR 1 h7.out).trans rfl
    have r2:wc.cell? ⟨k7,2,none⟩ = some (.slice gA fr.length gc):=(cR 2 h7.out).trans rfl
    have q6:(fs != fs) = false:=by simp
    have CT:=zH (ZcU fA gA fc gc fr wc (HRF.out.below HBX.out) (HRG.out.below HBX.out) (by omega))
    clear h6 h7 c0 d0 x0 x1 x2 y0 y1 y2
    go_wp2_with fail
    refine CT.out.mono ?_
    rintro e w1 ⟨rfl,hb1⟩
    have HB1:=zH (HWX.out.trans (hb1.mono HWX.out.size))
    clear hb1 CT
    go_wp2_with fail
    exact ⟨⟨k + 1,by omega,by go_num,HB1⟩,by simp [intOf];omega⟩
  ·go_wp2_with fail
   go_ret
   exact ⟨rfl,HB0.out.trans (HB.out.mono HB0.out.size)⟩
theorem ZhV {pat prm need:Int} {S:List PSl} (h:Va pat prm need S = true):DlK 0 (Zco pat prm need S):=by
 unfold Va at h
 rw [Bool.and_eq_true] at h
 obtain ⟨h1,h2,h3,h4,h5,h6,h7,h8⟩:=of_decide_eq_true h.1
 have hv:∀ (l:List PSl) (n v:List BA),YL n v l = true -> ∀ p ∈ l,p.vs.length <= 50:=by
  intro l
  induction l with
  | nil=>intro _ _ _ p hp;cases hp
  | cons s l ih=>
   intro n v hg p hp
   rw [Yk,Bool.and_eq_true] at hg
   rcases List.mem_cons.1 hp with rfl | hp
   ·exact (Z6.1 hg.1).2.2.2.2.2.1
   ·cases hw:Xe v s.vs with
    | none=>rw [hw] at hg;cases hg.2
    | some u=>rw [hw] at hg;exact ih _ _ hg.2 p hp
 refine ⟨by simp [Zco],by simp [Zco];exact h2,hv S _ _ h.2,fun f hf=>?_,⟨h3,h4⟩,⟨h5,h6⟩,⟨h7,by show need <= 10000;omega⟩,⟨by show (0:Int) <= 0;omega,by show (0:Int) <= Qp;unfold Qp;omega⟩,⟨by show (0:Int) <= 0;omega,by show (0:Int) <= 0;omega⟩,⟨by show (0:Int) <= 0;omega,by show (0:Int) <= 0;omega⟩,fun _=>?_⟩
 ·obtain ⟨x,-,rfl⟩:=List.mem_map.1 hf
  simp
 ·have h0 : 0 < (Zco pat prm need S).F.length:=by simp [Zco];omega
  unfold YB
  refine List.findIdx_lt_length_of_exists ⟨(Zco pat prm need S).F[0],gM h0,?_⟩
  simp [Zco]
end Go.Proofs.YtcjicjfbippmnaaGreat
namespace Ear
open Go.Proofs.YtcjicjfbippmnaaGreat

theorem Zdf (D:PDl) (E:PEv):(ZE D E).2 = D ∨
  (∃ f s,(E.kind = 2 ∨ E.kind = 3) /\ D.F[YB D.F]? = some f /\ D.S[YB D.F]? = some s /\ Ze5 D f s E.q E.at_ = true /\ (ZE D E).2 = D.put (YB D.F) (if E.kind = 2 then { f with st:=3 } else noR f)) ∨
  (∃ f s f',E.kind = 4 /\ D.F[Uh D.S E.val]? = some f /\ D.S[Uh D.S E.val]? = some s /\ ZcS f s E.q E.val = some f' /\ (ZE D E).2 = D.put (Uh D.S E.val) f'):=by
 unfold ZE
 split
 ·rename_i hk
  split
  ·rename_i f s hf hs
   split
   ·rename_i ha;exact .inr (.inl ⟨f,s,hk,hf,hs,ha,rfl⟩)
   ·exact .inl rfl
  ·exact .inl rfl
 ·split
  ·rename_i hk
   split
   ·rename_i f s hf hs
    split
    ·rename_i f' hv;exact .inr (.inr ⟨f,s,f',hk,hf,hs,hv,rfl⟩)
    ·exact .inl rfl
   ·exact .inl rfl
  ·exact .inl rfl
theorem ZfS (D:PDl) (t:Int):(Zal D t).F = D.F /\ (Zal D t).S = D.S /\ (Zal D t).need = D.need:=by
 unfold Zal
 split <;> exact ⟨rfl,rfl,rfl⟩
theorem ZfT (D:PDl) (r:Bool):(J6 D r).F = D.F /\ (J6 D r).S = D.S /\ (J6 D r).need = D.need:=by
 unfold J6
 split
 ·exact ⟨rfl,rfl,rfl⟩
 ·split <;> exact ⟨rfl,rfl,rfl⟩
theorem Uu {D:PDl} {E:PEv} (h:(XW D E).1 = 0):D.stand = 0 /\ (XW D E).2.F = (ZE (Jn D E.at_) E).2.F /\ (XW D E).2.S = (ZE (Jn D E.at_) E).2.S /\ (XW D E).2.need = (ZE (Jn D E.at_) E).2.need:=by
 unfold XW at *
 split
 ·rename_i hb;rw [if_pos hb] at h;cases h
 ·rename_i hb
  rw [if_neg hb] at h
  split
  ·rename_i hs;rw [if_pos hs] at h;cases h
  ·rename_i hs
   obtain ⟨a1,a2,a3⟩:=ZfS (J6 (ZE (Jn D E.at_) E).2 (ZE (Jn D E.at_) E).1) E.at_
   obtain ⟨b1,b2,b3⟩:=ZfT (ZE (Jn D E.at_) E).2 (ZE (Jn D E.at_) E).1
   exact ⟨Classical.byContradiction hs,a1.trans b1,a2.trans b2,a3.trans b3⟩
theorem Zcs {D:PDl} {E:PEv} (h:(XW D E).1 ≠ 0):(XW D E).2 = D:=by
 unfold XW at *
 split
 ·rfl
 ·rename_i hb
  rw [if_neg hb] at h
  split
  ·rfl
  ·rename_i hs;rw [if_neg hs] at h;exact absurd rfl h
structure GrI (S:List PSl) (D:PDl):Prop where
 hS:D.S = S
 len:D.F.length = S.length
 ok:∀ (k:Nat) (f:PFl) (s:PSl),D.F[k]? = some f -> S[k]? = some s -> (f.st = 1 /\ f.val = ⟨#[]⟩) ∨ ((f.st = 2 ∨ f.st = 3) /\ f.val ∈ s.vs)
theorem GrI.put {S:List PSl} {D:PDl} (h:GrI S D) (j:Nat) (f:PFl) (hf:∀ s,S[j]? = some s -> (f.st = 1 /\ f.val = ⟨#[]⟩) ∨ ((f.st = 2 ∨ f.st = 3) /\ f.val ∈ s.vs)):GrI S (D.put j f):=
 ⟨h.hS,by show (D.F.set j f).length = _;rw [List.length_set];exact h.len,fun k x s hx hs=>by
  have hx':(D.F.set j f)[k]? = some x:=hx
  by_cases hj:j = k
  ·subst hj
   have hl:=(List.getElem?_eq_some_iff.1 hx').1
   rw [List.length_set] at hl
   rw [List.getElem?_set_self hl] at hx'
   injection hx' with hx'
   subst hx'
   exact hf s hs
  ·rw [List.getElem?_set_ne hj] at hx'
   exact h.ok k x s hx' hs⟩
theorem ZhG {S:List PSl} {x:BA} {s:PSl} (h:S[Uh S x]? = some s):x ∈ s.vs:=by
 obtain ⟨hl,e⟩:=List.getElem?_eq_some_iff.1 h
 have h9:decide (x ∈ S[Uh S x].vs) = true:=List.findIdx_getElem (w:=hl)
 rw [e] at h9
 exact of_decide_eq_true h9
theorem ZgG {f f':PFl} {s:PSl} {q:Rat} {x:BA} (h:ZcS f s q x = some f'):f'.val = x /\ (f'.st = 2 ∨ f'.st = 3) /\ (f'.st = 3 -> f.st = 3 /\ f.val = x ∨ f.st ≠ 3 /\ (0 <= XE (q + -s.su) ∨ f.st = 2 /\ f.val = x)) /\ (f.st = 3 -> f'.st = 3 -> f.val = x):=by
 unfold ZcS at h
 split at h
 ·cases h
 ·injection h with h
  subst h
  refine ⟨rfl,?_,?_,?_⟩
  ·simp only
   split
   ·exact .inr rfl
   ·split
    ·exact .inl rfl
    ·split
     ·exact .inr rfl
     ·exact .inl rfl
  ·simp only
   intro h3
   split at h3
   ·rename_i hc;exact .inl hc
   ·split at h3
    ·cases h3
    ·rename_i hn
     split at h3
     ·rename_i hc;exact .inr ⟨hn,hc⟩
     ·cases h3
  ·simp only
   intro a h3
   split at h3
   ·rename_i hc;exact hc.2
   ·exact absurd h3 (by decide)
theorem grd {S:List PSl} {D:PDl} {E:PEv} (h:GrI S D) (h0:(XW D E).1 = 0):GrI S (XW D E).2 /\
  ∀ (k:Nat) (x y:PFl) (s:PSl),D.F[k]? = some x -> (XW D E).2.F[k]? = some y -> S[k]? = some s ->
   (x.st = 3 -> y.st ≠ 1) /\ (x.st = 3 -> y.st = 3 -> x.val = y.val) /\
   (y.st = 3 -> x.st ≠ 3 -> (E.kind = 4 /\ E.val = y.val /\ 0 <= XE (E.q + -s.su)) ∨ (E.kind = 4 /\ E.val = y.val /\ x.st = 2 /\ x.val = y.val) ∨ (E.kind = 2 /\ D.stand = 0 /\ YB D.F = k /\ x.st = 2 /\ x.val = y.val /\ D.prompt + D.need <= E.at_)):=by
 obtain ⟨hst,hF,hS,-⟩:=Uu h0
 obtain ⟨c1,c2,-,-,c5,-,-,c8,-,-⟩:=UV D E.at_
 have hC:GrI S (Jn D E.at_):=⟨by rw [c1];exact h.hS,by rw [c2];exact h.len,fun k f s hf hs=>by rw [c2] at hf;exact h.ok k f s hf hs⟩
 have hI:GrI S (ZE (Jn D E.at_) E).2 -> GrI S (XW D E).2:=fun g=>⟨by rw [hS];exact g.hS,by rw [hF];exact g.len,fun k f s hf hs=>by rw [hF] at hf;exact g.ok k f s hf hs⟩
 rcases Zdf (Jn D E.at_) E with e | ⟨f,s0,hk,hf,hs0,ha,e⟩ | ⟨f,s0,f',hk,hf,hs0,hv,e⟩
 ·refine ⟨hI (by rw [e];exact hC),fun k x y s hx hy hs=>?_⟩
  rw [hF,e,c2,hx] at hy
  injection hy with hy
  subst hy
  exact ⟨fun a b=>by omega,fun _ _=>rfl,fun a b=>absurd a b⟩
 ·rw [c2] at hf
  rw [c2,c1,h.hS] at hs0
  unfold Ze5 at ha
  simp only [Bool.and_eq_true,decide_eq_true_eq] at ha
  rw [c8,c5] at ha
  obtain ⟨⟨a1,a2⟩,-⟩:=ha
  have hfv:f.val ∈ s0.vs:=by
   rcases h.ok _ f s0 hf hs0 with ⟨b,-⟩ | ⟨-,b⟩
   ·omega
   ·exact b
  refine ⟨hI ?_,fun k x y s hx hy hs=>?_⟩
  ·rw [e]
   refine hC.put _ _ fun s hs=>?_
   rw [c2,hs0] at hs
   injection hs with hs
   subst hs
   split
   ·exact .inr ⟨.inr rfl,hfv⟩
   ·exact .inl ⟨rfl,rfl⟩
  ·rw [hF,e] at hy
   have hy':((Jn D E.at_).F.set (YB (Jn D E.at_).F) (if E.kind = 2 then { f with st:=3 } else noR f))[k]? = some y:=hy
   rw [c2] at hy'
   by_cases hk2:YB D.F = k
   ·subst hk2
    rw [hf] at hx
    injection hx with hx
    subst hx
    rw [List.getElem?_set_self (List.getElem?_eq_some_iff.1 hf).1] at hy'
    injection hy' with hy'
    by_cases h2:E.kind = 2
    ·rw [if_pos h2] at hy'
     subst hy'
     exact ⟨fun b=>by omega,fun _ _=>rfl,fun _ _=>.inr (.inr ⟨h2,hst,rfl,a1,rfl,a2⟩)⟩
    ·rw [if_neg h2] at hy'
     subst hy'
     exact ⟨fun b=>by omega,fun b=>by omega,fun b=>by cases b⟩
   ·rw [List.getElem?_set_ne hk2,hx] at hy'
    injection hy' with hy'
    subst hy'
    exact ⟨fun a b=>by omega,fun _ _=>rfl,fun a b=>absurd a b⟩
 ·rw [c1,h.hS] at hs0
  rw [c1,c2,h.hS] at hf
  obtain ⟨v1,v2,v3,v4⟩:=ZgG hv
  refine ⟨hI ?_,fun k x y s hx hy hs=>?_⟩
  ·rw [e]
   refine hC.put _ _ fun s hs=>?_
   rw [c1,h.hS,hs0] at hs
   injection hs with hs
   subst hs
   exact .inr ⟨v2,by rw [v1];exact ZhG hs0⟩
  ·rw [hF,e] at hy
   have hy':((Jn D E.at_).F.set (Uh (Jn D E.at_).S E.val) f')[k]? = some y:=hy
   rw [c1,c2,h.hS] at hy'
   by_cases hk2:Uh S E.val = k
   ·subst hk2
    rw [hf] at hx
    injection hx with hx
    subst hx
    rw [hs0] at hs
    injection hs with hs
    subst hs
    rw [List.getElem?_set_self (List.getElem?_eq_some_iff.1 hf).1] at hy'
    injection hy' with hy'
    subst hy'
    refine ⟨fun _=>by omega,fun a b=>by rw [v1];exact v4 a b,fun b c=>?_⟩
    rcases v3 b with ⟨d,-⟩ | ⟨-,d | d⟩
    ·exact absurd d c
    ·exact .inl ⟨hk,v1.symm,d⟩
    ·exact .inr (.inl ⟨hk,v1.symm,d.1,by rw [v1];exact d.2⟩)
   ·rw [List.getElem?_set_ne hk2,hx] at hy'
    injection hy' with hy'
    subst hy'
    exact ⟨fun a b=>by omega,fun _ _=>rfl,fun a b=>absurd a b⟩
theorem GrI.new (pat prm need:Int) (S:List PSl):GrI S (Zco pat prm need S):=
 ⟨rfl,by simp [Zco],fun k f s hf _=>by
  simp only [Zco,List.getElem?_map] at hf
  cases e:S[k]? with
  | none=>rw [e] at hf;cases hf
  | some x=>rw [e] at hf;injection hf with hf;subst hf;exact .inl ⟨rfl,rfl⟩⟩
end Ear
