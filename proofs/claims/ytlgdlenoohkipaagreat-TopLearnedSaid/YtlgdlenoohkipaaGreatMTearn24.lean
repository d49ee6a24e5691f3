/- TopLearned -/
import Derived.Test.YtlgdlenoohkipaaGreatMTearn23
set_option maxRecDepth 100000
set_option maxHeartbeats 32000000
namespace Go.Proofs.YtlgdlenoohkipaaGreat
open Go.RowKit Ear

theorem ZcZ (o:Nat) (s:List Int) (hs:s.length <= 500):Ul (XV o s (s.length + 1)) = 0:=by
 unfold Ul;have h1:=Vr o s (s.length + 1);rw [if_neg (by omega),if_neg];rintro ⟨p,hp,h⟩;have:=VS o s _ p hp;omega
def ZP (n:Int) (L:List Gm):List Gm:=L.map fun g=>(g.1,g.2 * n)
theorem ZbR (n:Int) (L:List Gm):(ZP n L).length = L.length:=by simp [ZP]
theorem Y8 (a b:Int) (A:Option Addr) (n c:Nat) (W:World):(Instr.field 27 (.agg #[.int .i64 a,.int .i64 b,.slice A n c]) 0).run Tryz.prog W = .ok (.int .i64 a) W:=by kernel_rfl
theorem Y7 (a b:Int) (A:Option Addr) (n c:Nat) (W:World):(Instr.field 27 (.agg #[.int .i64 a,.int .i64 b,.slice A n c]) 1).run Tryz.prog W = .ok (.int .i64 b) W:=by kernel_rfl
theorem Zf5 {o:Nat} {v n:Int} {s:List Int} {L1:List Gm} (hz:Xv o v = true) (ha:XI 1 v s = true) (hs:s.length <= 500) (hn : 1 <= n /\ n <= 1000)
  (hp:(Je L1).Perm ((XV o s (s.length + 1)).map fun p=>(gmW o p.1,p.2))) (hsrt:L1.Pairwise (fun x y=>¬ J8 y.1.2.2 x.1.2.2 < 0)):Xz o v (Je (ZP n L1)) = 0:=by
 have hzz:=Jx.1 hz;have hf:=Ze (o:=o) (by omega) (by omega) ha (s.length + 1) nR;have e1:Je (ZP n L1) = (Je L1).map fun g=>(g.1,g.2 * n):=by simp [Je,ZP,List.map_map,Function.comp_def]
 have hb:=VS o s (s.length + 1);have hl:=Vr o s (s.length + 1);refine ZgZ (m:=(XV o s (s.length + 1)).map fun p=>(p.1,p.2 * n)) hz ?_ ?_ (by simp;omega) ?_ ?_ ?_
 ·intro p hp;obtain ⟨q,hq,rfl⟩:=List.mem_map.1 hp;obtain ⟨h1,h2⟩:=hf q hq;refine ⟨?_,h2⟩;have:=Int.mul_le_mul h1 hn.1 (by omega) (by omega);show 1 <= q.2 * n;omega
 ·rw [List.map_map];exact VR o s _
 ·intro p hp;obtain ⟨q,hq,rfl⟩:=List.mem_map.1 hp;have h1:=hb q hq;have h2:q.2 * n <= 501 * 1000:=Int.mul_le_mul (by omega) hn.2 (by omega) (by omega);show q.2 * n <= _;omega
 ·rw [e1];have h1:=hp.map (fun g:List Int × Int=>(g.1,g.2 * n));have e2:((XV o s (s.length + 1)).map fun p=>(gmW o p.1,p.2)).map (fun g:List Int × Int=>(g.1,g.2 * n)) = ((XV o s (s.length + 1)).map fun p=>(p.1,p.2 * n)).map fun p=>(gmW o p.1,p.2):=by
   rw [List.map_map,List.map_map];rfl
  rwa [e2] at h1
 ·unfold Je ZP;rw [List.map_map,List.pairwise_map];exact hsrt
theorem UG {w:World} {base n c k:Nat} {A:Option Addr} {M:List Gm} {X:Gm} (h:w.ownsRow base 93 2 (.slice A n c) n (J6 M)) (hk:M[k]? = some X) :
  ∃ g,A = some ⟨g,0,none⟩ /\ base <= g /\ g < w.heap.size /\ w.cell? ⟨g,k * 2 + 1,none⟩ = some (.int .i64 X.2) /\ w.frozen? ⟨g,k * 2 + 1,none⟩ = false:=by
 obtain ⟨hl,hx⟩:=List.getElem?_eq_some_iff.1 hk;have hn:n = M.length:=by have:=h.1;rw [Jp] at this;omega
 obtain ⟨g,cap,hv,hg,hlt⟩:=h.form (by omega);injection hv with e1 _ e3
 subst e1 e3;refine ⟨g,rfl,hg,hlt,?_,h.frozenAt _⟩;rw [h.cellAt (k * 2 + 1) (by omega),<- hx];exact (Vj M hl).2
theorem Zbe (O R:List Gm) (X:Gm) (m:Int):(J6 (O ++ X :: R)).set (O.length * 2 + 1) (Value.int .i64 m) = J6 (O ++ (X.1,m) :: R):=by
 have e:O.length * 2 = (J6 O).length:=(Jp O).symm;have e2:∀ Z:Gm,J6 (O ++ Z :: R) = J6 O ++ (Value.slice Z.1.1 Z.1.2.2.length Z.1.2.1 :: Value.int .i64 Z.2 :: J6 R):=fun Z=>by simp [J6]
 rw [e2,e2,e,List.set_append_right _ _ (by omega)];simp
theorem Zdh:(Tryz.prog.info? 27).map (fun i=>(i.zero,i.size,i.bytes)) = some (some (.agg #[.int .i64 0,.int .i64 0,.slice none 0 0]),3,40):=by kernel_rfl
def ColT (u:World) (base o:Nat) (m:List (K4 × Int)) (A:Option Addr) (c:Nat) (L:List Gm):Prop:=
 GLo u base A c L /\ (Je L).Perm (m.map fun p=>(gmW o p.1,p.2)) /\ L.Pairwise (fun x y=>¬ J8 y.1.2.2 x.1.2.2 < 0)
def TSc (u u':World):Prop:=u.heap.size <= u'.heap.size /\ ∃ (k:Nat) (cs:Array Value),(∃ x0 x1 x2,u.heap[k]? = some (.cells #[x0,x1,x2] 27 (0,0))) /\ u'.heap[k]? = some (.cells cs 27 (0,0)) /\ cs.size = 3 /\ ∀ b,b ≠ k -> u'.heap[b]? = u.heap[b]?
theorem ColT.below {u u':World} {base o:Nat} {m:List (K4 × Int)} {A:Option Addr} {c:Nat} {L:List Gm} (h:ColT u base o m A c L) (hb:RowKit.Below u.heap.size u u'):ColT u' base o m A c L:=⟨h.1.below hb,h.2⟩
theorem ColT.ts {u u':World} {base o:Nat} {m:List (K4 × Int)} {A:Option Addr} {c:Nat} {L:List Gm} (h:ColT u base o m A c L) (ht:TSc u u'):ColT u' base o m A c L:=by
 obtain ⟨hs,k,cs,⟨x0,x1,x2,h1⟩,_,_,h2⟩:=ht;refine ⟨h.1.block hs fun b hb=>h2 b ?_,h.2⟩;rcases hb with hb | hb
 ·exact hb.ne ⟨_,_,h1⟩ (by decide)
 ·exact hb.1.ne ⟨_,_,h1⟩ (by decide)
def ColX (r:Int) (u:World) (base o:Nat) (m:List (K4 × Int)) (A:Option Addr) (c:Nat) (L:List Gm):Prop:=if r = 0 then ColT u base o m A c L else A = none /\ c = 0 /\ L = []
theorem ColX.below {r:Int} {u u':World} {base o:Nat} {m:List (K4 × Int)} {A:Option Addr} {c:Nat} {L:List Gm} (h:ColX r u base o m A c L) (hb:RowKit.Below u.heap.size u u'):ColX r u' base o m A c L:=by
 unfold ColX at *
 split at h
 ·rename_i h0;rw [if_pos h0];exact h.below hb
 ·rename_i h0;rw [if_neg h0];exact h
theorem ColX.ts {r:Int} {u u':World} {base o:Nat} {m:List (K4 × Int)} {A:Option Addr} {c:Nat} {L:List Gm} (h:ColX r u base o m A c L) (hb:TSc u u'):ColX r u' base o m A c L:=by
 unfold ColX at *
 split at h
 ·rename_i h0;rw [if_pos h0];exact h.ts hb
 ·rename_i h0;rw [if_neg h0];exact h
def CoG (r:Int) (oo vv:Int) (p base o:Nat) (m:List (K4 × Int)) (a1 a2:Value):Nat -> Value -> World -> Prop
 | 0,x,_=>x = .pointer (some ⟨p,0,none⟩)
 | 1,x,_=>x = a1
 | 2,x,_=>x = a2
 | 3,x,u=>∃ A c L,x = .tuple #[.agg #[.int .i64 oo,.int .i64 vv,.slice A (L:List Gm).length c],.int .i64 r] /\ ColX r u base o m A c L
 | 4,x,u=>∃ A c L,x = .tuple #[.agg #[.int .i64 oo,.int .i64 vv,.slice A (L:List Gm).length c],.int .i64 r] /\ ColX r u base o m A c L
 | 5,x,u=>∃ A c L,x = .agg #[.int .i64 oo,.int .i64 vv,.slice A (L:List Gm).length c] /\ ColX r u base o m A c L
 | 6,x,_=>x = .int .i64 r
 | 7,x,u=>∃ k x0 x1 x2,x = .pointer (some ⟨k,0,none⟩) /\ base <= k /\ u.heap[k]? = some (.cells #[x0,x1,x2] 27 (0,0))
 | 9,x,_=>x = .int .i64 r
 | _,_,_=>True
theorem CoG.keeps {r oo vv:Int} {p base o:Nat} {m:List (K4 × Int)} {a1 a2:Value} (j:Nat) (x:Value) (u u':World) (h:CoG r oo vv p base o m a1 a2 j x u) (ht:RowKit.Below u.heap.size u u'):CoG r oo vv p base o m a1 a2 j x u':=by
 unfold CoG at h ⊢;split <;> first
  | exact h
  | exact trivial
  | (obtain ⟨A,c,L,e,h⟩:=h;exact ⟨A,c,L,e,h.below ht⟩)
  | (obtain ⟨k,x0,x1,x2,e,h1,h2⟩:=h;exact ⟨k,x0,x1,x2,e,h1,(ht.block k (aE h2).1).trans h2⟩)
theorem CoG.ts {r oo vv:Int} {p base o:Nat} {m:List (K4 × Int)} {a1 a2:Value} (j:Nat) (x:Value) (u u':World) (h:CoG r oo vv p base o m a1 a2 j x u) (ht:TSc u u'):CoG r oo vv p base o m a1 a2 j x u':=by
 have ht':=ht;obtain ⟨hs,kk,cs,⟨y0,y1,y2,h1⟩,h2,h3,h4⟩:=ht;unfold CoG at h ⊢;split <;> first
  | exact h
  | exact trivial
  | (obtain ⟨A,c,L,e,h⟩:=h;exact ⟨A,c,L,e,h.ts ht'⟩)
  | (
    obtain ⟨k,x0,x1,x2,e,q1,q2⟩:=h;by_cases hk:k = kk
    ·subst hk;refine ⟨k,cs[0],cs[1],cs[2],e,q1,h2.trans ?_⟩;congr 1;congr 1;apply Array.ext (by simp [h3]);intro i hi1 hi2;rcases (show i = 0 ∨ i = 1 ∨ i = 2 by omega) with rfl | rfl | rfl <;> rfl
    ·exact ⟨k,x0,x1,x2,e,q1,(h4 k hk).trans q2⟩)
def CoE (r oo vv:Int) (base o:Nat) (m:List (K4 × Int)) (t:Array Value) (u:World):Prop:=
 ∃ k A c L,t.getD 10 undef = .pointer (some ⟨k,0,none⟩) /\ base <= k /\ u.heap[k]? = some (.cells #[.int .i64 oo,.int .i64 vv,.slice A (L:List Gm).length c] 27 (0,0)) /\ ColX r u base o m A c L
def Zjv (base p o:Nat) (v:Int) (B:Option Addr) (_cap:Nat) (Ts:List TT) (t:TT) (s:List Int) (n:Int) (w:World) (e:Ending) (w':World):Prop:=
 ∃ T1:Tbl,T1.Perm ((XV o s (s.length + 1)).map fun q=>(gmW o q.1,q.2 * n)) /\ e = .returned (.int .i64 (Ul (mrg (mrg [] (Je t.L)) T1))) /\
  if Ul (mrg (mrg [] (Je t.L)) T1) = 0 then ∃ B' cap' t2,LrI w' base p B' cap' (Ts ++ [t] ++ [t2]) /\ t2.o = (o:Int) /\ t2.v = v /\ (Je t2.L).Perm ((mrg (mrg [] (Je t.L)) T1).map fun q=>(gmW o q.1,q.2)) /\ Two w w' p (blk B) /\ (∀ k,blk B' = some k -> blk B = some k ∨ w.heap.size <= k)
  else RowKit.Below w.heap.size w w'
theorem QO (base p cap o:Nat) (v:Int) (B:Option Addr) (Ts:List TT) (t:TT) (S:Option Addr) (sc:Nat) (s:List Int) (n:Int) (w:World) (h:LrI w base p B cap (Ts ++ [t])) (hb:base <= w.heap.size) (hbp:base <= p) (hto:t.o = o) (htv:t.v = v) (hI:InOk w (S,sc,s)) (hs:s.length <= 500) (ha:XI 1 v s = true) (hn : 1 <= n /\ n <= 1000) (hT:Ts.length < 200) :
  Calls Tryz.prog 10 #[.pointer (some ⟨p,0,none⟩),.slice S s.length sc,.int .i64 n] w (Zjv base p o v B cap Ts t s n w):=by
 obtain ⟨i0,hi0,hz0,hz1,hz2⟩:=info_parts Zdh;have TI:=zH hi0;have TZ0:=zH hz0;have TZ1:=zH hz1;have TZ2:=zH hz2;clear hi0 hz0 hz1 hz2;have H:=zH h;have hlen:(Ts ++ [t]).length = Ts.length + 1:=by simp
 have hat:=H.out.at_;rw [hlen] at hat;have HAT:=zH hat;have HT:=zH (H.out.tab t (by simp));have HI:=zH hI;have HZ:=zH (JK.1 HT.out.ok).2.1;obtain ⟨xo,xv,xA,xc,xL⟩:=t;simp only at hto htv;subst hto htv;clear h hat hI hlen;have hf0:=fun W=>Y8 o xv xA xL.length xc W;have hf1:=fun W=>Y7 o xv xA xL.length xc W;go_enter Tryz.func10,Tryz.ntmps10;go_wp2_with fail;refine (Yd p (Ts.length + 1) cap B w HAT.out (by omega)).mono ?_;rintro e w' ⟨rfl,rfl⟩;go_wp2_with fail;refine (Ys p cap B Ts _ w' HAT.out H.out.tts (by omega)).mono ?_;rintro e W1 ⟨rfl,hb1⟩;have HB1:=zH hb1;have H1:=zH (H.out.below hb1);have HAT1:=zH ((hb1.cell (p:=⟨p,0,none⟩) (JW HAT.out)).trans HAT.out);have hs1:w'.heap.size <= W1.heap.size:=hb1.size;clear hb1;unfold TT.val;go_wp2_with fail;refine (Ys p cap B Ts _ W1 HAT1.out H1.out.tts (by omega)).mono ?_;rintro e W2 ⟨rfl,hb2⟩;have HB2:=zH (HB1.out.trans (hb2.mono HB1.out.size));have H2:=zH (H1.out.below hb2);have HAT2:=zH ((hb2.cell (p:=⟨p,0,none⟩) (JW HAT1.out)).trans HAT1.out);have hs2:W1.heap.size <= W2.heap.size:=hb2.size;have HI2:=zH (HI.out.below HB2.out);clear hb2;unfold TT.val;go_wp2_with fail;obtain ⟨W3,hW3⟩:∃ W3:World,W3 = W2.alloc (.cells #[.slice S s.length sc] 35):=⟨_,rfl⟩;rw [<- hW3];have HB3:Hid (RowKit.Below W2.heap.size W2 W3):=zH (by rw [hW3];exact bR.alloc nR _);have hLL:LL W3 (some ⟨W2.heap.size,0,none⟩) [(S,sc,s)]:=by
  rw [hW3];refine ⟨Ve _ _ _,fun y hy=>?_⟩;simp at hy;subst hy;exact HI2.out.alloc _
 have HLL:=zH hLL;have hs3:W2.heap.size <= W3.heap.size:=HB3.out.size;have ho12:=Jx.1 HZ.out;clear hLL hW3;refine (Zbx o xv (some ⟨W2.heap.size,0,none⟩) 1 (S,sc,s) W3 HLL.out (by omega) (by omega) HZ.out hs ha).mono ?_;rintro e W4 ⟨hb4,hret⟩;rw [if_pos (ZcZ o s hs)] at hret;obtain ⟨A1,c1,L1,rfl,hL1,hp1,hsrt1⟩:=hret;have HB4:=zH (HB2.out.trans ((HB3.out.mono HB2.out.size).trans (hb4.mono (by omega))));have H4:=zH ((H2.out.below HB3.out).below hb4);have H3:=zH (H2.out.below HB3.out);have HB34:Hid (RowKit.Below W3.heap.size W3 W4):=zH hb4;have HL1:=zH hL1;have HP1:=zH hp1;have HS1:=zH hsrt1;have hs4:W3.heap.size <= W4.heap.size:=hb4.size;have HAT4:=zH ((hb4.cell (p:=⟨p,0,none⟩) (by have:=JW HAT2.out;show p < _;omega)).trans ((HB3.out.cell (p:=⟨p,0,none⟩) (JW HAT2.out)).trans HAT2.out));clear hL1 hp1 hsrt1 hb4 HLL HI2 H2 HAT2 H1 HAT1;have HC:Hid (∀ W:World,W.heap[p]? = W4.heap[p]? -> W.cell? ⟨p,0,none⟩ = some (.slice B (Ts.length + 1) cap)):=zH (fun W hW=>(World.cell?_of_block (a:=⟨p,0,none⟩) hW).trans HAT4.out);have hp4:p < W4.heap.size:=JW HAT4.out;obtain ⟨V,hV⟩:∃ V:World,V = W4.alloc (.cells #[.int .i64 o,.int .i64 xv,.slice A1 L1.length c1] 27):=⟨_,rfl⟩;have HBV:Hid (RowKit.Below W4.heap.size W4 V):=zH (by rw [hV];exact bR.alloc nR _);have HTV:Hid (V.heap[W4.heap.size]? = some (.cells #[.int .i64 o,.int .i64 xv,.slice A1 L1.length c1] 27 (0,0))):=zH (by rw [hV];exact heap_alloc_new W4 _);have hcV:V.cell? ⟨p,0,none⟩ = some (.slice B (Ts.length + 1) cap):=HC.out V (HBV.out.block _ hp4);have hcount:=zH (VD p (Ts.length + 1) cap B V hcV (by omega) (by omega));have v2:=(cR 2 HTV.out).trans rfl;go_wp2_with fail;rw [<- hV];clear hV;refine hcount.out.mono ?_;rintro e V' ⟨rfl,rfl⟩;have hCN:Hid (∀ g ∈ L1,0 <= g.2 /\ g.2 <= 501):=zH (fun g hg=>by
  have h1:=HP1.out.mem_iff.1 (List.mem_map_of_mem (f:=fun g:Gm=>(g.1.2.2,g.2)) hg);obtain ⟨q,hq,e⟩:=List.mem_map.1 h1;have:=VS o s _ q hq;injection e with _ e2
  rw [<- e2];omega)
 have hL1l:L1.length <= 501:=by
  have h1:=HP1.out.length_eq;have h2:=Vr o s (s.length + 1);simp at h1;omega
 have p1:IntKind.i64.wrap ((Ts.length:Int) + 1 - 1) = (Ts.length:Int):=by rw [IntWalk.i64_in _ (by omega)];omega
 have hnt:¬ (200:Int) <= (Ts.length:Int):=by omega
 have HRW:Hid (V'.ownsRow W3.heap.size 93 2 (.slice A1 L1.length c1) L1.length (J6 (ZP n (L1.take 0) ++ L1.drop 0))):=zH (by
  have:=(HL1.out.below HBV.out).row;simpa [ZP] using this)
 have HGR:Hid (V'.grownBy V' (Value.slice A1 L1.length c1).ownBlock):=zH ⟨rfl,rfl,rfl,Nat.le_refl _,fun _ _ _=>rfl⟩;clear hcount;go_wp2_with fail;go_loopw [44] (fun i wr=>∃ k:Nat,k <= L1.length /\ i = .int .i64 k /\ Hid (wr.ownsRow W3.heap.size 93 2 (.slice A1 L1.length c1) L1.length (J6 (ZP n (L1.take k) ++ L1.drop k))) /\ Hid (V'.grownBy wr (Value.slice A1 L1.length c1).ownBlock)) (fun i _=>L1.length - (intOf i).toNat)
 case atStart=>exact ⟨0,by omega,rfl,HRW,HGR⟩
 case round=>
  obtain ⟨k,hk,rfl,HR,HG⟩:=hrel;clear HRW HGR v2;obtain ⟨Wr,rfl⟩:∃ X,X = wr:=⟨_,rfl⟩;have hszr:=HG.out.size;have hown:∀ b,(Value.slice A1 L1.length c1).ownBlock = some b -> BT V' b 93:=fun b e=>BT.of_own (HL1.out.below HBV.out).row e;have HTr:Hid (Wr.heap[W4.heap.size]? = some (.cells #[.int .i64 o,.int .i64 xv,.slice A1 L1.length c1] 27 (0,0))):=zH ((HG.out.block _ (aE HTV.out).1 (fun e=>(hown _ e.symm).ne ⟨_,_,HTV.out⟩ (by decide) rfl)).trans HTV.out);have r2:=(cR 2 HTr.out).trans rfl;by_cases hlt:k < L1.length
  ·have hLk:L1[k]? = some L1[k]:=gE hlt;have hsl:(ZP n (L1.take k)).length = k:=(by simp [ZP];omega);have hMk:(ZP n (L1.take k) ++ L1.drop k)[k]? = some L1[k]:=by
    rw [List.getElem?_append_right (by omega),hsl,List.getElem?_drop,Nat.sub_self,Nat.add_zero];exact hLk
   have HDR:=zH (List.drop_eq_getElem_cons hlt);have HTK:Hid (ZP n (L1.take (k + 1)) = ZP n (L1.take k) ++ [(L1[k].1,L1[k].2 * n)]):=zH (by unfold ZP;rw [List.take_succ_eq_append_getElem hlt,List.map_append];rfl);obtain ⟨g,eG,hg1,hg2,hcell,hfz⟩:=UG HR.out hMk;have hcn:=hCN.out _ (yM hlt);subst eG;have HSL:=zH hsl;clear hLk hsl hMk;generalize L1[k] = X at *
   obtain ⟨⟨XA,Xc,xl⟩,xn⟩:=X;simp only at *
   have h0 : 0 <= xn * n:=Int.mul_nonneg (by omega) (by omega);have h1:xn * n <= 501 * 1000:=Int.mul_le_mul (by omega) (by omega) (by omega) (by omega);have p2:IntKind.i64.wrap (xn * n) = xn * n:=IntWalk.i64_in _ (by omega);go_wp2_with fail;have hst:=(HR.out.stored (k * 2 + 1) (.int .i64 (xn * n))).1;have hset:=Zbe (ZP n (L1.take k)) (L1.drop (k + 1)) ((XA,Xc,xl),xn) (xn * n);rw [HSL.out] at hset;rw [HDR.out,hset] at hst;refine ⟨⟨k + 1,by omega,by go_num,zH ?_,zH ?_⟩,by simp [intOf];omega⟩
   ·rw [HTK.out,List.append_assoc];exact hst
   ·exact XK (g:=g) (p:=⟨g,k * 2 + 1,none⟩) HG.out (.inl rfl) _
  ·obtain rfl:k = L1.length:=by omega
   have HBW3:Hid (RowKit.Below W3.heap.size W3 Wr):=zH ((HB34.out.trans (HBV.out.mono (by omega))).grown HG.out (by have:=HBV.out.size;omega) (fun b e=>(HR.out.lt b e).1));have HLR:=zH (H3.out.below HBW3.out);have HTT:Hid (TOk Wr ⟨o,xv,xA,xc,xL⟩):=zH (HLR.out.tab _ (by simp));have hatr:=HLR.out.at_;rw [show (Ts ++ [(⟨o,xv,xA,xc,xL⟩:TT)]).length = Ts.length + 1 by simp] at hatr;have HATR:=zH hatr;have hrw:=HR.out;rw [List.take_length,List.drop_length,List.append_nil] at hrw;have HTN:Hid (Tb Wr A1 (ZP n L1)):=zH ⟨Lies.of_own hrw,fun g hg=>by
    obtain ⟨z,hz,rfl⟩:=List.mem_map.1 hg;exact (((HL1.out.below HBV.out).inn z hz).grown HG.out (fun b e _=>hown b e) (by decide)).1,fun g hg=>by
    obtain ⟨z,hz,rfl⟩:=List.mem_map.1 hg;have:=hCN.out z hz;have h0 : 0 <= z.2 * n:=Int.mul_nonneg (by omega) (by omega);have h1:z.2 * n <= 501 * 1000:=Int.mul_le_mul (by omega) (by omega) (by omega) (by omega);show _ <= z.2 * n /\ z.2 * n <= _;omega⟩
   have HVN:=zH (Zf5 HZ.out ha hs hn HP1.out (HS1.out.imp (fun h=>by omega)));have hpc:(Je (ZP n L1)).Perm ((XV o s (s.length + 1)).map fun q=>(gmW o q.1,q.2 * n)):=by
    have h1:=HP1.out.map (fun g:List Int × Int=>(g.1,g.2 * n));have e1:Je (ZP n L1) = (Je L1).map fun g=>(g.1,g.2 * n):=(by simp [Je,ZP,List.map_map,Function.comp_def]);rw [e1];refine h1.trans ?_;rw [List.map_map];exact List.Perm.refl _
   have HPC:=zH hpc;have HMG:Hid (∀ u,RowKit.Below Wr.heap.size Wr u -> Calls Tryz.prog 40 #[.agg #[.int .i64 o,.int .i64 xv,.slice xA xL.length xc],.agg #[.int .i64 o,.int .i64 xv,.slice A1 L1.length c1]] u (RetCol o xv (mrg (mrg [] (Je xL)) (Je (ZP n L1))) u)):=zH (fun u hu=>by
    have:=ZgU o xv xA A1 xc c1 xL (ZP n L1) u (HTT.out.tab.below hu) (HTN.out.below hu) (zH HTT.out.ok) HVN
    rwa [ZbR] at this)
   clear hatr hrw hpc;obtain ⟨m,hmm⟩:∃ m,m = mrg (mrg [] (Je xL)) (Je (ZP n L1)):=⟨_,rfl⟩;have HMM:=zH hmm;rw [<- hmm] at HMG;clear hmm;obtain ⟨r,hr⟩:∃ r,r = Ul m:=⟨_,rfl⟩;obtain ⟨oo,hoo⟩:∃ oo:Int,oo = if r = 0 then (o:Int) else 0:=⟨_,rfl⟩;obtain ⟨vv,hvv⟩:∃ vv:Int,vv = if r = 0 then xv else 0:=⟨_,rfl⟩;have HRR:=zH hr;have HOO:=zH hoo;have HVV:=zH hvv;clear hr hoo hvv;go_upto_region 15 with fail;refine Un 78 8 [10] rfl (by kernel_rfl) (by kernel_rfl) (by kernel_rfl) (by kernel_rfl) (by kernel_rfl) (fun u=>RowKit.Below Wr.heap.size Wr u) (fun u u'=>RowKit.Below u.heap.size u u') TSc (CoG r oo vv p Wr.heap.size o m (.agg #[.int .i64 o,.int .i64 xv,.slice xA xL.length xc]) (.agg #[.int .i64 o,.int .i64 xv,.slice A1 L1.length c1])) (CoE r oo vv Wr.heap.size o m) CoG.keeps (fun j v w w' _=>CoG.ts j v w w') ?_ bR.drew ?_ (fun _ _=>trivial) ?_
   ·rintro t t' u u' hk hb ⟨k,A,c,L,e,h1,h2,h3⟩;exact ⟨k,A,c,L,(hk 10 (by simp)).trans e,h1,(hb.block k (aE h2).1).trans h2,h3.below hb⟩
   ·refine ⟨?_,?_,?_,?_,?_,?_,?_,?_,?_,?_,trivial⟩
    ·intro b u su dp kp K hK;have e0:gT b 0 = .pointer (some ⟨p,0,none⟩):=kp 0 (by kernel_rfl);go_simp;exact hK _ _ su bR rfl
    ·intro b u su dp kp K hK;have e59:gT b 59 = .pointer (some ⟨p,0,none⟩):=dp 0 _ rfl (by kernel_rfl);go_simp;refine (Ys p cap B Ts ⟨o,xv,xA,xc,xL⟩ u ((su.cell (p:=⟨p,0,none⟩) (JW HATR.out)).trans HATR.out) (HLR.out.below su).tts (by omega)).mono ?_;rintro e u' ⟨rfl,hb'⟩;go_simp;exact hK _ _ (su.trans (hb'.mono su.size)) hb' rfl
    ·intro b u su dp kp K hK;have e7:gT b 7 = .pointer (some ⟨W4.heap.size,0,none⟩):=kp 7 (by kernel_rfl);have hr:=(su.block _ (aE HTr.out).1).trans HTr.out;have c0:=(cR 0 hr).trans rfl;have c1:=(cR 1 hr).trans rfl;have c2:=(cR 2 hr).trans rfl;clear hr;go_simp;exact hK _ _ su bR rfl
    ·intro b u su dp kp K hK;have e60:gT b 60 = .agg #[.int .i64 o,.int .i64 xv,.slice xA xL.length xc]:=dp 1 _ rfl (by kernel_rfl);have e61:gT b 61 = .agg #[.int .i64 o,.int .i64 xv,.slice A1 L1.length c1]:=dp 2 _ rfl (by kernel_rfl);go_simp;refine (HMG.out u su).mono ?_;rintro e u' ⟨hb',hr⟩;obtain ⟨A,c,Lm,rfl,hx⟩:∃ A c L,e = .returned (.tuple #[.agg #[.int .i64 oo,.int .i64 vv,.slice A (L:List Gm).length c],.int .i64 r]) /\ ColX r u' Wr.heap.size o m A c L:=by
      rw [<- HRR.out] at hr;by_cases h0:r = 0
      ·rw [if_pos h0] at hr;obtain ⟨A,c,Lm,rfl,h1,h2,h3⟩:=hr;exact ⟨A,c,Lm,by rw [HOO.out,HVV.out,if_pos h0,if_pos h0,h0],by unfold ColX;rw [if_pos h0];exact ⟨h1.le su.size,h2,h3⟩⟩
      ·rw [if_neg h0] at hr;exact ⟨none,0,[],by rw [HOO.out,HVV.out,if_neg h0,if_neg h0,hr];rfl,by unfold ColX;rw [if_neg h0];exact ⟨rfl,rfl,rfl⟩⟩
     go_simp;exact hK _ _ (su.trans (hb'.mono su.size)) hb' ⟨A,c,Lm,rfl,hx⟩
    ·intro b u su dp kp K hK;obtain ⟨A,c,Lm,e62,h⟩:∃ A c L,gT b 62 = .tuple #[.agg #[.int .i64 oo,.int .i64 vv,.slice A (L:List Gm).length c],.int .i64 r] /\ ColX r u Wr.heap.size o m A c L:=dp 3 _ rfl (by kernel_rfl);go_simp;exact hK _ _ su bR ⟨A,c,Lm,rfl,h⟩
    ·intro b u su dp kp K hK;obtain ⟨A,c,Lm,e58,h⟩:∃ A c L,gT b 58 = .tuple #[.agg #[.int .i64 oo,.int .i64 vv,.slice A (L:List Gm).length c],.int .i64 r] /\ ColX r u Wr.heap.size o m A c L:=dp 4 _ rfl (by kernel_rfl);go_simp;exact hK _ _ su bR ⟨A,c,Lm,rfl,h⟩
    ·intro b u su dp kp K hK;obtain ⟨A,c,Lm,e58,h⟩:∃ A c L,gT b 58 = .tuple #[.agg #[.int .i64 oo,.int .i64 vv,.slice A (L:List Gm).length c],.int .i64 r] /\ ColX r u Wr.heap.size o m A c L:=dp 4 _ rfl (by kernel_rfl);go_simp;exact hK _ _ su bR rfl
    ·intro b u su dp kp K hK;go_simp;exact hK _ _ (su.alloc su.size _) (bR.alloc nR _) ⟨u.heap.size,_,_,_,rfl,su.size,heap_alloc_new u _⟩
    ·intro b u su dp kp K hK;obtain ⟨k,x0,x1,x2,e10,hk1,hk2⟩:∃ k x0 x1 x2,gT b 10 = .pointer (some ⟨k,0,none⟩) /\ Wr.heap.size <= k /\ u.heap[k]? = some (.cells #[x0,x1,x2] 27 (0,0)):=dp 7 _ rfl (by kernel_rfl);obtain ⟨A,c,Lm,e63,h⟩:∃ A c L,gT b 63 = .agg #[.int .i64 oo,.int .i64 vv,.slice A (L:List Gm).length c] /\ ColX r u Wr.heap.size o m A c L:=dp 5 _ rfl (by kernel_rfl);have d0:=(cR 0 hk2).trans rfl;have d1:=(cR 1 hk2).trans rfl;have d2:=(cR 2 hk2).trans rfl;have f0:=Jl hk2 0;have f1:=Jl hk2 1;have f2:=Jl hk2 2;have hr:=ZaV hk2 (.int .i64 oo) (.int .i64 vv) (.slice A Lm.length c);have hts:TSc u (((u.setCell ⟨k,0,none⟩ (.int .i64 oo)).setCell ⟨k,1,none⟩ (.int .i64 vv)).setCell ⟨k,2,none⟩ (.slice A Lm.length c)):=⟨by simp [World.setCell],k,_,⟨x0,x1,x2,hk2⟩,hr,rfl,fun b hb=>JR hb _ _ _⟩;go_simp;exact hK undef _ (((su.setCell hk1 _).setCell hk1 _).setCell hk1 _) hts ⟨k,A,c,Lm,e10,hk1,hr,h.ts hts⟩
    ·intro b u su dp kp K hK;have e64:gT b 64 = .int .i64 r:=dp 6 _ rfl (by kernel_rfl);go_simp;exact hK _ _ su bR rfl
   ·intro b u hN hdf su hG hE sm;obtain ⟨k,A,c,Lm,e10,hk1,hk2,hcol2⟩:=hE;have e8:gT b 8 = .int .i64 r:=hG 9 _ rfl;have HSU:=zH su;have HK2:=zH hk2;have HC2:=zH hcol2;rw [Ju b _ [false,false,false,false,false,false,false,false,true,false,true,false,false,false,false,false,false,false,false,false,false,false,false,false,false,false,false,false,false,false,false,false,false,false,false,false,false,false,false,false,false,false,false,false,false,false,false,false,false,false,false,false,false,false,false,false,false,false,true,true,true,true,true,true,true,false,false,false,false,false,false,false,false,false,false,false,false,false] _ rfl hN rfl (by kernel_rfl) hdf sm];simp only [Y2,Nat.reduceAdd,e8,e10];clear e8 e10 hG sm hN hdf su hk2 hcol2;generalize b.tmps.getD 58 undef = z58,b.tmps.getD 59 undef = z59,b.tmps.getD 60 undef = z60,b.tmps.getD 61 undef = z61,b.tmps.getD 62 undef = z62,b.tmps.getD 63 undef = z63,b.tmps.getD 64 undef = z64;have HLU:=zH (HLR.out.below HSU.out);have hpl:=HLU.out.cell;rw [show (Ts ++ [(⟨o,xv,xA,xc,xL⟩:TT)]).length = Ts.length + 1 by simp] at hpl;have hrowU:=HLU.out.row;rw [show (Ts ++ [(⟨o,xv,xA,xc,xL⟩:TT)]).length = Ts.length + 1 by simp] at hrowU;have HPL:=zH hpl;have HROW:=zH hrowU;clear hpl hrowU;have HWU:Hid (RowKit.Below w'.heap.size w' u):=zH (HB2.out.trans ((HB3.out.mono HB2.out.size).trans ((HBW3.out.mono (by omega)).trans (HSU.out.mono (by have:=HBW3.out.size;omega)))));by_cases h0:r = 0;rotate_left
    ·go_wp2_with fail;go_ret;refine ⟨Je (ZP n L1),HPC.out,?_,?_⟩
     ·show _ = Ending.returned (.int .i64 (Ul (mrg (mrg [] (Je xL)) (Je (ZP n L1)))));rw [<- HMM.out,<- HRR.out];rfl
     ·show if Ul (mrg (mrg [] (Je xL)) (Je (ZP n L1))) = 0 then _ else _;rw [<- HMM.out,<- HRR.out,if_neg h0];exact HWU.out
    subst h0;have hcol3:ColT u Wr.heap.size o m A c Lm:=(by have:=HC2.out;unfold ColX at this;rwa [if_pos rfl] at this);have eo:=HOO.out;have ev:=HVV.out;rw [if_pos rfl] at eo ev;have eo':=eo.symm;have ev':=ev.symm;clear eo ev;subst eo' ev';have HC3:=zH hcol3;clear hcol3;go_upto_region 18 with fail;refine Xg (S:=fun w'=>w'.cell? ⟨p,0,none⟩ = some (.slice B (Ts.length + 1) cap) /\ w'.cell? ⟨k,0,none⟩ = some (.int .i64 o) /\ w'.cell? ⟨k,1,none⟩ = some (.int .i64 xv) /\ w'.cell? ⟨k,2,none⟩ = some (.slice A Lm.length c)) 10 (by kernel_rfl) (by kernel_rfl) ⟨(cell_of_row u.drew _ 0 _ _ _ HPL.out).trans rfl,(cell_of_row u.drew _ 0 _ _ _ HK2.out).trans rfl,(cell_of_row u.drew _ 1 _ _ _ HK2.out).trans rfl,(cell_of_row u.drew _ 2 _ _ _ HK2.out).trans rfl⟩ (fun hd=>?_);simp only [List.pop_toArray,List.dropLast_cons_cons,List.dropLast_singleton];iterate 6 (((refine Jd (v:=?_) rfl (by kernel_rfl) (fun _ _ _ h=>h) ⟨by rfl,?_⟩ hd ?_;rotate_left;· intro w' sw;obtain ⟨hS1,hS2,hS3,hS4⟩:=sw;go_simp;try with_reducible rfl);simp only [zA,zB,zC]))
    refine Jh 6 rfl (by kernel_rfl) rfl (fun K hK=>?_);go_simp;have hpu:p < u.heap.size:=JW HLU.out.at_;have hku:k < u.heap.size:=(aE HK2.out).1;refine hK.out _ _ ⟨(World.cell?_of_block (a:=⟨p,0,none⟩) (w:=u) (RowKit.Below.heap_alloc u _ p hpu)).trans hd.1,(World.cell?_of_block (a:=⟨k,0,none⟩) (w:=u) (RowKit.Below.heap_alloc u _ k hku)).trans hd.2.1,(World.cell?_of_block (a:=⟨k,1,none⟩) (w:=u) (RowKit.Below.heap_alloc u _ k hku)).trans hd.2.2.1,(World.cell?_of_block (a:=⟨k,2,none⟩) (w:=u) (RowKit.Below.heap_alloc u _ k hku)).trans hd.2.2.2⟩ (fun hd=>?_);clear hK K;refine Jh 7 rfl (by kernel_rfl) rfl (fun K hK=>?_);refine Uo _ 75 rfl (.tmp 72) (.tmp 74) 104 rfl base 27 i0 _ 3 40 Tryz.underlying104 TI.out TZ0.out TZ1.out TZ2.out rfl (by omega) (.slice B (Ts.length + 1) cap) (Ts.length + 1) (ZaA (Ts ++ [(⟨o,xv,xA,xc,xL⟩:TT)])) rfl ((HROW.out.drew).alloc _)
     ⟨u.heap.size,0,none⟩ 1 1 [.int .i64 o,.int .i64 xv,.slice A Lm.length c] rfl rfl (World.news_of_block (cs:=#[.int .i64 o,.int .i64 xv,.slice A Lm.length c]) (t:=27) (fr:=(0,0)) (heap_alloc_new u _)) (by simp [Value.oneCell']) (by omega) (by unfold maxLen;omega) (by omega) (by simp;have:=HWU.out.size;omega) (u.heap.size + 1) (by simp) ?_
    intro gg cap' w1 hown1 hgrow1 hat1 hlt1;have hU:(u.alloc (.cells #[.int .i64 o,.int .i64 xv,.slice A Lm.length c] 27)).heap.size = u.heap.size + 1:=(by simp);have hnp:some p ≠ (Value.slice B (Ts.length + 1) cap).ownBlock:=fun e=>(BT.of_own HROW.out e.symm).ne ⟨_,_,HPL.out⟩ (by decide) rfl;have hnk:some k ≠ (Value.slice B (Ts.length + 1) cap).ownBlock:=fun e=>by
     have:=(HLR.out.row.lt k (by rw [UW];rw [UW] at e;exact e.symm)).2;omega
    have hbp1:w1.heap[p]? = (u.alloc (.cells #[.int .i64 o,.int .i64 xv,.slice A Lm.length c] 27)).heap[p]?:=hgrow1.block p (by show p < (u.alloc _).heap.size;rw [hU];omega) hnp;have hbk1:w1.heap[k]? = (u.alloc (.cells #[.int .i64 o,.int .i64 xv,.slice A Lm.length c] 27)).heap[k]?:=hgrow1.block k (by show k < (u.alloc _).heap.size;rw [hU];omega) hnk;have hc0:w1.cell? ⟨p,0,none⟩ = some (.slice B (Ts.length + 1) cap):=(World.cell?_of_block (a:=⟨p,0,none⟩) hbp1).trans hd.1;have hp1:w1.heap[p]? = some (.cells #[.slice B (Ts.length + 1) cap] 106 (0,0)):=hbp1.trans ((RowKit.Below.heap_alloc u _ p hpu).trans HPL.out);have hf0:w1.frozen? ⟨p,0,none⟩ = false:=Jl hp1 0;refine hK.out _ _ ⟨hc0,(World.cell?_of_block (a:=⟨k,0,none⟩) hbk1).trans hd.2.1,(World.cell?_of_block (a:=⟨k,1,none⟩) hbk1).trans hd.2.2.1,(World.cell?_of_block (a:=⟨k,2,none⟩) hbk1).trans hd.2.2.2⟩ (fun hd=>?_);clear hK K;have HP1R:=zH hp1;have HOWN:=zH hown1;have HGRW:Hid ((u.alloc (.cells #[.int .i64 o,.int .i64 xv,.slice A Lm.length c] 27)).grownBy w1 (Value.slice B (Ts.length + 1) cap).ownBlock):=zH ⟨hgrow1.os,hgrow1.tape,hgrow1.output,hgrow1.size,hgrow1.block⟩;have HAT:=zH hat1;clear hp1 hown1 hgrow1 hat1 hbp1 hbk1;simp only [zA,zB,zC];iterate 2 (((refine Jd (v:=?_) rfl (by kernel_rfl) (fun _ _ _ h=>h) ⟨by rfl,?_⟩ hd ?_;rotate_left;· intro w' sw;obtain ⟨hS1,hS2,hS3,hS4⟩:=sw;go_simp;try with_reducible rfl);simp only [zA,zB,zC]))
    refine wpAnyH_done (by kernel_rfl) ?_ _;refine PopQ.last rfl rfl (fun K hK=>?_);go_simp;refine hK _ _ ?_;clear hK K;go_wp2_with fail;go_ret;refine ⟨Je (ZP n L1),HPC.out,?_,?_⟩
    ·show _ = Ending.returned (.int .i64 (Ul (mrg (mrg [] (Je xL)) (Je (ZP n L1)))));rw [<- HMM.out,<- HRR.out];rfl
    ·show if Ul (mrg (mrg [] (Je xL)) (Je (ZP n L1))) = 0 then _ else _;rw [<- HMM.out,<- HRR.out,if_pos rfl];obtain ⟨W9,hW9⟩:∃ W9,W9 = w1.setCell ⟨p,0,none⟩ (.slice (some ⟨gg,0,none⟩) (Ts.length + 1 + 1) cap'):=⟨_,rfl⟩;rw [<- hW9];have hsu:=HWU.out.size;have hs1:u.heap.size + 1 <= w1.heap.size:=(by have:=HGRW.out.size;rwa [hU] at this);have hs9:W9.heap.size = w1.heap.size:=(by rw [hW9];simp [World.setCell]);have stab:∀ b,b < u.heap.size -> b ≠ p -> some b ≠ blk B -> W9.heap[b]? = u.heap[b]?:=fun b h1 h2 h3=>by
      rw [hW9];exact (RowKit.Below.heap_setCell w1 _ _ b h2).trans ((HGRW.out.block b (by rw [hU];omega) (by rw [UW];exact h3)).trans (RowKit.Below.heap_alloc u _ b h1))
     have hBT:∀ b,some b = blk B -> BT u b 27:=fun b e=>BT.of_own HROW.out (by rw [UW];exact e.symm);have keep:∀ {A0:Option Addr} {c0:Nat} {L0:List Gm} {b0:Nat},GLo u b0 A0 c0 L0 -> GLo W9 b0 A0 c0 L0:=fun hg=>hg.block (by omega) (fun b hb=>by
      have hbu:b < u.heap.size:=(by rcases hb with hb | hb;exact hb.lt;exact hb.1.lt);refine stab b hbu ?_ ?_
      ·rintro rfl;rcases hb with hb | hb
       ·exact hb.ne ⟨_,_,HPL.out⟩ (by decide) rfl
       ·exact hb.1.ne ⟨_,_,HPL.out⟩ (by decide) rfl
      ·intro e;rcases hb with hb | hb
       ·exact hb.ne (hBT b e) (by decide) rfl
       ·exact hb.1.ne (hBT b e) (by decide) rfl)
     have hggp:gg ≠ p:=by
      intro hgp;rcases HAT.out with e | e
      ·exact hnp (by rw [<- hgp];exact e.symm)
      ·omega
     have hcolm:=HRR.out;unfold Ul at hcolm;have hml:m.length <= 20000:=by
      by_cases h9 : 20000 < m.length
      ·rw [if_pos h9] at hcolm;omega
      ·omega
     rw [if_neg (by omega)] at hcolm;have hmb:∀ q ∈ m,q.2 <= 1073741824:=fun q hq=>by
      by_cases h9 : 1073741824 < q.2
      ·rw [if_pos ⟨q,hq,h9⟩] at hcolm;omega
      ·omega
     have hfrom:FromG o xv m:=by
      rw [HMM.out];refine YV _ _ (YV _ _ (fun q hq=>by cases hq) (fun g hg=>?_)) (fun g hg=>?_)
      ·have:=XY (o:=(o:Int)) (v:=xv) (l:=Je xL) HTT.out.ok g hg;exact ⟨by have:=this.1;omega,this.2.1,this.2.2.1⟩
      ·have:=XY HVN.out g hg;exact ⟨by have:=this.1;omega,this.2.1,this.2.2.1⟩
     have hnd:(m.map (·.1)).Nodup:=by
      rw [HMM.out];exact Yh _ _ (Yh _ _ (by simp))
     have hok:Xz o xv (Je Lm) = 0:=ZgZ HZ.out hfrom hnd hml hmb HC3.out.2.1 (by unfold Je;rw [List.pairwise_map];exact HC3.out.2.2);have glo9:∀ t0 ∈ Ts ++ [(⟨o,xv,xA,xc,xL⟩:TT)] ++ [(⟨o,xv,A,c,Lm⟩:TT)],GLo W9 base t0.A t0.c t0.L /\ Xz t0.o t0.v (Je t0.L) = 0:=fun t0 ht0=>by
      rcases List.mem_append.1 ht0 with ht0 | ht0
      ·exact ⟨keep (HLU.out.glo t0 ht0),(HLU.out.tab t0 ht0).ok⟩
      ·rw [List.mem_singleton.1 ht0];exact ⟨(keep HC3.out.1).le (by have:=HBW3.out.size;have:=HWU.out.size;omega),hok⟩
     have hln:(Ts ++ [(⟨o,xv,xA,xc,xL⟩:TT)] ++ [(⟨o,xv,A,c,Lm⟩:TT)]).length = Ts.length + 1 + 1:=(by simp);refine ⟨some ⟨gg,0,none⟩,cap',⟨o,xv,A,c,Lm⟩,⟨?_,?_,fun t0 ht0=>⟨(glo9 t0 ht0).1.tb,(glo9 t0 ht0).1.nilA,(glo9 t0 ht0).2⟩,fun t0 ht0=>(glo9 t0 ht0).1⟩,rfl,rfl,HC3.out.2.1,?_,?_⟩
     ·rw [hln,hW9];exact (JT HP1R.out 0 _).trans rfl
     ·rw [hln,hW9];have h9:=ZaZ HOWN.out (XK (World.grownBy.refl w1 (some p)) (.inl rfl) (.slice (some ⟨gg,0,none⟩) (Ts.length + 1 + 1) cap') (p:=⟨p,0,none⟩)) (fun k9 hk9 e9=>by
       simp [Value.ownBlock] at hk9;injection e9 with e9
       omega)
      have e9:ZaA (Ts ++ [(⟨o,xv,xA,xc,xL⟩:TT)] ++ [(⟨o,xv,A,c,Lm⟩:TT)]) = ZaA (Ts ++ [(⟨o,xv,xA,xc,xL⟩:TT)]) ++ [.int .i64 o,.int .i64 xv,.slice A Lm.length c]:=(by simp [ZaA]);rw [e9];exact h9
     ·refine ⟨?_,?_,?_,by omega,fun b h1 h2 h3=>(stab b (by omega) h2 h3).trans (HWU.out.block b h1)⟩
      ·rw [hW9];exact HGRW.out.os.trans HWU.out.os
      ·rw [hW9];exact HGRW.out.tape.trans HWU.out.tape
      ·rw [hW9];exact HGRW.out.output.trans HWU.out.output
     ·intro k9 hk9;have e9:k9 = gg:=(by simp [blk,Value.ownBlock] at hk9;exact hk9.symm);subst e9;rcases HAT.out with e | e
      ·exact .inl (by rw [<- UW B (Ts.length + 1) cap];exact e)
      ·exact .inr (by omega)
end Go.Proofs.YtlgdlenoohkipaaGreat
