/- TopLearned -/
import Derived.Test.YtlgdlenoohkipaaGreatMTearn22
set_option maxRecDepth 100000
set_option maxHeartbeats 32000000
namespace Go.Proofs.YtlgdlenoohkipaaGreat
open Go.RowKit Ear

theorem X5 (L:List Gm):∀ u ∈ J6 L,u.oneCell' = true:=by
 intro u hu;obtain ⟨g,_,hg⟩:=List.mem_flatMap.1 hu;simp at hg;rcases hg with rfl | rfl <;> rfl
theorem ZdU (A:Option Addr) (c:Nat) (L:List Gm) (w:World) (h:Lies w A (J6 L)) (hA:A = none -> c = 0 /\ L = []) (hn:L.length <= 1000000) :
  Calls Tryz.prog 83 #[.slice A L.length c] w fun e w'=>∃ A' c',e = .returned (.slice A' L.length c') /\ w'.ownsRow w.heap.size 93 2 (.slice A' L.length c') L.length (J6 L) /\ RowKit.Below w.heap.size w w':=by
 obtain ⟨i0,hi0,hz0,hz1,hz2⟩:=info_parts UQ;have HI:=zH hi0;have HZ0:=zH hz0;have HZ1:=zH hz1;have HZ2:=zH hz2;clear hi0 hz0 hz1 hz2;cases A with
 | none=>
  obtain ⟨rfl,rfl⟩:=hA rfl;have hnil:∀ W,(binOp .eql 25 (.slice none 0 0) (.slice none 0 0)).run Tryz.prog W = .ok (.bool true) W:=fun W=>Lib.run_eql_slice_nil W 25 93 none 0 0 0 0 Tryz.underlying25;go_enter Tryz.func83,Tryz.ntmps83;go_wp2_with fail;go_ret;exact ⟨none,0,rfl,World.ownsRow_nil _ _ _ _,RowKit.Below.refl _ _⟩
 | some ad=>
  clear hA;have hnil:∀ W,(binOp .eql 25 (.slice (some ad) L.length c) (.slice none 0 0)).run Tryz.prog W = .ok (.bool false) W:=fun W=>Lib.run_eql_slice_nil W 25 93 (some ad) L.length c 0 0 Tryz.underlying25;have hnews:=zH (h.news);go_enter Tryz.func83,Tryz.ntmps83;go_wp2_with (at_builtin;refine wpList_append_own_at _ rfl (.tmp 5) (.tmp 6) _ rfl w.heap.size 93 i0 _ 2 32 Tryz.underlying25 HI.out HZ0.out HZ1.out HZ2.out rfl (by omega) (.slice (some ⟨w.heap.size,0,none⟩) 0 0) 0 [] rfl (World.ownsRow_lit w #[] 0 nR (by simp) rfl) ad L.length c (J6 L) rfl (Jp L) (hnews.out _) (X5 L) (by unfold maxLen;omega) (by omega) (by simp) ?_;intro v' w1 hown1 hgrow _ hat);go_ret;obtain ⟨A',c',rfl⟩:=Yg hown1;refine ⟨A',c',by rw [Nat.zero_add];rfl,by simpa using hown1,(bR.alloc nR _).grown hgrow (by simp) (fun k hk=>?_)⟩;simp [Value.ownBlock] at hk;omega
def Zj0 (o v:Int) (L:List Gm) (w:World) (e:Ending) (w':World):Prop:=
 ∃ A c L',e = .returned (.agg #[.int .i64 o,.int .i64 v,.slice A (L':List Gm).length c]) /\ GLo w' w.heap.size A c L' /\ Je L' = Je L /\ RowKit.Below w.heap.size w w'
structure CpI (w W1:World) (G:Option Addr) (c:Nat) (L:List Gm) (k:Nat) (O:List Gm) (W:World):Prop where
 len:O.length = k
 row:W.ownsRow (w.heap.size + 2) 93 2 (.slice G L.length c) L.length (J6 (O ++ L.drop k))
 inn:∀ g ∈ O,InT W g.1
 tbl:Je O = Je (L.take k)
 size:W1.heap.size <= W.heap.size
 low:RowKit.Below (w.heap.size + 2) W1 W
theorem Zdo {w:World} {base n c k:Nat} {A:Option Addr} {M:List Gm} {X:Gm} (h:w.ownsRow base 93 2 (.slice A n c) n (J6 M)) (hk:M[k]? = some X) :
  ∃ g,A = some ⟨g,0,none⟩ /\ base <= g /\ g < w.heap.size /\ w.cell? ⟨g,k * 2,none⟩ = some (.slice X.1.1 X.1.2.2.length X.1.2.1) /\ w.frozen? ⟨g,k * 2,none⟩ = false /\ BT w g 93:=by
 obtain ⟨hl,hx⟩:=List.getElem?_eq_some_iff.1 hk;have hn:n = M.length:=by have:=h.1;rw [Jp] at this;omega
 have hbt:=fun b (hb:(Value.slice A n c).ownBlock = some b)=>BT.of_own h hb;obtain ⟨g,cap,hv,hg,hlt⟩:=h.form (by omega);injection hv with e1 _ e3
 subst e1 e3;refine ⟨g,rfl,hg,hlt,?_,h.frozenAt _,hbt g rfl⟩;rw [h.cellAt (k * 2) (by omega),<- hx];exact (Vj M hl).1
theorem ZgJ (O R:List Gm) (X Y:Gm) (hn:X.2 = Y.2):(J6 (O ++ X :: R)).set (O.length * 2) (Value.slice Y.1.1 Y.1.2.2.length Y.1.2.1) = J6 (O ++ Y :: R):=by
 have e:O.length * 2 = (J6 O).length:=(Jp O).symm;have e2:∀ Z:Gm,J6 (O ++ Z :: R) = J6 O ++ (Value.slice Z.1.1 Z.1.2.2.length Z.1.2.1 :: Value.int .i64 Z.2 :: J6 R):=fun Z=>by simp [J6]
 rw [e2,e2,e,List.set_append_right _ _ nR];simp [hn]
def CpG (bw g k n c B:Nat) (sx:Value) (xl:List Int):Nat -> Value -> World -> Prop
 | 0,v,_=>v = .pointer (some ⟨bw,2,none⟩)
 | 1,v,_=>v = .slice (some ⟨g,0,none⟩) n c
 | 2,v,_=>v = .int .i64 k
 | 3,v,_=>v = .pointer (some ⟨bw,2,none⟩)
 | 4,v,_=>v = .slice (some ⟨g,0,none⟩) n c
 | 5,v,_=>v = .int .i64 k
 | 6,v,_=>v = .pointer (some ⟨g,k * 2,none⟩)
 | 7,v,_=>v = .pointer (some ⟨g,k * 2,none⟩)
 | 8,v,_=>v = sx
 | 9,v,u=>∃ A' c',v = .slice A' xl.length c' /\ u.ownsRow B 3 1 (.slice A' xl.length c') xl.length (ics xl)
 | 10,v,_=>v = .pointer (some ⟨g,k * 2,none⟩)
 | 11,v,_=>v = .pointer (some ⟨g,k * 2,none⟩)
 | _,_,_=>True
theorem CpG.keeps {bw g k n c B:Nat} {sx:Value} {xl:List Int} (j:Nat) (v:Value) (u u':World) (h:CpG bw g k n c B sx xl j v u) (ht:RowKit.Below u.heap.size u u'):CpG bw g k n c B sx xl j v u':=by
 unfold CpG at h ⊢;split <;> first
  | exact h
  | exact trivial
  | (obtain ⟨A',c',e,h⟩:=h;exact ⟨A',c',e,Jr h ht⟩)
theorem Uw (o v:Int) (A:Option Addr) (c:Nat) (L:List Gm) (w:World) (h:Tb w A L) (hA:A = none -> c = 0 /\ L = []) (hn:L.length <= 20000) (hw:Hid (∀ g ∈ L,g.1.2.2.length <= 1000)) :
  Calls Tryz.prog 36 #[.agg #[.int .i64 o,.int .i64 v,.slice A L.length c]] w (Zj0 o v L w):=by
 obtain ⟨W0,hW0⟩:∃ W0:World,W0 = (w.alloc (.cells #[.int .i64 o,.int .i64 v,.slice A L.length c] 27)).alloc (.cells #[.int .i64 0,.int .i64 0,.slice none 0 0] 27):=⟨_,rfl⟩;have hs0:W0.heap.size = w.heap.size + 2:=by rw [hW0];simp
 have HB0:Hid (RowKit.Below w.heap.size w W0):=zH (by rw [hW0];exact al2 w _ _);have HX0:Hid (W0.heap[w.heap.size]? = some (.cells #[.int .i64 o,.int .i64 v,.slice A L.length c] 27 (0,0))):=zH (by rw [hW0];exact (RowKit.Below.heap_alloc _ _ _ (by simp)).trans (heap_alloc_new w _));have HR0:Hid (W0.heap[w.heap.size + 1]? = some (.cells #[.int .i64 0,.int .i64 0,.slice none 0 0] 27 (0,0))):=zH (by rw [hW0];have:=heap_alloc_new (w.alloc (.cells #[.int .i64 o,.int .i64 v,.slice A L.length c] 27)) (.cells #[.int .i64 0,.int .i64 0,.slice none 0 0] 27);simpa using this);have HTB:=zH (h.below HB0.out);have HT:=zH h;clear h;have c2:=(cR 2 HX0.out).trans rfl;go_enter Tryz.func36,Tryz.ntmps36;go_wp2_with fail;rw [<- hW0];clear hW0;go_wp2_with fail;refine (ZdU A c L W0 HTB.out.lies hA (by omega)).mono ?_;rintro e W1 ⟨G,gc,rfl,hrow,hb1⟩;have HB1:=zH hb1;have hs1:W0.heap.size <= W1.heap.size:=hb1.size;have HX1:Hid (W1.heap[w.heap.size]? = some (.cells #[.int .i64 o,.int .i64 v,.slice A L.length c] 27 (0,0))):=zH ((hb1.block _ (by omega)).trans HX0.out);have x2:=(cR 2 HX1.out).trans rfl;have xf:=Jl HX1.out 2;have HROW:=zH hrow;clear hb1 hrow c2;go_wp2_with fail;obtain ⟨W2,hW2⟩:∃ W2:World,W2 = W1.setCell ⟨w.heap.size,2,none⟩ (.slice G L.length gc):=⟨_,rfl⟩;rw [<- hW2];have hs2:W2.heap.size = W1.heap.size:=by rw [hW2];simp [World.setCell]
 have HX2:Hid (W2.heap[w.heap.size]? = some (.cells #[.int .i64 o,.int .i64 v,.slice G L.length gc] 27 (0,0))):=zH (by rw [hW2];exact (JT HX1.out 2 _).trans rfl);have HR2:Hid (W2.heap[w.heap.size + 1]? = some (.cells #[.int .i64 0,.int .i64 0,.slice none 0 0] 27 (0,0))):=zH (by rw [hW2];exact (RowKit.Below.heap_setCell W1 _ _ _ (by show w.heap.size + 1 ≠ w.heap.size;omega)).trans ((HB1.out.block _ (by omega)).trans HR0.out));have HB2:Hid (RowKit.Below w.heap.size w W2):=zH (by rw [hW2];exact (HB0.out.trans (HB1.out.mono (by omega))).setCell nR _);have HI0:Hid (CpI w W2 G gc L 0 [] W2):=zH ⟨rfl,by
  rw [hW2,<- hs0];exact J1 HROW.out (by show w.heap.size < _;omega) _,by simp,by simp,Nat.le_refl _,RowKit.Below.refl _ _⟩
 clear hW2 x2 xf HROW HX1 HR0 HX0;go_loopw [11] (fun i wr=>∃ (k:Nat) (O:List Gm),k <= L.length /\ i = .int .i64 k /\ Hid (CpI w W2 G gc L k O wr)) (fun i _=>L.length - (intOf i).toNat)
 case atStart=>exact ⟨0,[],by omega,rfl,HI0⟩
 case round=>
  obtain ⟨k,O,hk,rfl,HI⟩:=hrel;clear HI0;obtain ⟨Wr,rfl⟩:∃ X,X = wr:=⟨_,rfl⟩;have HXr:Hid (Wr.heap[w.heap.size]? = some (.cells #[.int .i64 o,.int .i64 v,.slice G L.length gc] 27 (0,0))):=zH ((HI.out.low.block _ (by omega)).trans HX2.out);have HBr:Hid (RowKit.Below w.heap.size w Wr):=zH (HB2.out.trans (HI.out.low.mono (by omega)));have hszr:=HI.out.size;by_cases hlt:k < L.length
  ·have hLk:L[k]? = some L[k]:=gE hlt;have hMk:(O ++ L.drop k)[k]? = some L[k]:=by
    rw [List.getElem?_append_right (by rw [HI.out.len];omega),HI.out.len,List.getElem?_drop];rw [Nat.sub_self,Nat.add_zero];exact hLk
   have hdr:L.drop k = L[k] :: L.drop (k + 1):=List.drop_eq_getElem_cons hlt;have htk:L.take (k + 1) = L.take k ++ [L[k]]:=List.take_succ_eq_append_getElem hlt;obtain ⟨g,eG,hg1,hg2,hcell,hfz,hbt⟩:=Zdo HI.out.row hMk;subst eG;have HIN:=zH ((HT.out.inn _ (yM hlt)).below HBr.out);have HW:=hw.out _ (yM hlt);have HNM:=zH (HT.out.num _ (yM hlt));have HDR:=zH hdr;have HTK:=zH htk;have HCELL:=zH hcell;have HBT:=zH hbt;clear hLk hMk hdr htk hcell hbt;generalize L[k] = X at *
   obtain ⟨⟨XA,Xc,xl⟩,xn⟩:=X;simp only at *
   have hkn:((k:Int) < (L.length:Int)):=(by omega);go_upto_region 5 with fail;have hcX:∀ u,RowKit.Below Wr.heap.size Wr u -> u.cell? ⟨w.heap.size,2,none⟩ = some (.slice (some ⟨g,0,none⟩) L.length gc):=fun u hu=>(cR 2 ((hu.block _ (by omega)).trans HXr.out)).trans rfl;have hcG:∀ u,RowKit.Below Wr.heap.size Wr u -> u.cell? ⟨g,k * 2,none⟩ = some (.slice XA xl.length Xc):=fun u hu=>(hu.cell (p:=⟨g,k * 2,none⟩) hg2).trans HCELL.out;refine (wpIn_wide (n:=7)).1 ?_;refine Xq 12 28 rfl rfl (by kernel_rfl) (by kernel_rfl) (by kernel_rfl) (by kernel_rfl) (fun u=>RowKit.Below Wr.heap.size Wr u) (fun u u'=>RowKit.Below u.heap.size u u') (CpG w.heap.size g k L.length gc Wr.heap.size (.slice XA xl.length Xc) xl) CpG.keeps bR.drew ?_ ?_
   ·refine ⟨?_,?_,?_,?_,?_,?_,?_,?_,?_,?_,?_,?_,trivial⟩
    ·intro b u su dp kp K hK;have e1:gT b 1 = .pointer (some ⟨w.heap.size,0,none⟩):=kp 1 (by kernel_rfl);go_simp;exact hK _ _ su bR rfl
    ·intro b u su dp kp K hK;have e14:gT b 14 = .pointer (some ⟨w.heap.size,2,none⟩):=dp 0 _ rfl (by kernel_rfl);have cX:=hcX u su;go_simp;exact hK _ _ su bR rfl
    ·intro b u su dp kp K hK;have e3:gT b 3 = .int .i64 k:=kp 3 (by kernel_rfl);go_simp;exact hK _ _ su bR rfl
    ·intro b u su dp kp K hK;have e1:gT b 1 = .pointer (some ⟨w.heap.size,0,none⟩):=kp 1 (by kernel_rfl);go_simp;exact hK _ _ su bR rfl
    ·intro b u su dp kp K hK;have e17:gT b 17 = .pointer (some ⟨w.heap.size,2,none⟩):=dp 3 _ rfl (by kernel_rfl);have cX:=hcX u su;go_simp;exact hK _ _ su bR rfl
    ·intro b u su dp kp K hK;have e3:gT b 3 = .int .i64 k:=kp 3 (by kernel_rfl);go_simp;exact hK _ _ su bR rfl
    ·intro b u su dp kp K hK;have e18:gT b 18 = .slice (some ⟨g,0,none⟩) L.length gc:=dp 4 _ rfl (by kernel_rfl);have e19:gT b 19 = .int .i64 k:=dp 5 _ rfl (by kernel_rfl);go_simp;exact hK _ _ su bR rfl
    ·intro b u su dp kp K hK;have e20:gT b 20 = .pointer (some ⟨g,k * 2,none⟩):=dp 6 _ rfl (by kernel_rfl);go_simp;exact hK _ _ su bR rfl
    ·intro b u su dp kp K hK;have e21:gT b 21 = .pointer (some ⟨g,k * 2,none⟩):=dp 7 _ rfl (by kernel_rfl);have cG:=hcG u su;go_simp;exact hK _ _ su bR rfl
    ·intro b u su dp kp K hK;have e22:gT b 22 = .slice XA xl.length Xc:=dp 8 _ rfl (by kernel_rfl);go_simp;refine ⟨trivial,((callsIn_wide (n:=6)).2 (ZdT XA Xc xl u (HIN.out.1.below su) HIN.out.2.1 (by omega))).mono ?_⟩;rintro e u' ⟨A',c',rfl,ho',hb'⟩;go_simp;exact hK _ _ (su.trans (hb'.mono su.size)) hb' ⟨A',c',rfl,J9 ho' su.size⟩
    ·intro b u su dp kp K hK;have e15:gT b 15 = .slice (some ⟨g,0,none⟩) L.length gc:=dp 1 _ rfl (by kernel_rfl);have e16:gT b 16 = .int .i64 k:=dp 2 _ rfl (by kernel_rfl);go_simp;exact hK _ _ su bR rfl
    ·intro b u su dp kp K hK;have e24:gT b 24 = .pointer (some ⟨g,k * 2,none⟩):=dp 10 _ rfl (by kernel_rfl);go_simp;exact hK _ _ su bR rfl
   ·intro o' b u ho hsz hdf su hG kp K hK;injection ho with ho
    subst ho;obtain ⟨A',c',e23,ho'⟩:∃ A' c',gT b 23 = .slice A' xl.length c' /\ u.ownsRow Wr.heap.size 3 1 (.slice A' xl.length c') xl.length (ics xl):=hG 9 _ rfl (by omega);have e25:gT b 25 = .pointer (some ⟨g,k * 2,none⟩):=hG 11 _ rfl (by omega);have cG:=hcG u su;have fG:u.frozen? ⟨g,k * 2,none⟩ = false:=(su.frozen (p:=⟨g,k * 2,none⟩) hg2).trans hfz;clear hG;go_simp;refine hK _ _ ?_;have hbt:=HBT.out.below su;have hu2:RowKit.Below (w.heap.size + 2) W2 u:=HI.out.low.trans (su.mono (by omega));have hnew:InT u (A',c',xl):=InT.of_own ho' rfl HIN.out.2.2.1 HIN.out.2.2.2.2;have hrow':=Jr HI.out.row su;rw [HDR.out] at hrow';have hst:=(hrow'.stored (k * 2) (.slice A' xl.length c')).1;have hset:=ZgJ O (L.drop (k + 1)) ((XA,Xc,xl),xn) ((A',c',xl),xn) rfl;simp only at hset;rw [HI.out.len] at hset;rw [hset] at hst;have hI2:CpI w W2 (some ⟨g,0,none⟩) gc L (k + 1) (O ++ [((A',c',xl),xn)]) (u.setCell ⟨g,k * 2,none⟩ (.slice A' xl.length c')):=
     ⟨by simp [HI.out.len],by rw [List.append_assoc];exact hst,fun y hy=>by
      rcases List.mem_append.1 hy with hy | hy
      ·exact ((HI.out.inn y hy).below su).set hbt (by decide) _
      ·simp at hy;subst hy;exact hnew.set hbt (by decide) _,by
      have ht:=HI.out.tbl;unfold Je at ht ⊢;rw [List.map_append,ht,HTK.out,List.map_append];rfl,by simp only [World.setCell,Array.size_modify];have:=su.size;omega,hu2.setCell (by show w.heap.size + 2 <= g;omega) _⟩
    have HI2:=zH hI2;clear hI2 hst hset hrow' hnew hu2 hbt e23 e25 ho' cG fG hK su hcX hcG;generalize u.setCell ⟨g,k * 2,none⟩ (.slice A' xl.length c') = u2 at *
    rw [Ju b _ [false,false,false,false,false,false,false,false,false,false,false,false,false,false,true,true,true,true,true,true,true,true,true,true,true,true,false,false] _ rfl hsz rfl (by kernel_rfl) hdf (fun k hk=>kp k (fun j o ho hj he=>by
     have:=List.all_eq_true.1 hk j (List.mem_range.2 (aE ho).1);simp [ho,he] at this))]
    simp only [Y2,Nat.reduceAdd];clear kp hsz hdf;generalize b.tmps.getD 14 undef = z14,b.tmps.getD 15 undef = z15,b.tmps.getD 16 undef = z16,b.tmps.getD 17 undef = z17,b.tmps.getD 18 undef = z18,b.tmps.getD 19 undef = z19,b.tmps.getD 20 undef = z20,b.tmps.getD 21 undef = z21,b.tmps.getD 22 undef = z22,b.tmps.getD 23 undef = z23,b.tmps.getD 24 undef = z24,b.tmps.getD 25 undef = z25;go_wp2_with fail;exact ⟨⟨k + 1,O ++ [((A',c',xl),xn)],by omega,by go_num,HI2⟩,by simp [intOf];omega⟩
  ·obtain rfl:k = L.length:=by omega
   have hrow:=HI.out.row;have htb:=HI.out.tbl;rw [List.drop_length,List.append_nil] at hrow;rw [List.take_length] at htb;have hol:O.length = L.length:=HI.out.len;have x0:=(cR 0 HXr.out).trans rfl;have x1:=(cR 1 HXr.out).trans rfl;have x2:=(cR 2 HXr.out).trans rfl;have HRr:Hid (Wr.heap[w.heap.size + 1]? = some (.cells #[.int .i64 0,.int .i64 0,.slice none 0 0] 27 (0,0))):=zH ((HI.out.low.block _ (by omega)).trans HR2.out);have d0:=(cR 0 HRr.out).trans rfl;have d1:=(cR 1 HRr.out).trans rfl;have d2:=(cR 2 HRr.out).trans rfl;have f0:=Jl HRr.out 0;have f1:=Jl HRr.out 1;have f2:=Jl HRr.out 2;have hglo:GLo Wr w.heap.size G gc O:=⟨by rw [hol];exact J9 hrow (by omega),HI.out.inn,fun y hy=>by
    have hm:(y.1.2.2,y.2) ∈ Je O:=List.mem_map_of_mem (f:=fun g:Gm=>(g.1.2.2,g.2)) hy;rw [htb] at hm;obtain ⟨z,hz,e⟩:=List.mem_map.1 hm;have:=HT.out.num z hz;injection e with _ e2
    rw [<- e2];exact this⟩
   have HGLO:=zH hglo;have HTBL:=zH htb;have HOL:=zH hol;clear hglo htb hol hrow;go_wp2_with fail;have hr6:=ZaV HRr.out (.int .i64 o) (.int .i64 v) (.slice G L.length gc);have g0:=(cR 0 hr6).trans rfl;have g1:=(cR 1 hr6).trans rfl;have g2:=(cR 2 hr6).trans rfl;refine bodyPost_ret (v:=.agg #[.int .i64 o,.int .i64 v,.slice G L.length gc]) (by simp [results,Tryz.results36,go_sem,g0,g1,g2]) rfl ?_;refine ⟨G,gc,O,by rw [HOL.out],HGLO.out.block (by simp [World.setCell]) (fun b hb=>JR (by
    rcases hb with hb | hb
    ·exact hb.ne ⟨_,_,HRr.out⟩ (by decide)
    ·exact hb.1.ne ⟨_,_,HRr.out⟩ (by decide)) _ _ _),HTBL.out,((HBr.out.setCell (by simp) _).setCell (by simp) _).setCell (by simp) _⟩
def blk (A:Option Addr):Option Nat:=(Value.slice A 0 0).ownBlock
theorem UW (A:Option Addr) (n c:Nat):(Value.slice A n c).ownBlock = blk A:=by cases A <;> rfl
section
variable {base n cap g size:Nat} {e:TypeId}
end
theorem Q9 {w:World} {base:Nat} {e:TypeId} {size n m c:Nat} {A:Option Addr} {xs ys:List Value} (h:w.ownsRow base e size (.slice A n c) n (xs ++ ys)) (hx:xs.length = m * size) (hm:m <= n):w.ownsRow base e size (.slice A m c) m xs:=by
 refine ⟨hx,?_⟩;rcases h.2 with ⟨h1,h2⟩ | ⟨g,cap,cur,h1,h2,h3,h4,h5,h6,h7⟩
 ·injection h1 with e1 e2 e3
  subst e1 e2 e3;exact .inl ⟨by rw [show m = 0 by omega],by omega⟩
 ·injection h1 with e1 e2 e3
  subst e1 e3;refine .inr ⟨g,c,cur,rfl,h2,h3,by omega,h5,h6,?_⟩;have h8:(cur.toList.take (n * size)).take (m * size) = xs:=by rw [h7,<- hx];exact List.take_left
  rwa [List.take_take,Nat.min_eq_left (Nat.mul_le_mul_right _ hm)] at h8
end Go.Proofs.YtlgdlenoohkipaaGreat
namespace Go.Proofs.YtlgdlenoohkipaaGreat
open Go.RowKit Ear

structure TOk (w:World) (t:TT):Prop where
 tab:Tb w t.A t.L
 nil:t.A = none -> t.c = 0 /\ t.L = []
 ok:Xz t.o t.v (Je t.L) = 0
theorem TOk.below {w w':World} {t:TT} (h:TOk w t) (hb:RowKit.Below w.heap.size w w'):TOk w' t:=⟨h.tab.below hb,h.nil,h.ok⟩
theorem TOk.len {w:World} {t:TT} (h:TOk w t):t.L.length <= 20000:=by have:=(JK.1 h.ok).1;simpa using this
theorem TOk.words {w:World} {t:TT} (h:TOk w t):∀ g ∈ t.L,g.1.2.2.length <= 1000:=fun g hg=>by
 have:=VC h.ok _ (List.mem_map_of_mem (f:=fun g:Gm=>(g.1.2.2,g.2)) hg);have:=this.1;simp only at this;omega
structure LrI (w:World) (base p:Nat) (B:Option Addr) (cap:Nat) (Ts:List TT):Prop where
 cell:w.heap[p]? = some (.cells #[.slice B Ts.length cap] 106 (0,0))
 row:w.ownsRow base 27 3 (.slice B Ts.length cap) Ts.length (ZaA Ts)
 tab:∀ t ∈ Ts,TOk w t
 glo:∀ t ∈ Ts,GLo w base t.A t.c t.L
theorem LrI.below {w w':World} {base p cap:Nat} {B:Option Addr} {Ts:List TT} (h:LrI w base p B cap Ts) (hb:RowKit.Below w.heap.size w w'):LrI w' base p B cap Ts:=
 ⟨(hb.block p (aE h.cell).1).trans h.cell,Jr h.row hb,fun t ht=>(h.tab t ht).below hb,fun t ht=>(h.glo t ht).below hb⟩
theorem LrI.tts {w:World} {base p cap:Nat} {B:Option Addr} {Ts:List TT} (h:LrI w base p B cap Ts):TTs w B Ts:=⟨Lies.of_own h.row,fun t ht=>(h.tab t ht).tab,fun t ht=>(h.tab t ht).len⟩
theorem LrI.at_ {w:World} {base p cap:Nat} {B:Option Addr} {Ts:List TT} (h:LrI w base p B cap Ts):w.cell? ⟨p,0,none⟩ = some (.slice B Ts.length cap):=(cR 0 h.cell).trans rfl
theorem GLo.nilA {w:World} {base c:Nat} {A:Option Addr} {L:List Gm} (h:GLo w base A c L):A = none -> c = 0 /\ L = []:=fun e=>by
 subst e;rcases h.row.2 with ⟨e1,e2⟩ | ⟨g,cap,cur,e1,_⟩
 ·injection e1 with _ _ e3
  exact ⟨e3,List.length_eq_zero_iff.1 e2⟩
 ·injection e1 with e3;cases e3
structure Two (w w':World) (p:Nat) (q:Option Nat):Prop where
 os:w'.os = w.os
 tape:w'.tape = w.tape
 output:w'.output = w.output
 size:w.heap.size <= w'.heap.size
 block:∀ k,k < w.heap.size -> k ≠ p -> some k ≠ q -> w'.heap[k]? = w.heap[k]?
theorem Two.of_below {w w':World} {p:Nat} {q:Option Nat} (h:RowKit.Below w.heap.size w w'):Two w w' p q:=⟨h.os,h.tape,h.output,h.size,fun k hk _ _=>h.block k hk⟩
theorem Two.below {w w':World} {p:Nat} {q:Option Nat} {B:Nat} (h:Two w w' p q) (hB:B <= w.heap.size) (hp:B <= p) (hq:∀ k,q = some k -> B <= k):RowKit.Below B w w':=
 ⟨h.os,h.tape,h.output,h.size,fun k hk=>h.block k (by omega) (by omega) (fun e=>by have:=hq k e.symm;omega)⟩
theorem ZaW (w:World) (base:Nat) (t:TT) (hb:base <= w.heap.size):(w.alloc (.cells #[.int .i64 t.o,.int .i64 t.v,.slice t.A t.L.length t.c] 27)).ownsRow base 27 3 (.slice (some ⟨w.heap.size,0,none⟩) 1 1) 1 (ZaA [t]):=
 ⟨rfl,.inr ⟨w.heap.size,1,_,rfl,hb,heap_alloc_new w _,Nat.le_refl _,by unfold maxLen;omega,rfl,rfl⟩⟩
def Zjs (r o v:Int) (l:Tbl) (w:World) (e:Ending) (w':World):Prop:=
 RowKit.Below w.heap.size w w' /\ if r = 0 then ∃ p B t,e = .returned (.tuple #[.pointer (some ⟨p,0,none⟩),.int .i64 0]) /\ LrI w' w.heap.size p B 1 [t] /\ t.o = o /\ t.v = v /\ Je t.L = l /\ w.heap.size <= p
  else e = .returned (.tuple #[.pointer none,.int .i64 r])
theorem Zbu (o v:Int) (A:Option Addr) (c:Nat) (L:List Gm) (w:World) (h:Tb w A L) (hA:A = none -> c = 0 /\ L = []) (hn:L.length <= 1000000) (r:Int) (hr:Hid (Xz o v (Je L) = r)) :
  Calls Tryz.prog 9 #[.agg #[.int .i64 o,.int .i64 v,.slice A L.length c]] w (Zjs r o v (Je L) w):=by
 obtain ⟨W0,hW0⟩:∃ W0:World,W0 = w.alloc (.cells #[.int .i64 o,.int .i64 v,.slice A L.length c] 27):=⟨_,rfl⟩;have HB0:Hid (RowKit.Below w.heap.size w W0):=zH (by rw [hW0];exact bR.alloc nR _);have hs0:W0.heap.size = w.heap.size + 1:=by rw [hW0];simp
 have HX0:Hid (W0.heap[w.heap.size]? = some (.cells #[.int .i64 o,.int .i64 v,.slice A L.length c] 27 (0,0))):=zH (by rw [hW0];exact heap_alloc_new w _);have HT:=zH (h.below HB0.out);clear h;go_enter Tryz.func9,Tryz.ntmps9;go_wp2_with fail;rw [<- hW0];clear hW0;refine (YI o v A c L W0 HT.out (by omega) r hr).mono ?_;rintro e W1 ⟨rfl,hb1⟩;have HB1:Hid (RowKit.Below w.heap.size w W1):=zH (HB0.out.trans (hb1.mono HB0.out.size));have HT1:=zH (HT.out.below hb1);have hs1:W0.heap.size <= W1.heap.size:=hb1.size;have HX1:Hid (W1.heap[w.heap.size]? = some (.cells #[.int .i64 o,.int .i64 v,.slice A L.length c] 27 (0,0))):=zH ((hb1.block _ (by omega)).trans HX0.out);have x0:=(cR 0 HX1.out).trans rfl;have x1:=(cR 1 HX1.out).trans rfl;have x2:=(cR 2 HX1.out).trans rfl;clear hb1;by_cases h0:r = 0
 ·subst h0;have HR:=zH hr.out;have hn2:L.length <= 20000:=by have:=(JK.1 hr.out).1;simpa using this
  have HWD:Hid (∀ g ∈ L,g.1.2.2.length <= 1000):=zH (fun g hg=>by
   have:=(VC hr.out _ (List.mem_map_of_mem (f:=fun g:Gm=>(g.1.2.2,g.2)) hg)).1;simp only at this;omega)
  go_wp2_with fail;refine (Uw o v A c L W1 HT1.out hA hn2 HWD).mono ?_;rintro e W2 ⟨A',c',L',rfl,hL,htb,hb2⟩;have HL:=zH hL;have HTB:=zH htb;have HB2:=zH (HB1.out.trans (hb2.mono HB1.out.size));clear hL htb hb2;go_wp2_with fail;go_ret2;have h9:=al2 W2 (.cells #[.int .i64 o,.int .i64 v,.slice A' L'.length c'] 27) (.cells #[.slice (some ⟨W2.heap.size,0,none⟩) 1 1] 106);refine ⟨HB2.out.trans (h9.mono HB2.out.size),?_⟩;rw [if_pos rfl];refine ⟨W2.heap.size + 1,some ⟨W2.heap.size,0,none⟩,⟨o,v,A',c',L'⟩,rfl,⟨?_,?_,?_,?_⟩,rfl,rfl,HTB.out,by have:=HB2.out.size;omega⟩
  ·have:=heap_alloc_new (W2.alloc (.cells #[.int .i64 o,.int .i64 v,.slice A' L'.length c'] 27)) (.cells #[.slice (some ⟨W2.heap.size,0,none⟩) 1 1] 106);simpa using this
  ·exact (ZaW W2 w.heap.size ⟨o,v,A',c',L'⟩ HB2.out.size).alloc _
  ·intro t ht;simp at ht;subst ht;exact ⟨(HL.out.tb).below h9,HL.out.nilA,by rw [HTB.out];exact HR.out⟩
  ·intro t ht;simp at ht;subst ht;exact (HL.out.below h9).le HB1.out.size
 ·go_wp2_with fail;go_ret2;refine ⟨HB1.out,?_⟩;rw [if_neg h0];rfl
theorem Qr (base p cap:Nat) (B:Option Addr) (Ts:List TT) (t:TT) (w:World) (h:LrI w base p B cap (Ts ++ [t])) (hm:Ts.length <= 1000000) :
  Calls Tryz.prog 13 #[.pointer (some ⟨p,0,none⟩)] w fun e w'=>∃ A c L',e = .returned (.tuple #[.agg #[.int .i64 t.o,.int .i64 t.v,.slice A (L':List Gm).length c],.int .i64 0]) /\ GLo w' w.heap.size A c L' /\ Je L' = Je t.L /\ RowKit.Below w.heap.size w w':=by
 obtain ⟨W0,hW0⟩:∃ W0:World,W0 = w.alloc (.cells #[.int .i64 0,.int .i64 0,.slice none 0 0] 27):=⟨_,rfl⟩;have HB0:Hid (RowKit.Below w.heap.size w W0):=zH (by rw [hW0];exact bR.alloc nR _);have hs0:W0.heap.size = w.heap.size + 1:=by rw [hW0];simp
 have HX0:Hid (W0.heap[w.heap.size]? = some (.cells #[.int .i64 0,.int .i64 0,.slice none 0 0] 27 (0,0))):=zH (by rw [hW0];exact heap_alloc_new w _);have H0:=zH (h.below HB0.out);have hlen:(Ts ++ [t]).length = Ts.length + 1:=by simp
 have ht0:=H0.out.tab t (by simp);have hat:=H0.out.at_;rw [hlen] at hat;have HAT:=zH hat;have HT0:=zH ht0;clear h ht0 hat hlen;go_enter Tryz.func13,Tryz.ntmps13;go_wp2_with fail;rw [<- hW0];clear hW0;refine (Yd p (Ts.length + 1) cap B W0 HAT.out (by omega)).mono ?_;rintro e W0' ⟨rfl,rfl⟩;go_wp2_with fail;refine (Ys p cap B Ts t W0' HAT.out H0.out.tts hm).mono ?_;rintro e W1 ⟨rfl,hb1⟩;have HB1:Hid (RowKit.Below w.heap.size w W1):=zH (HB0.out.trans (hb1.mono HB0.out.size));have HT1:=zH (HT0.out.below hb1);have hs1:W0'.heap.size <= W1.heap.size:=hb1.size;have HX1:Hid (W1.heap[w.heap.size]? = some (.cells #[.int .i64 0,.int .i64 0,.slice none 0 0] 27 (0,0))):=zH ((hb1.block _ (by omega)).trans HX0.out);clear hb1;obtain ⟨xo,xv,xA,xc,xL⟩:=t;unfold TT.val;simp only at *
 go_wp2_with fail;refine (Uw xo xv xA xc xL W1 HT1.out.tab HT1.out.nil HT1.out.len (zH HT1.out.words)).mono ?_;rintro e W2 ⟨A',c',L',rfl,hL,htb,hb2⟩;have HL:=zH hL;have HTB:=zH htb;have HX2:Hid (W2.heap[w.heap.size]? = some (.cells #[.int .i64 0,.int .i64 0,.slice none 0 0] 27 (0,0))):=zH ((hb2.block _ (by omega)).trans HX1.out);have HB2:=zH (HB1.out.trans (hb2.mono HB1.out.size));have hs2:W1.heap.size <= W2.heap.size:=hb2.size;have d0:=(cR 0 HX2.out).trans rfl;have d1:=(cR 1 HX2.out).trans rfl;have d2:=(cR 2 HX2.out).trans rfl;have f0:=Jl HX2.out 0;have f1:=Jl HX2.out 1;have f2:=Jl HX2.out 2;clear hL htb hb2;go_wp2_with fail;have hr6:=ZaV HX2.out (.int .i64 xo) (.int .i64 xv) (.slice A' L'.length c');have g0:=(cR 0 hr6).trans rfl;have g1:=(cR 1 hr6).trans rfl;have g2:=(cR 2 hr6).trans rfl;refine bodyPost_ret (v:=.tuple #[.agg #[.int .i64 xo,.int .i64 xv,.slice A' L'.length c'],.int .i64 0]) (by simp [results,Tryz.results13,go_sem,g0,g1,g2]) rfl ?_;exact ⟨A',c',L',rfl,(HL.out.block (by simp [World.setCell]) (fun b hb=>JR (by
  rcases hb with hb | hb
  ·exact hb.ne ⟨_,_,HX2.out⟩ (by decide)
  ·exact hb.1.ne ⟨_,_,HX2.out⟩ (by decide)) _ _ _)).le (by omega),HTB.out,((HB2.out.setCell nR _).setCell nR _).setCell nR _⟩
theorem Yj {g:List Int} {o:Nat} (h:g.length = o) (ho:o <= 4):gmW o (kOf g) = g:=by
 subst h;unfold gmW kws kOf
 match g,ho with
 | [],_=>rfl
 | [a],_=>simp [kx]
 | [a,b],_=>simp [kx]
 | [a,b,c],_=>simp [kx]
 | [a,b,c,d],_=>simp [kx]
 | _ :: _ :: _ :: _ :: _ :: _,h=>simp at h
def FromG (o:Nat) (v:Int) (m:List (K4 × Int)):Prop:=∀ p ∈ m,1 <= p.2 /\ ∃ g,g.length = o /\ p.1 = kOf g /\ XI 0 v g = true
theorem FromG.put {o:Nat} {v:Int} {m:List (K4 × Int)} (h:FromG o v m) {g:List Int} (hg:g.length = o) (ha:XI 0 v g = true) {n:Int} (hn : 1 <= n):FromG o v (Xr m (kOf g) ((JB m (kOf g)).getD 0 + n)):=fun p hp=>by
 rcases XL hp with rfl | hp
 ·refine ⟨?_,g,hg,rfl,ha⟩;have : 0 <= (JB m (kOf g)).getD 0:=by
   cases hq:JB m (kOf g) with
   | none=>simp
   | some y=>have:=(h _ (JS hq)).1;simp at this ⊢;omega
  show 1 <= _ + n;omega
 ·exact h p hp
theorem Ze {o:Nat} (ho : 1 <= o) {v:Int} (hv : 0 <= v) {s:List Int} (ha:XI 1 v s = true):∀ k,k <= s.length + 1 -> FromG o v (XV o s k)
 | 0,_=>fun p h=>by simp [XV] at h
 | k + 1,hk=>by
  unfold XV;refine (Ze ho hv ha k (by omega)).put (JY ho (by omega)) (Zau fun x hx=>?_) (by omega);rcases YQ hx with rfl | hx
  ·omega
  ·have:=Ya ha hx;omega
theorem Zl {m:List (K4 × Int)} (h:(m.map (·.1)).Nodup) (k:K4) (n:Int):((Xr m k n).map (·.1)).Nodup:=by
 rw [ZeL];cases hq:JB m k with
 | some y=>simpa using h
 | none=>
  simp only [Option.isSome_none,Bool.false_eq_true,if_false];rw [List.nodup_append];refine ⟨h,by simp,?_⟩;intro a ha b hb e;simp at hb;subst hb;subst e;obtain ⟨p,hp,e⟩:=List.mem_map.1 ha;exact XS.1 hq p hp e
theorem VR (o:Nat) (s:List Int):∀ k,((XV o s k).map (·.1)).Nodup
 | 0=>by simp [XV]
 | k + 1=>by unfold XV;exact Zl (VR o s k) _ _
theorem Yh:∀ (l:Tbl) (m:List (K4 × Int)),(m.map (·.1)).Nodup -> ((mrg m l).map (·.1)).Nodup
 | [],_,h=>h
 | _ :: l,_,h=>Yh l _ (Zl h _ _)
theorem YV {o:Nat} {v:Int}:∀ (l:Tbl) (m:List (K4 × Int)),FromG o v m -> (∀ g ∈ l,g.1.length = o /\ XI 0 v g.1 = true /\ 1 <= g.2) -> FromG o v (mrg m l)
 | [],_,h,_=>h
 | g :: l,_,h,hg=>YV l _ (h.put (hg g (by simp)).1 (hg g (by simp)).2.1 (hg g (by simp)).2.2) (fun x hx=>hg x (by simp [hx]))
theorem XY {o v:Int} {l:Tbl} (h:Xz o v l = 0):∀ g ∈ l,(g.1.length:Int) = o /\ XI 0 v g.1 = true /\ 1 <= g.2 /\ g.2 <= 1073741824:=fun g hg=>by
 obtain ⟨_,_,h3⟩:=JK.1 h;obtain ⟨k,hk,rfl⟩:=List.getElem_of_mem hg;have hr:=List.all_eq_true.1 h3 k (List.mem_range.2 hk);unfold Xs at hr;rw [JZ hk] at hr;simp only [Bool.and_eq_true] at hr;exact Xk.1 hr.1
theorem ZgZ {o:Nat} {v:Int} {m:List (K4 × Int)} {T:Tbl} (hz:Xv o v = true) (hf:FromG o v m) (hn:(m.map (·.1)).Nodup) (hl:m.length <= 20000) (hb:∀ p ∈ m,p.2 <= 1073741824)
  (hp:T.Perm (m.map fun p=>(gmW o p.1,p.2))) (hs:T.Pairwise fun x y=>¬ J8 y.1 x.1 < 0):Xz o v T = 0:=by
 have ho4:o <= 4:=by have:=(Jx.1 hz).2.1;omega
 have hlen:T.length = m.length:=by have:=hp.length_eq;simpa using this
 have hnd:(T.map (·.1)).Nodup:=by
  have h1:=hp.map (fun g:List Int × Int=>g.1);rw [List.map_map] at h1;refine h1.nodup_iff.2 ?_;rw [List.Nodup,List.pairwise_map] at hn ⊢;refine hn.imp_of_mem (fun {a b} ha hb' hne e=>hne ?_);obtain ⟨_,g1,q1,q2,_⟩:=hf a ha;obtain ⟨_,g2,r1,r2,_⟩:=hf b hb';simp only [Function.comp] at e;rw [q2,r2,Yj q1 ho4,Yj r1 ho4] at e;rw [q2,r2,e]
 refine JK.2 ⟨by omega,hz,QX fun k hk=>?_⟩;unfold Xs;rw [JZ hk];simp only [Bool.and_eq_true,Bool.or_eq_true,beq_iff_eq,decide_eq_true_eq];refine ⟨?_,?_⟩
 ·have hm:=hp.mem_iff.1 (yM hk);obtain ⟨p,hpm,e⟩:=List.mem_map.1 hm;obtain ⟨h1,g,q1,q2,q3⟩:=hf p hpm;rw [<- e,Xk];simp only;rw [q2,Yj q1 ho4];exact ⟨by omega,q3,h1,hb p hpm⟩
 ·by_cases h0:k = 0
  ·exact .inl h0
  ·refine .inr ?_;have hk1:k - 1 < T.length:=(by omega);rw [JZ hk1];have h1:=List.pairwise_iff_getElem.1 hs (k - 1) k hk1 hk (by omega);rw [List.Nodup,List.pairwise_map] at hnd;have h2:=List.pairwise_iff_getElem.1 hnd (k - 1) k hk1 hk (by omega);have h3:=Vt T[k - 1].1 T[k].1;have h4:J8 T[k - 1].1 T[k].1 ≠ 0:=fun e=>h2 (XU.1 e);omega
end Go.Proofs.YtlgdlenoohkipaaGreat
