/- TalkNil -/
import Derived.Test.YtfbdihpllmhcnaaGreatDoorMTNil19
set_option maxRecDepth 100000
set_option maxHeartbeats 32000000
namespace Go.Proofs.YtfbdihpllmhcnaaGreatDoor
open Go.RowKit Ear

theorem ZeU (q:Rat):Yz q < 0 ↔ q < 0:=by
 have h : 0 <= q.num ↔ 0 <= q:=Rat.num_nonneg
 have h2:q.num < 0 ↔ q < 0:=by rw [<- Int.not_le,<- Rat.not_le];exact not_congr h
 rw [<- h2]
 unfold Yz
 by_cases h3:q.num < 0
 ·rw [if_pos h3];exact ⟨fun _=>h3,fun _=>by decide⟩
 ·rw [if_neg h3]
  refine ⟨fun h4=>?_,fun h4=>absurd h4 h3⟩
  split at h4 <;> omega
theorem ZeT (q:Rat) : 0 < Yz q ↔ 0 < q:=by
 have h : 0 < q.num ↔ 0 < q:=by
  have h1 : 0 <= q.num ↔ 0 <= q:=Rat.num_nonneg
  have h2:q.num = 0 ↔ q = 0:=Rat.num_eq_zero
  constructor
  ·intro h
   have:=h1.1 (by omega)
   rcases Rat.le_iff_lt_or_eq.1 this with h3 | h3
   ·exact h3
   ·exact absurd (h2.2 h3.symm) (by omega)
  ·intro h
   have h3:=h1.2 (Rat.le_of_lt h)
   rcases Int.lt_or_eq_of_le h3 with h4 | h4
   ·exact h4
   ·exact absurd (h2.1 h4.symm) (fun e=>by rw [e] at h;exact absurd h (Rat.lt_irrefl))
 rw [<- h]
 unfold Yz
 by_cases h3:q.num < 0
 ·rw [if_pos h3];exact ⟨fun h4=>by omega,fun h4=>by omega⟩
 ·rw [if_neg h3]
  by_cases h4:q.num = 0
  ·rw [if_pos h4];omega
  ·rw [if_neg h4];omega
theorem Fq.drewn {w:World} {x:Fr} {q:Rat} (h:Fq w x q):Fq w.drew x q:=h.below bR.drew
theorem Zdg (a b:Rat):Yz (a + -b) < 0 ↔ a < b:=by
 rw [ZeU]
 constructor
 ·intro h;grind
 ·intro h;grind
theorem Zdh (a b:Rat) : 0 < Yz (a + -b) ↔ b < a:=by
 rw [ZeT]
 constructor
 ·intro h;grind
 ·intro h;grind
theorem Zhd {G:Nat -> Nat -> Rat} {a b:Nat} {q:Rat} {i j:Nat} (h:G i j < q):upd G (some (a,b,q)) i j = some (i,j,G i j):=by unfold upd;simp only;rw [if_pos h]
theorem Zhe {G:Nat -> Nat -> Rat} {a b:Nat} {q:Rat} {i j:Nat} (h:¬ G i j < q):upd G (some (a,b,q)) i j = some (a,b,q):=by unfold upd;simp only;rw [if_neg h]
theorem ZhP {most:Int} {q:Rat} {f:Nat} {S:List Clu} (h:S.length <= 1):clu most q f S = S:=by cases f with | zero=>rfl | succ f=>unfold clu;rw [if_pos h]
theorem ZhI {va vb:List (List Int)} {n:Nat} (ha:Vcs n va) (hb:Vcs n vb) (hn:va.length <= 10000) (hm:vb.length <= 10000) (h0 : 0 < va.length) (hk:n <= 1000) (m0 : 0 < vb.length):Sz (Zfo va vb) 90000:=by
 unfold Zfo
 have e:len0 va = n:=ha.len0 h0
 have h1:=ZhJ ha hb hn hm (len0 va) (by omega)
 have hP:va.length * vb.length <= 10000 * 10000:=Nat.mul_le_mul hn hm
 have hP2:va.length * vb.length * (va.length + vb.length) <= 10000 * 10000 * 20000:=Nat.mul_le_mul hP (by omega)
 have hP0 : 0 < va.length * vb.length * (va.length + vb.length):=Nat.mul_pos (Nat.mul_pos h0 m0) (by omega)
 generalize va.length * vb.length * (va.length + vb.length) = P at *
 have h2:Sz (((P:Nat):Int):Rat) 2:=Sz.i64 (by omega) (by omega)
 have hP':(((P:Nat):Int):Rat) ≠ 0:=by
  have:((P:Nat):Int) ≠ 0:=by omega
  exact_mod_cast this
 have h3:Sz ((((P:Nat):Int):Rat)⁻¹) 2:=by
  obtain ⟨_,i2,i3⟩:=Ul hP'
  exact ⟨by rw [i2];exact h2.den,by rw [i3];exact h2.num⟩
 exact (h1.mul h3).mono (by decide)
def Zdf:Value -> Nat | .slice _ n _=>n | _=>0
theorem Zfx {most:Int} {q:Rat} {f:Nat} {S:List Clu} (h:Qx most q S = true):clu most q f S = S:=by
 cases f with
 | zero=>rfl
 | succ f=>unfold clu;split;rfl;first | rfl | rw [if_pos h]
theorem Zf0 {most:Int} {q q0:Rat} {f a b:Nat} {S:List Clu} (hl : 1 < S.length) (h:Qx most q S = false) (hn:Zg9 S = some (a,b,q0)):clu most q (f + 1) S = clu most q f (QI S a b):=by
 conv=>lhs;unfold clu
 rw [if_neg (by omega),if_neg (by rw [h];decide),hn]
 rfl
def Zg2 (out:List Int) (w:World) (e:Ending) (w':World):Prop:=
 ∃ A c,e = .returned (.tuple #[.slice A out.length c,.int .i64 0]) /\ w'.ownsRow w.heap.size 3 1 (.slice A out.length c) out.length (ics out) /\ Below w.heap.size w w'
theorem ZcN (A:Option Addr) (c:Nat) (G:List Grp) (most:Int) (x:Fr) (q:Rat) (w:World) (h:GG w A G) (hG:Hid (ZdU (gvs G) = 0)) (hm : 1 <= most) (hx:Fv w x q) (fx:Few x 90000) (hq:¬ Yz q < 0) :
  Calls Tryz.prog 11 #[.slice A G.length c,.int .i64 most,x.val] w (Zg2 (Zg8 (clu most q G.length (J9 (gvs G))) G.length) w):=by
 obtain ⟨i0,hi0,hz0,hz1,hz2⟩:=info_parts Vy
 have CI:=zH hi0;have CZ0:=zH hz0;have CZ1:=zH hz1;have CZ2:=zH hz2
 clear hi0 hz0 hz1 hz2
 obtain ⟨k0,hk0,hy0,hy1,hy2⟩:=info_parts YC
 have KI:=zH hk0;have KZ0:=zH hy0;have KZ1:=zH hy1;have KZ2:=zH hy2
 clear hk0 hy0 hy1 hy2
 obtain ⟨l0,hk0,hy0,hy1,hy2⟩:=info_parts Um
 have LI:=zH hk0;have LZ0:=zH hy0;have LZ1:=zH hy1;have LZ2:=zH hy2
 clear hk0 hy0 hy1 hy2
 obtain ⟨hg1,hg2,hg3,hg4⟩:=Zbm hG.out
 have hn60:G.length <= 60:=by simpa using hg1
 have HGV:=zH hg4
 obtain ⟨W0,hW0⟩:∃ W0:World,W0 = w.alloc (.cells #[.bool x.neg,.slice x.A x.N.length x.c,.slice x.B x.D.length x.d] 26):=⟨_,rfl⟩
 have HB0:Hid (Below w.heap.size w W0):=zH (by rw [hW0];exact bR.alloc nR _)
 have HX0:Hid (Fb W0 w.heap.size x):=zH (by rw [hW0];exact Fb.new w x)
 have HV0:=zH (hx.below HB0.out)
 have hs0:W0.heap.size = w.heap.size + 1:=by rw [hW0];simp
 have HGG:=zH h
 have HGW:=zH (h.below HB0.out)
 have C1:=zH (Uo A c G W0 HGW.out (by omega) (zH (fun g hg=>by
  have h1:=List.length_flatten ▸ hg2
  have h2:=Xl List.length (gvs G) (List.mem_map_of_mem (f:=fun g:Grp=>Ju g.2.2) hg)
  simp at h2
  have e:(List.map List.length (gvs G)).sum = (gvs G).flatten.length:=(List.length_flatten ..).symm
  have h3:(Ju g.2.2).length <= (List.map List.length (gvs G)).sum:=Xl List.length (gvs G) (List.mem_map_of_mem (f:=fun g:Grp=>Ju g.2.2) hg)
  simp only [List.length_map] at h3
  omega)) 0 hG)
 have hmost:¬ most < 1:=by omega
 clear h hx hg1 hg2 hg4
 obtain ⟨c0,c1,c2,f0,f1,f2⟩:=HX0.out.facts
 go_enter Tryz.func11,Tryz.ntmps11
 go_wp2_with fail
 rw [<- hW0]
 clear hW0
 go_step3
 go_wp2_with fail
 refine C1.out.mono ?_
 rintro e w' ⟨rfl,rfl⟩
 clear C1
 go_wp2_with fail
 refine (V6 x q W0 HV0.out (by exact ⟨tR fx.n (by decide),tR fx.d (by decide)⟩) _ (zH rfl)).mono ?_
 rintro e W1 ⟨rfl,hb1⟩
 have HB1:=zH (HB0.out.trans (hb1.mono (by omega)))
 have HX1:=zH (HX0.out.below hb1)
 have HV1:=zH (HV0.out.below hb1)
 have HGW1:=zH (HGW.out.below hb1)
 have hs1:W0.heap.size <= W1.heap.size:=hb1.size
 clear hb1 c0 c1 c2 f0 f1 f2 HX0 HV0 HGW
 go_wp2_with fail
 have HI0:Hid (CLs W1 W1 W1.heap.size none 0 []):=zH CLs.nil
 have HP0:Hid (([]:List Cl).map Cl.pure = J9 ((gvs G).take 0)):=zH (by simp [J9])
 have HR0:Hid (Below W1.heap.size W1 W1):=zH bR
 have HGL:Hid ((gvs G).length = G.length):=zH (by simp)
 go_loopw [9,37] (fun l i wr=>∃ (k:Nat) (Cs:List Cl) (B:Option Addr) (c':Nat),k <= G.length /\ i = .int .i64 k /\ l = .slice B k c' /\ Hid (Cs.length = k) /\ Hid (CLs W1 wr W1.heap.size B c' Cs) /\ Hid (Cs.map Cl.pure = J9 ((gvs G).take k)) /\ Hid (Below W1.heap.size W1 wr)) (fun _ i _=>G.length - (intOf i).toNat)
 case atStart=>exact ⟨0,[],none,0,by omega,rfl,rfl,zH rfl,HI0,HP0,HR0⟩
 case round=>
  obtain ⟨k,Cs,B,c',hk,rfl,rfl,HLN,HI,HP,HB⟩:=hrel
  clear HI0 HP0 HR0
  obtain ⟨Wr,rfl⟩:∃ X,X = wr:=⟨_,rfl⟩
  have hsr:W1.heap.size <= Wr.heap.size:=HB.out.size
  by_cases hlt:k < G.length
  ·obtain ⟨bk,off,rfl,hbk,hc⟩:=(HGW1.out.below HB.out).lies.gat hlt
   have HL:=zH (HGW1.out.grp _ (gM hlt))
   have HSN:Hid (J9 ((gvs G).take (k + 1)) = J9 ((gvs G).take k) ++ [([(k:Int)],Ju G[k].2.2)]):=zH (by
    rw [List.take_succ_eq_append_getElem (by simpa using hlt),Za3]
    simp
    omega)
   have hgl:G[k].2.2.length <= 10000:=by
    have h3:=Xl List.length (gvs G) (List.mem_map_of_mem (f:=fun g:Grp=>Ju g.2.2) (gM hlt))
    rw [<- List.length_flatten] at h3
    have:=(Zbm hG.out).2.1
    simp only [List.length_map] at h3
    omega
   have HGK:(gvs G)[k]? = some (Ju G[k].2.2):=by simp [gE hlt]
   generalize G[k] = g at *
   obtain ⟨gA,gc,gL⟩:=g
   simp only at *
   have hgp : 0 < gL.length:=by
    have:=(HGV.out (Ju gL) (by
     have:(gvs G)[k]? = some (Ju gL):=HGK
     exact List.mem_of_getElem? this)).1
    simpa using this
   clear HGK
   go_wp2_with fail
   obtain ⟨V,hV⟩:∃ V:World,V = Wr.alloc (.cells #[.int .i64 (k:Int)] 3):=⟨_,rfl⟩
   have HBV:Hid (Below Wr.heap.size Wr V):=zH (by rw [hV];exact bR.alloc nR _)
   have hVs:V.heap.size = Wr.heap.size + 1:=by rw [hV];simp
   have HOM:Hid (V.ownsRow W1.heap.size 3 1 (.slice (some ⟨Wr.heap.size,0,none⟩) 1 1) 1 (ics [(k:Int)])):=zH (by rw [hV];exact ⟨rfl,.inr ⟨Wr.heap.size,1,_,rfl,hsr,heap_alloc_new Wr _,Nat.le_refl _,by unfold maxLen;omega,rfl,rfl⟩⟩)
   rw [<- hV]
   clear hV
   refine (ZaP gA gc gL.length (lcs gL) V ((HL.out.below HB.out).below HBV.out).lies (by simp) (Zbj gL) (fun e=>by
    have h9:=Y6 HL.out.lies e
    have h8:=congrArg List.length h9
    simp at h8
    subst h8
    simp at hgp) (by omega)).mono ?_
   rintro e V2 ⟨B2,d2,rfl,own2,hb2⟩
   have HOV:=zH (JB own2 (show W1.heap.size <= V.heap.size by omega))
   have HB2:=zH (HBV.out.trans (hb2.mono (by omega)))
   have HOM2:=zH (Jf HOM.out hb2)
   have HI2:=zH (HI.out.below HB2.out)
   have HRW:Hid (V2.ownsRow W1.heap.size 117 2 (.slice B k c') k (ccs Cs)):=zH (by have:=HI2.out.row;rwa [HLN.out] at this)
   have hs2:V.heap.size <= V2.heap.size:=hb2.size
   have HFR:Hid (∀ b,blk B2 = some b -> V.heap.size <= b):=zH (fun b hb=>(own2.lt b (by rw [Jm];exact hb)).1)
   clear own2 hb2 HOM
   go_wp2_with (at_builtin;refine Jd _ rfl (.tmp 42) (.tmp 48) _ rfl W1.heap.size 117 i0 _ 2 48 Tryz.underlying114 CI.out CZ0.out CZ1.out CZ2.out rfl (by omega) (.slice B k c') k (ccs Cs) rfl (HRW.out.alloc _) (some ⟨V2.heap.size,0,none⟩) 1 1 [.slice (some ⟨Wr.heap.size,0,none⟩) 1 1,.slice B2 gL.length d2] rfl (fun e=>by cases e) (ZdE _ _ _ _) rfl (by simp [Value.oneCell']) (by unfold maxLen;omega) (by omega) (by simp;omega) (k + 1) rfl ?_;intro A4 c4 w4 ho4 hg4 _;have HO4:=zH ho4;have HG4:=zH hg4;clear ho4 hg4)
   have hall:Below V2.heap.size V2 (V2.alloc (.cells #[.slice (some ⟨Wr.heap.size,0,none⟩) 1 1,.slice B2 gL.length d2] 117)):=bR.alloc nR _
   refine ⟨⟨k + 1,Cs ++ [⟨some ⟨Wr.heap.size,0,none⟩,1,[(k:Int)],B2,d2,gL⟩],A4,c4,by omega,by go_num,rfl,zH (by rw [List.length_append,HLN.out];rfl),zH ?_,zH ?_,zH ?_⟩,by simp [intOf];omega⟩
   ·refine CLs.snoc (n:=k) (HI2.out.below hall) HLN.out.symm (Jf HOM2.out hall) (Jf HOV.out hall) HL.out.inn HG4.out HO4.out (fun y hy b h1 h2=>?_) (fun y hy b h1 h2=>?_)
    ·have h3:=((HI.out.mem y hy).lt b (by rw [Jm];exact h1)).2
     simp [blk,Value.ownBlock] at h2
     omega
    ·have h3:=((HI.out.vec y hy).lt b (by rw [Jm];exact h1)).2
     have h4:=HFR.out b h2
     omega
   ·rw [List.map_append,HP.out,HSN.out]
    rfl
   ·exact ((HB.out.trans (HB2.out.mono hsr)).alloc (by omega) _).grown HG4.out (by simp;omega) (fun b e=>((HRW.out.alloc (.cells #[.slice (some ⟨Wr.heap.size,0,none⟩) 1 1,.slice B2 gL.length d2] 117)).lt b e).1)
  ·obtain rfl:k = G.length:=by omega
   have hP:=HP.out
   rw [List.take_of_length_le (by rw [HGL.out];omega)] at hP
   have HP2:=zH hP
   have HS:Hid (CluI (len0 (gvs G).flatten) G.length (Cs.map Cl.pure)):=zH (by rw [hP];have:=Zc4 hG.out;rwa [HGL.out] at this)
   have HE:Hid (clu most q G.length (J9 (gvs G)) = clu most q Cs.length (Cs.map Cl.pure)):=zH (by rw [hP,HLN.out])
   clear hP HP hmost hq
   go_wp2_with fail
   go_step3
   generalize hd:len0 (gvs G).flatten = d at *
   have HD:=zH hd
   clear hd
   go_upto_block 2 with fail
   go_cut [9] from 51 to 134 (fun t9 wx=>∃ (m:Nat) (Cs:List Cl) (B:Option Addr) (c':Nat),t9 = .slice B m c' /\ m <= G.length /\ Hid (Cs.length = m) /\ Hid (CLs W1 wx W1.heap.size B c' Cs) /\ Hid (Cs.map Cl.pure = clu most q G.length (J9 (gvs G))) /\ Hid (CluI d G.length (Cs.map Cl.pure)) /\ Hid (Below W1.heap.size W1 wx))
   case rest=>
    obtain ⟨m,Cs1,B1,c1,rfl,hmG,HLN1,HI1,HOUT,HS1,HB1'⟩:=hcut
    obtain ⟨Wq,hmk,ho5,hb5⟩:=ZR wc G.length (by omega) wc.heap.size nR
    have HO5:Hid (Wq.ownsRow wc.heap.size 3 1 (.slice (some ⟨wc.heap.size,0,none⟩) G.length G.length) G.length (ics (ZaS (Cs1.map Cl.pure) G.length 0))):=zH ho5
    have HB5:=zH hb5
    clear ho5 hb5
    go_wp2_with fail
    go_loopw [140] (fun t wr=>∃ k:Nat,k <= m /\ t = .int .i64 k /\ Hid (wr.ownsRow wc.heap.size 3 1 (.slice (some ⟨wc.heap.size,0,none⟩) G.length G.length) G.length (ics (ZaS (Cs1.map Cl.pure) G.length k))) /\ Hid (Below wc.heap.size wc wr)) (fun t _=>m - (intOf t).toNat)
    case atStart=>exact ⟨0,by omega,rfl,HO5,HB5⟩
    case round=>
     obtain ⟨k,hk,rfl,HOk,HBk⟩:=hrel
     clear HO5 HB5
     obtain ⟨Wr,rfl⟩:∃ X,X = wr:=⟨_,rfl⟩
     by_cases hkm:k < m
     ·have hkm':(k:Int) < (m:Int):=by omega
      obtain ⟨X,hX⟩:∃ X,Cs1[k]? = some X:=⟨_,gE (by rw [HLN1.out];exact hkm)⟩
      obtain ⟨g,rfl,-⟩:=(HI1.out.below HBk.out).at_ (k:=k) (by rw [HLN1.out];exact hkm)
      obtain ⟨x0,x1,-,-,xm,-,-,-,hg1,hg2⟩:=(HI1.out.below HBk.out).atX hX
      have hpm:X.pure ∈ Cs1.map Cl.pure:=List.mem_map_of_mem (List.mem_of_getElem? hX)
      have HMB:Hid (∀ z ∈ X.m,0 <= z /\ z < (G.length:Int)):=zH (HS1.out.mem _ hpm)
      have hxl:X.m.length <= G.length:=(HS1.out.len hpm).2
      have HOS:Hid (ZaS (Cs1.map Cl.pure) G.length (k + 1) = Yr (ZaS (Cs1.map Cl.pure) G.length k) X.m (k:Int)):=zH (by
       show Yr _ (((Cs1.map Cl.pure)[k]?.getD ([],[])).1) _ = _
       rw [List.getElem?_map,hX]
       rfl)
      have XM:=zH xm
      have HXO:=zH ((HI1.out.atX hX).2.2.2.2.1)
      clear hX xm hpm
      go_wp2_with fail
      obtain ⟨V,hV⟩:∃ V:World,V = Wr.alloc (.cells #[.slice X.A X.m.length X.c,.slice X.B X.v.length X.d] 117):=⟨_,rfl⟩
      have HBV:Hid (Below Wr.heap.size Wr V):=zH (by rw [hV];exact bR.alloc nR _)
      rw [<- hV]
      clear hV
      have HOV:Hid (V.ownsRow wc.heap.size 3 1 (.slice (some ⟨wc.heap.size,0,none⟩) G.length G.length) G.length (ics (Yr (ZaS (Cs1.map Cl.pure) G.length k) (X.m.take 0) (k:Int)))):=zH (Jf HOk.out HBV.out)
      have HWV:=zH (HBk.out.trans (HBV.out.mono HBk.out.size))
      have HXV:=zH (Lies.of_own (XM.out))
      have hXlt:∀ b,blk X.A = some b -> b < wc.heap.size:=by
       obtain ⟨X',hX'⟩:∃ X',X' = X:=⟨_,rfl⟩
       intro b hb
       exact (HXO.out.lt b (by rw [Jm];exact hb)).2
      have HXL:=zH hXlt
      clear hXlt x0 x1
      go_loopw [148] (fun t wr=>∃ j:Nat,j <= X.m.length /\ t = .int .i64 j /\ Hid (wr.ownsRow wc.heap.size 3 1 (.slice (some ⟨wc.heap.size,0,none⟩) G.length G.length) G.length (ics (Yr (ZaS (Cs1.map Cl.pure) G.length k) (X.m.take j) (k:Int)))) /\ Hid (Below wc.heap.size wc wr)) (fun t _=>X.m.length - (intOf t).toNat)
      case atStart=>exact ⟨0,by omega,rfl,HOV,HWV⟩
      case round=>
       obtain ⟨j,hj,rfl,HOj,HBj⟩:=hrel
       clear HOV HWV
       obtain ⟨Wj,rfl⟩:∃ X,X = wr:=⟨_,rfl⟩
       by_cases hjl:j < X.m.length
       ·have hjl':(j:Int) < (X.m.length:Int):=by omega
        have hb9:=HMB.out _ (gM hjl)
        have HPS:=zH (Zbb (ZaS (Cs1.map Cl.pure) G.length k) X.m (k:Int) hjl)
        obtain ⟨bx,ox,eA,hbx,hcx⟩:=((Lies.of_own HXO.out).below HBj.out).at_ (k:=j) (by exact hjl)
        have hgx:X.m[j]?.getD 0 = X.m[j]:=by rw [gE hjl];rfl
        rw [hgx] at hcx
        generalize X.m[j] = z at *
        obtain ⟨zn,rfl⟩:∃ zn:Nat,z = (zn:Int):=⟨z.toNat,by omega⟩
        have hzn:zn < G.length:=by omega
        have hst:=HOj.out.stored zn (.int .i64 (k:Int))
        have hlen9:(Yr (ZaS (Cs1.map Cl.pure) G.length k) (X.m.take j) (k:Int)).length = G.length:=by rw [ZH,Uf]
        have hcz:Wj.cell? ⟨wc.heap.size,zn,none⟩ = some (.int .i64 ((Yr (ZaS (Cs1.map Cl.pure) G.length k) (X.m.take j) (k:Int))[zn]?.getD 0)):=by
         rw [HOj.out.cellAt zn (by omega),List.getElem?_map,gE (by omega)]
         rfl
        have hfz:=HOj.out.frozenAt zn
        have HST:=zH hst
        generalize (Yr (ZaS (Cs1.map Cl.pure) G.length k) (X.m.take j) (k:Int))[zn]?.getD 0 = old at *
        rw [eA]
        clear hst hlen9 hgx
        go_wp2_with fail
        refine ⟨⟨j + 1,by omega,by go_num,zH ?_,zH ?_⟩,by simp [intOf];omega⟩
        ·have h9:=HST.out.1
         rw [HPS.out,Int.toNat_natCast]
         unfold ics at h9 ⊢
         rw [<- List.map_set] at h9
         exact h9
        ·exact HBj.out.setCell nR _
       ·have hjl':¬ (j:Int) < (X.m.length:Int):=by omega
        go_wp2_with fail
        have ht:=HOj.out
        rw [List.take_of_length_le (by omega)] at ht
        exact ⟨⟨k + 1,by omega,by go_num,zH (by rw [HOS.out];exact ht),HBj⟩,by simp [intOf];omega⟩
     ·have hkm':¬ (k:Int) < (m:Int):=by omega
      have hkm2:k = m:=by omega
      go_wp2_with fail
      go_ret2
      have hO:ZaS (Cs1.map Cl.pure) G.length k = Zg8 (clu most q G.length (J9 (gvs G))) G.length:=by
       rw [<- HOUT.out]
       unfold Zg8
       rw [List.length_map,HLN1.out,hkm2]
      have hL:(Zg8 (clu most q G.length (J9 (gvs G))) G.length).length = G.length:=Uf _ _ _
      have ho:=HOk.out
      rw [hO] at ho
      have hw:w.heap.size <= wc.heap.size:=tR HB1.out.size HB1'.out.size
      exact ⟨some ⟨wc.heap.size,0,none⟩,G.length,by rw [hL];rfl,by rw [hL];exact JB ho hw,HB1.out.trans ((HB1'.out.trans (HBk.out.mono HB1'.out.size)).mono HB1.out.size)⟩
   case first=>
   go_wp2_with fail
   go_loopw [9] (fun l wr=>∃ (m:Nat) (Cs:List Cl) (B:Option Addr) (c':Nat),m <= G.length /\ l = .slice B m c' /\ Hid (Cs.length = m) /\ Hid (CLs W1 wr W1.heap.size B c' Cs) /\ Hid (CluI d G.length (Cs.map Cl.pure)) /\ Hid (clu most q G.length (J9 (gvs G)) = clu most q Cs.length (Cs.map Cl.pure)) /\ Hid (Below W1.heap.size W1 wr)) (fun l _=>Zdf l)
   case atStart=>exact ⟨G.length,Cs,B,c',by omega,rfl,HLN,HI,HS,HE,HB⟩
   case round=>
    obtain ⟨m,Cs1,B1,c1,hmG,rfl,HLN1,HI1,HS1,HE1,HB1'⟩:=hrel
    clear HI HS HE HB HLN HP2
    obtain ⟨Wa,rfl⟩:∃ X,X = wr:=⟨_,rfl⟩
    by_cases hm1 : 1 < m
    ·have hm1':(1:Int) < (m:Int):=by omega
     obtain ⟨g,rfl,hgb,hgl,-⟩:=HI1.out.at_ (k:=0) (by rw [HLN1.out];omega)
     have HCV:Hid (∀ i X,Cs1[i]? = some X -> ∀ u,Below Wa.heap.size Wa u -> u.cell? ⟨g,i * 2 + 1,none⟩ = some (.slice X.B X.v.length X.d)):=zH (fun i X hX u hu=>by
      obtain ⟨hi',rfl⟩:=List.getElem?_eq_some_iff.1 hX
      obtain ⟨g',eg,_,_,_,_,h2,_⟩:=(HI1.out.below hu).at_ (k:=i) hi'
      injection eg with eg
      injection eg with eg
      subst eg
      exact h2)
     have HGP:Hid (∀ u,Below Wa.heap.size Wa u -> ∀ i j X Y,Cs1[i]? = some X -> Cs1[j]? = some Y -> Calls Tryz.prog 35 #[.slice X.B X.v.length X.d,.slice Y.B Y.v.length Y.d] u (Zx (cG (Cs1.map Cl.pure) i j) u)):=zH (fun u hu i j X Y hX hY=>by
      obtain ⟨hi,eX⟩:=List.getElem?_eq_some_iff.1 hX
      obtain ⟨hj,eY⟩:=List.getElem?_eq_some_iff.1 hY
      have e:cG (Cs1.map Cl.pure) i j = Zfo (Ju X.v) (Ju Y.v):=by
       unfold cG
       rw [List.getElem?_map,List.getElem?_map,hX,hY]
       rfl
      rw [e]
      have mX:X.pure ∈ Cs1.map Cl.pure:=List.mem_map_of_mem (by rw [<- eX];exact gM hi)
      have mY:Y.pure ∈ Cs1.map Cl.pure:=List.mem_map_of_mem (by rw [<- eY];exact gM hj)
      have lX:=(HI1.out.below hu).ll (HB1'.out.trans (hu.mono HB1'.out.size)) hi
      have lY:=(HI1.out.below hu).ll (HB1'.out.trans (hu.mono HB1'.out.size)) hj
      rw [eX] at lX
      rw [eY] at lY
      have p1:=HS1.out.pos _ mX
      have p2:=HS1.out.pos _ mY
      have q1:=(HS1.out.len mX).1
      have q2:=(HS1.out.len mY).1
      simp only [Cl.pure,Ju,List.length_map] at p1 p2 q1 q2
      exact ZbJ X.B Y.B X.d Y.d d X.v Y.v u lX lY (zH (HS1.out.vcs _ mX)) (zH (HS1.out.vcs _ mY)) p1 p2 q1 q2 (by omega))
     have HSZ:Hid (∀ i j,i < m -> j < m -> Sz (cG (Cs1.map Cl.pure) i j) 90000):=zH (fun i j hi hj=>by
      have hi':i < (Cs1.map Cl.pure).length:=by rw [List.length_map,HLN1.out];exact hi
      have hj':j < (Cs1.map Cl.pure).length:=by rw [List.length_map,HLN1.out];exact hj
      unfold cG
      rw [gE hi',gE hj']
      have mX:=gM hi'
      have mY:=gM hj'
      exact ZhI (HS1.out.vcs _ mX) (HS1.out.vcs _ mY) (HS1.out.len mX).1 (HS1.out.len mY).1 (HS1.out.pos _ mX) (by omega) (HS1.out.pos _ mY))
     go_wp2_with fail
     obtain ⟨V,hV⟩:∃ V:World,V = Wa.alloc (.cells #[.bool false,.slice none 0 0,.slice none 0 0] 26):=⟨_,rfl⟩
     have HVB:Hid (Below Wa.heap.size Wa V):=zH (by rw [hV];exact bR.alloc nR _)
     have HVX:Hid (Fb V Wa.heap.size Ye):=zH (by rw [hV];exact (Bt.new _ Wa).zero)
     have HVQ:Hid (Fq V Ye (nQ (Yd (cG (Cs1.map Cl.pure)) m 0))):=zH (Fq.zero V)
     rw [<- hV]
     clear hV
     generalize hGg:cG (Cs1.map Cl.pure) = Gf at *
     have HGf:=zH hGg
     clear hGg
     go_loopw [13,14,56] (fun a b t wr=>∃ (i:Nat) (r:Fr),i <= m /\ t = .int .i64 i /\ a = .int .i64 (nA (Yd Gf m i)) /\ b = .int .i64 (nB (Yd Gf m i)) /\ Hid (Fb wr Wa.heap.size r) /\ Hid (Fq wr r (nQ (Yd Gf m i))) /\ Hid (Below Wa.heap.size Wa wr)) (fun _ _ t _=>m - (intOf t).toNat)
     case atStart=>exact ⟨0,Ye,by omega,rfl,rfl,rfl,HVX,HVQ,HVB⟩
     case round=>
      obtain ⟨i,r0,hi,rfl,rfl,rfl,HRb,HRq,HRB⟩:=hrel
      clear HVB HVX HVQ
      obtain ⟨Wb,rfl⟩:∃ X,X = wr:=⟨_,rfl⟩
      by_cases hilt:i < m
      ·have hilt':(i:Int) < (m:Int):=by omega
       have p1:IntKind.i64.wrap ((i:Int) + 1) = (i:Int) + 1:=IntWalk.i64_in _ (by omega)
       go_wp2_with fail
       have HQ0:Hid (Fq Wb r0 (nQ (Za8 Gf i (Yd Gf m i) 0))):=HRq
       go_loopw [13,14,16] (fun a b t wr=>∃ (k:Nat) (r:Fr),i + 1 + k <= m /\ t = .int .i64 ((i + 1 + k:Nat):Int) /\ a = .int .i64 (nA (Za8 Gf i (Yd Gf m i) k)) /\ b = .int .i64 (nB (Za8 Gf i (Yd Gf m i) k)) /\ Hid (Fb wr Wa.heap.size r) /\ Hid (Fq wr r (nQ (Za8 Gf i (Yd Gf m i) k))) /\ Hid (Below Wa.heap.size Wa wr)) (fun _ _ t _=>m - (intOf t).toNat)
       case atStart=>exact ⟨0,r0,by omega,by simp,rfl,rfl,HRb,HQ0,HRB⟩
       case round=>
        obtain ⟨k,r1,hk,rfl,rfl,rfl,HSb,HSq,HSB⟩:=hrel
        clear HRb HRq HRB HQ0
        obtain ⟨Wc,rfl⟩:∃ X,X = wr:=⟨_,rfl⟩
        obtain ⟨j,hj⟩:∃ j,j = i + 1 + k:=⟨_,rfl⟩
        have HKU:Hid (Za8 Gf i (Yd Gf m i) (k + 1) = upd Gf (Za8 Gf i (Yd Gf m i) k) i j):=zH (by rw [hj];rfl)
        rw [<- hj]
        by_cases hjlt:j < m
        ·have hjlt':(j:Int) < (m:Int):=by omega
         have hilm:(i:Int) < (m:Int):=by omega
         obtain ⟨X,hX⟩:∃ X,Cs1[i]? = some X:=⟨_,gE (by rw [HLN1.out];exact hilt)⟩
         obtain ⟨Y,hY⟩:∃ Y,Cs1[j]? = some Y:=⟨_,gE (by rw [HLN1.out];exact hjlt)⟩
         have HX:=zH hX
         have HY:=zH hY
         clear hX hY
         have HC:Hid (∀ u,Below Wc.heap.size Wc u -> u.cell? ⟨g,i * 2 + 1,none⟩ = some (.slice X.B X.v.length X.d) /\ u.cell? ⟨g,j * 2 + 1,none⟩ = some (.slice Y.B Y.v.length Y.d)):=zH (fun u hu=>⟨HCV.out i X HX.out u (HSB.out.trans (hu.mono HSB.out.size)),HCV.out j Y HY.out u (HSB.out.trans (hu.mono HSB.out.size))⟩)
         have hw0:Wa.heap.size < Wc.heap.size:=HSb.out.lt
         have HJ:=zH hj
         clear hj
         go_wp2_with fail
         refine XW 159 12 [17] rfl (by kernel_rfl) (by kernel_rfl) (by kernel_rfl) (by kernel_rfl) (by kernel_rfl) (fun u=>Below Wc.heap.size Wc u) (fun u u'=>Below u.heap.size u u') TSt (Gl [isV (.slice (some ⟨g,0,none⟩) m c1),isV (.int .i64 (i:Int)),isV (.pointer (some ⟨g,i * 2,none⟩)),isV (.pointer (some ⟨g,i * 2 + 1,none⟩)),isV (.slice X.B X.v.length X.d),isV (.slice (some ⟨g,0,none⟩) m c1),isV (.int .i64 (j:Int)),isV (.pointer (some ⟨g,j * 2,none⟩)),isV (.pointer (some ⟨g,j * 2 + 1,none⟩)),isV (.slice Y.B Y.v.length Y.d),isFq (Gf i j),isFb Wc.heap.size,isT]) (HoldsQ 17 Wc.heap.size (Gf i j)) (Gl.keep (by
           intro p hp
           simp only [List.mem_cons,List.not_mem_nil,or_false] at hp
           rcases hp with rfl | rfl | rfl | rfl | rfl | rfl | rfl | rfl | rfl | rfl | rfl | rfl | rfl
           ·exact Keeps.isV _
           ·exact Keeps.isV _
           ·exact Keeps.isV _
           ·exact Keeps.isV _
           ·exact Keeps.isV _
           ·exact Keeps.isV _
           ·exact Keeps.isV _
           ·exact Keeps.isV _
           ·exact Keeps.isV _
           ·exact Keeps.isV _
           ·exact Keeps.isFq _
           ·exact Keeps.isFb _
           ·exact Keeps.isT)) (fun j v w w' _=>Gl.keepS (by
           intro p hp
           simp only [List.mem_cons,List.not_mem_nil,or_false] at hp
           rcases hp with rfl | rfl | rfl | rfl | rfl | rfl | rfl | rfl | rfl | rfl | rfl | rfl | rfl
           ·exact KeepS.isV _
           ·exact KeepS.isV _
           ·exact KeepS.isV _
           ·exact KeepS.isV _
           ·exact KeepS.isV _
           ·exact KeepS.isV _
           ·exact KeepS.isV _
           ·exact KeepS.isV _
           ·exact KeepS.isV _
           ·exact KeepS.isV _
           ·exact KeepS.isFq _
           ·exact KeepS.isFb _
           ·exact KeepS.isT) j v w w') HoldsQ.keep ?_ ?_ (fun _ _=>trivial) ?_
         ·exact (Below.refl _ Wc).drew
         ·simp only [Yx,Jp]
          refine ⟨?_,?_,?_,?_,?_,?_,?_,?_,?_,?_,?_,?_,?_,trivial⟩
          ·intro bb u su dp kp K hK
           have e9:gT bb 9 = .slice (some ⟨g,0,none⟩) m c1:=kp 9 (by kernel_rfl)
           go_simp
           exact hK _ _ su bR rfl
          ·intro bb u su dp kp K hK
           have e15:gT bb 15 = .int .i64 (i:Int):=kp 15 (by kernel_rfl)
           go_simp
           exact hK _ _ su bR rfl
          ·intro bb u su dp kp K hK
           have e67:gT bb 67 = .slice (some ⟨g,0,none⟩) m c1:=dp 0 _ rfl (by kernel_rfl)
           have e68:gT bb 68 = .int .i64 (i:Int):=dp 1 _ rfl (by kernel_rfl)
           go_simp
           exact hK _ _ su bR rfl
          ·intro bb u su dp kp K hK
           have e69:gT bb 69 = .pointer (some ⟨g,i * 2,none⟩):=dp 2 _ rfl (by kernel_rfl)
           go_simp
           exact hK _ _ su bR rfl
          ·intro bb u su dp kp K hK
           have e70:gT bb 70 = .pointer (some ⟨g,i * 2 + 1,none⟩):=dp 3 _ rfl (by kernel_rfl)
           obtain ⟨cc0,cc1⟩:=HC.out u su
           go_simp
           exact hK _ _ su bR rfl
          ·intro bb u su dp kp K hK
           have e9:gT bb 9 = .slice (some ⟨g,0,none⟩) m c1:=kp 9 (by kernel_rfl)
           go_simp
           exact hK _ _ su bR rfl
          ·intro bb u su dp kp K hK
           have e16:gT bb 16 = .int .i64 (j:Int):=kp 16 (by kernel_rfl)
           go_simp
           exact hK _ _ su bR rfl
          ·intro bb u su dp kp K hK
           have e72:gT bb 72 = .slice (some ⟨g,0,none⟩) m c1:=dp 5 _ rfl (by kernel_rfl)
           have e73:gT bb 73 = .int .i64 (j:Int):=dp 6 _ rfl (by kernel_rfl)
           go_simp
           exact hK _ _ su bR rfl
          ·intro bb u su dp kp K hK
           have e74:gT bb 74 = .pointer (some ⟨g,j * 2,none⟩):=dp 7 _ rfl (by kernel_rfl)
           go_simp
           exact hK _ _ su bR rfl
          ·intro bb u su dp kp K hK
           have e75:gT bb 75 = .pointer (some ⟨g,j * 2 + 1,none⟩):=dp 8 _ rfl (by kernel_rfl)
           obtain ⟨cc0,cc1⟩:=HC.out u su
           go_simp
           exact hK _ _ su bR rfl
          ·intro bb u su dp kp K hK
           have e71:gT bb 71 = .slice X.B X.v.length X.d:=dp 4 _ rfl (by kernel_rfl)
           have e76:gT bb 76 = .slice Y.B Y.v.length Y.d:=dp 9 _ rfl (by kernel_rfl)
           go_simp
           refine (HGP.out u (HSB.out.trans (su.mono HSB.out.size)) i j X Y HX.out HY.out).mono ?_
           rintro e w' ⟨r,rfl,hr,h4⟩
           go_simp
           exact hK _ _ (su.trans (h4.mono su.size)) h4 ⟨r,rfl,zH hr⟩
          ·intro bb u su dp kp K hK
           go_simp
           exact hK _ _ (su.alloc su.size _) (bR.alloc nR _) ⟨u.heap.size,rfl,su.size,zH ⟨Ye,(Bt.new _ _).zero⟩⟩
          ·intro bb u su dp kp K hK
           obtain ⟨k17,e17,L17,X17⟩:∃ k,gT bb 17 = .pointer (some ⟨k,0,none⟩) /\ Wc.heap.size <= k /\ Hid (∃ x,Fb u k x):=dp 11 _ rfl (by kernel_rfl)
           obtain ⟨r77,e77,D77⟩:∃ r:Fr,gT bb 77 = r.val /\ Hid (Fq u r (Gf i j)):=dp 10 _ rfl (by kernel_rfl)
           obtain ⟨x9,X9⟩:=X17.out
           obtain ⟨c0,c1,c2,f0,f1,f2⟩:=X9.facts
           go_simp
           exact hK undef _ (Jh su L17 _ _ _) (TSt.put X9 _) ⟨k17,r77,e17,L17,zH X9.put,zH (D77.out.rowed X9 _ _ _)⟩
         ·intro bb u hN hdf su hG hE sm
          obtain ⟨k17,r17,e17,L17,X17,D17⟩:=hE
          rw [Xb bb _ [false,false,false,false,false,false,false,false,false,false,false,false,false,false,false,false,false,true,false,false,false,false,false,false,false,false,false,false,false,false,false,false,false,false,false,false,false,false,false,false,false,false,false,false,false,false,false,false,false,false,false,false,false,false,false,false,false,false,false,false,false,false,false,false,false,false,false,true,true,true,true,true,true,true,true,true,true,true,false,false,false,false,false,false,false,false,false,false,false,false,false,false,false,false,false,false,false,false,false,false,false,false,false,false,false,false,false,false,false,false,false,false,false,false,false,false,false,false,false,false,false,false,false,false,false,false,false,false,false,false,false,false,false,false,false,false,false,false,false,false,false,false,false,false,false,false,false,false,false,false,false,false,false,false,false,false,false,false,false] _ rfl hN rfl (by kernel_rfl) hdf sm]
          simp only [Qb,Nat.reduceAdd,e17]
          clear e17 hG sm hN hdf
          generalize gT bb 67 = z67,gT bb 68 = z68,gT bb 69 = z69,gT bb 70 = z70,gT bb 71 = z71,gT bb 72 = z72,gT bb 73 = z73,gT bb 74 = z74,gT bb 75 = z75,gT bb 76 = z76,gT bb 77 = z77
          obtain ⟨Wd,rfl⟩:∃ X,X = u:=⟨_,rfl⟩
          have HNK:=zH (Zde (ZbM (G:=Gf) (n:=m) i (by omega)) k (by have:=HJ.out;omega))
          have HS12:=zH (HSb.out.below su)
          have HSQd:=zH (HSq.out.below su)
          have HBd:=zH (HSB.out.trans (su.mono HSB.out.size))
          have hne17:k17 ≠ Wa.heap.size:=by omega
          have p2:IntKind.i64.wrap ((j:Int) + 1) = (j:Int) + 1:=IntWalk.i64_in _ (by omega)
          clear HSb HSq HSB su HC
          generalize hacc:Za8 Gf i (Yd Gf m i) k = acc at *
          clear hacc
          cases acc with
          | none=>
           have hA:nA (none:Q0) = -1:=rfl
           have hB:nB (none:Q0) = -1:=rfl
           obtain ⟨b0,b1,b2,f0,f1,f2⟩:=HS12.out.facts
           obtain ⟨d0,d1,d2,-,-,-⟩:=X17.out.facts
           go_wp2_with fail
           go_still_tail 5,(by kernel_rfl)
           go_wp2_with fail
           have HKU2:Hid (Za8 Gf i (Yd Gf m i) (k + 1) = some (i,j,Gf i j)):=HKU
           have HB12:=HS12
           have HD17:=D17
           have HBe:=HBd
           refine ⟨⟨k + 1,r17,by have:=HJ.out;omega,congrArg (Value.int .i64) (by have:=HJ.out;omega),by rw [HKU2.out];rfl,by rw [HKU2.out];rfl,zH (HB12.out.put (r:=r17)),zH (by rw [HKU2.out];exact (Fq.rowed HD17.out HB12.out _ _ _).drewn),zH (Jh HBe.out nR _ _ _).drew⟩,by simp [intOf];omega⟩
          | some t=>
           obtain ⟨ta,tb,q0⟩:=t
           have hA:nA (some (ta,tb,q0):Q0) = (ta:Int):=rfl
           have hB:nB (some (ta,tb,q0):Q0) = (tb:Int):=rfl
           have hta:¬ (ta:Int) < 0:=by omega
           obtain ⟨n1,n2,-,n4,-⟩:=HNK.out
           have SQ0:Hid (Sz q0 90000):=zH (by rw [n4];exact HSZ.out ta tb (by omega) n2)
           have HQD:Hid (Fq Wd r1 q0):=HSQd
           have HC2:=zH (fun R (hR:Hid (Yz (Gf i j + -q0) = R))=>Xw r17 r1 (Gf i j) q0 Wd D17.out.fv HQD.out.fv (D17.out.few (HSZ.out i j hilt hjlt)) (HQD.out.few SQ0.out) R hR)
           clear n1 n2 n4
           obtain ⟨b0,b1,b2,f0,f1,f2⟩:=HS12.out.facts
           obtain ⟨d0,d1,d2,-,-,-⟩:=X17.out.facts
           by_cases hlt:Gf i j < q0
           ·have hsg:=(Zdg (Gf i j) q0).2 hlt
            have HLT:=zH hlt
            clear hlt
            generalize hR:Yz (Gf i j + -q0) = R at *
            have HR:=zH hR
            clear hR
            go_wp2_with fail
            refine (HC2.out R (zH rfl)).mono ?_
            rintro e We ⟨rfl,hbe⟩
            have HB12:=zH (HS12.out.below hbe)
            have HX17:=zH (X17.out.below hbe)
            have HD17:=zH (D17.out.below hbe)
            have HBe:=zH (HBd.out.trans (hbe.mono HBd.out.size))
            clear b0 b1 b2 f0 f1 f2 d0 d1 d2 hbe HS12 X17 D17
            obtain ⟨b0,b1,b2,f0,f1,f2⟩:=HB12.out.facts
            obtain ⟨d0,d1,d2,-,-,-⟩:=HX17.out.facts
            go_wp2_with fail
            go_still_tail 5,(by kernel_rfl)
            go_wp2_with fail
            have HKU2:Hid (Za8 Gf i (Yd Gf m i) (k + 1) = some (i,j,Gf i j)):=zH (HKU.out.trans (Zhd HLT.out))
            refine ⟨⟨k + 1,r17,by have:=HJ.out;omega,congrArg (Value.int .i64) (by have:=HJ.out;omega),by rw [HKU2.out];rfl,by rw [HKU2.out];rfl,zH (HB12.out.put (r:=r17)),zH (by rw [HKU2.out];exact (Fq.rowed HD17.out HB12.out _ _ _).drewn),zH (Jh HBe.out nR _ _ _).drew⟩,by simp [intOf];omega⟩
           ·have hsg:¬ Yz (Gf i j + -q0) < 0:=fun h=>hlt ((Zdg (Gf i j) q0).1 h)
            have HLT:=zH hlt
            clear hlt
            generalize hR:Yz (Gf i j + -q0) = R at *
            have HR:=zH hR
            clear hR
            go_wp2_with fail
            refine (HC2.out R (zH rfl)).mono ?_
            rintro e We ⟨rfl,hbe⟩
            have HB12:=zH (HS12.out.below hbe)
            have HQe:=zH (HQD.out.below hbe)
            have HBe:=zH (HBd.out.trans (hbe.mono HBd.out.size))
            clear b0 b1 b2 f0 f1 f2 d0 d1 d2 hbe HS12 X17 D17
            go_wp2_with fail
            have HKU2:Hid (Za8 Gf i (Yd Gf m i) (k + 1) = some (ta,tb,q0)):=zH (HKU.out.trans (Zhe HLT.out))
            refine ⟨⟨k + 1,r1,by have:=HJ.out;omega,congrArg (Value.int .i64) (by have:=HJ.out;omega),by rw [HKU2.out];rfl,by rw [HKU2.out];rfl,HB12,zH (by rw [HKU2.out];exact HQe.out),HBe⟩,by simp [intOf];omega⟩
        ·have hjn:¬ (j:Int) < (m:Int):=by omega
         have HSC:Hid (Yd Gf m (i + 1) = Za8 Gf i (Yd Gf m i) k):=zH (by show Za8 Gf i (Yd Gf m i) (m - (i + 1)) = _;congr 1;omega)
         go_wp2_with fail
         exact ⟨⟨i + 1,r1,by omega,by go_num,by rw [HSC.out],by rw [HSC.out],HSb,zH (by rw [HSC.out];exact HSq.out),HSB⟩,by simp [intOf];omega⟩
      ·have him:i = m:=by omega
       subst him
       obtain ⟨a,b,q0,hs,hab,hbm,hq0,-⟩:=Zcs (G:=Gf) (n:=i) (by omega)
       have HNR:Hid (Zg9 (Cs1.map Cl.pure) = some (a,b,q0)):=zH (by unfold Zg9;rw [List.length_map,HLN1.out,HGf.out];exact hs)
       have SQ0:Hid (Sz q0 90000):=zH (by rw [hq0];exact HSZ.out a b (by omega) hbm)
       rw [hs] at HRq ⊢
       have hA:nA (some (a,b,q0):Q0) = (a:Int):=rfl
       have hB:nB (some (a,b,q0):Q0) = (b:Int):=rfl
       have HQb:Hid (Fq Wb r0 q0):=HRq
       have HX5:=zH (HX1.out.below (HB1'.out.trans (HRB.out.mono HB1'.out.size)))
       have HV5:=zH (HV1.out.below (HB1'.out.trans (HRB.out.mono HB1'.out.size)))
       have HI5:=zH (HI1.out.below HRB.out)
       have HB5:=zH (HB1'.out.trans (HRB.out.mono HB1'.out.size))
       have HCM:=zH (fun R (hR:Hid (Yz (q0 + -q) = R))=>Xw r0 x q0 q Wb HQb.out.fv HV5.out (HQb.out.few SQ0.out) fx R hR)
       obtain ⟨b0,b1,b2,-,-,-⟩:=HRb.out.facts
       obtain ⟨d0,d1,d2,-,-,-⟩:=HX5.out.facts
       clear hs hq0 HCV HGP HSZ
       by_cases hle:(i:Int) <= most
       ·by_cases hgt:q < q0
        ·have hsg:=(Zdh q0 q).2 hgt
         have HST:Hid (Qx most q (Cs1.map Cl.pure) = true):=zH (by unfold Qx;rw [HNR.out,List.length_map,HLN1.out];simp [nQ,hle,hgt])
         have HGT:=zH hgt
         clear hgt
         generalize hR:Yz (q0 + -q) = R at *
         clear hR
         go_wp2_with fail
         refine (HCM.out R (zH rfl)).mono ?_
         rintro e We ⟨rfl,hbe⟩
         have HI6:=zH (HI5.out.below hbe)
         have HB6:=zH (HB5.out.trans (hbe.mono HB5.out.size))
         clear hbe b0 b1 b2 d0 d1 d2
         go_wp2_with fail
         go_meet
         case rel=>exact ⟨i,Cs1,some ⟨g,0,none⟩,c1,rfl,hmG,HLN1,HI6,zH (by rw [HE1.out,HLN1.out];exact (Zfx HST.out).symm),HS1,HB6⟩
        ·have hsg:¬ 0 < Yz (q0 + -q):=fun h=>hgt ((Zdh q0 q).1 h)
         have HST:Hid (Qx most q (Cs1.map Cl.pure) = false):=zH (by unfold Qx;rw [HNR.out,List.length_map,HLN1.out];simp [nQ,hgt])
         have HGT:=zH hgt
         clear hgt
         generalize hR:Yz (q0 + -q) = R at *
         clear hR
         go_wp2_with fail
         refine (HCM.out R (zH rfl)).mono ?_
         rintro e We ⟨rfl,hbe⟩
         have HI6:=zH (HI5.out.below hbe)
         have HB6:=zH (HB5.out.trans (hbe.mono HB5.out.size))
         clear hbe b0 b1 b2 d0 d1 d2
         have HI6B:=HB6
         go_wp2_with fail
         have haL:a < Cs1.length:=by rw [HLN1.out];omega
         have hbL:b < Cs1.length:=by rw [HLN1.out];exact hbm
         obtain ⟨X,hX⟩:∃ X,Cs1[a]? = some X:=⟨_,gE haL⟩
         obtain ⟨Y,hY⟩:∃ Y,Cs1[b]? = some Y:=⟨_,gE hbL⟩
         have HX:=zH hX
         have HY:=zH hY
         have mX:X.pure ∈ Cs1.map Cl.pure:=List.mem_map_of_mem (List.mem_of_getElem? hX)
         have mY:Y.pure ∈ Cs1.map Cl.pure:=List.mem_map_of_mem (List.mem_of_getElem? hY)
         obtain ⟨lX1,lX2⟩:=HS1.out.len mX
         obtain ⟨lY1,lY2⟩:=HS1.out.len mY
         simp only [Cl.pure,Ju,List.length_map] at lX1 lX2 lY1 lY2
         clear hX hY mX mY
         have hsz6:W1.heap.size <= We.heap.size:=HI6B.out.size
         have haI:(a:Int) < (i:Int):=by omega
         have hbI:(b:Int) < (i:Int):=by omega
         obtain ⟨x0,x1,xf0,xf1,xm,xv,xi,hbt,hgb9,hgl9⟩:=HI6.out.atX HX.out
         obtain ⟨y0,y1,-,-,ym,yv,yi,-,-,-⟩:=HI6.out.atX HY.out
         have XM:=zH xm
         have XV:=zH xv
         have XI:=zH xi
         have YM:=zH ym
         have YV:=zH yv
         have YI:=zH yi
         have HBT:=zH hbt
         clear xm xv xi ym yv yi hbt
         have hfrz:We.frozen? ⟨g,a * 2,none⟩ = false:=xf0
         refine J3 (S:=fun w'=>w'.cell? ⟨g,a * 2,none⟩ = some (.slice X.A X.m.length X.c) /\ w'.cell? ⟨g,b * 2,none⟩ = some (.slice Y.A Y.m.length Y.c)) 15 (by kernel_rfl) (by kernel_rfl) ⟨x0,y0⟩ (fun hHeld=>?_)
         simp only [List.pop_toArray,List.dropLast_cons_cons,List.dropLast_singleton]
         clear x0 x1 xf0 xf1 y0 y1
         iterate 12 (((refine Jb (v:=?_) rfl (by kernel_rfl) (fun _ _ _ h=>h) ⟨by rfl,?_⟩ hHeld ?_;rotate_left;· intro w' sw;obtain ⟨hS1,hS2⟩:=sw;go_simp;try with_reducible rfl);simp only [zA,zB,zC]))
         refine Je 12 rfl (by kernel_rfl) rfl (fun K hK=>?_)
         refine Xu _ 112 rfl (.tmp 106) (.tmp 111) 22 rfl W1.heap.size 3 k0 _ 1 8 Tryz.underlying22 KI.out KZ0.out KZ1.out KZ2.out rfl (by omega) (.slice X.A X.m.length X.c) X.m.length (ics X.m) rfl XM.out Y.A Y.m.length Y.c (ics Y.m) rfl (VI YM.out) (Lies.of_own YM.out) (by simp) (Zv _) (by unfold maxLen;omega) (by omega) (by show W1.heap.size <= We.heap.size;omega) (X.m.length + Y.m.length) rfl ?_
         intro A9 c9 w9 hown9 hgrow9 hat9
         have hgr9:We.drew.grownBy w9 (blk X.A):=by have:=hgrow9;rw [Jm] at this;exact this
         have hne9:some g ≠ blk X.A:=fun e=>((BT.of_own XM.out (by rw [Jm];exact e.symm)).ne HBT.out (by decide)) rfl
         have hblk9:w9.heap[g]? = We.heap[g]?:=hgr9.block g hgl9 hne9
         have hz0:w9.cell? ⟨g,a * 2,none⟩ = some (.slice X.A X.m.length X.c):=(World.cell?_of_block (a:=⟨g,a * 2,none⟩) hblk9).trans hHeld.1
         have hz1:w9.cell? ⟨g,b * 2,none⟩ = some (.slice Y.A Y.m.length Y.c):=(World.cell?_of_block (a:=⟨g,b * 2,none⟩) hblk9).trans hHeld.2
         have hz2:w9.frozen? ⟨g,a * 2,none⟩ = false:=(World.frozen?_of_block (a:=⟨g,a * 2,none⟩) hblk9).trans hfrz
         refine hK.out _ _ ⟨hz0,hz1⟩ (fun hHeld=>?_)
         clear hK K
         simp only [zA,zB,zC]
         iterate 2 (((refine Jb (v:=?_) rfl (by kernel_rfl) (fun _ _ _ h=>h) ⟨by rfl,?_⟩ hHeld ?_;rotate_left;· intro w' sw;obtain ⟨hS1,hS2⟩:=sw;go_simp;try with_reducible rfl);simp only [zA,zB,zC]))
         refine wpAnyH_done (by kernel_rfl) ?_ _
         refine PopQ.last rfl rfl (fun K hK=>?_)
         go_simp
         refine hK _ _ ?_
         clear hK K
         have hset9:=(HI6.out.drew).setMX HX.out hgr9 (by rw [List.length_append];have:=hown9;rwa [<- List.map_append] at this) (by rcases hat9 with h | h;exact .inl (by rw [Jm,Jm] at h;exact h);exact .inr (by rw [Jm] at h;exact h))
         rw [List.length_append] at hset9
         have HI7:=zH hset9
         have HI7B:Hid (Below W1.heap.size W1 (w9.setCell ⟨g,a * 2,none⟩ (.slice A9 (X.m.length + Y.m.length) c9))):=zH (((HI6B.out.drew).grown hgr9 (by show W1.heap.size <= We.heap.size;omega) (fun k hk=>(XM.out.lt k (by rw [Jm];exact hk)).1)).setCell (by exact hgb9) _)
         have HI7S:We.heap.size <= (w9.setCell ⟨g,a * 2,none⟩ (.slice A9 (X.m.length + Y.m.length) c9)).heap.size:=by simp [World.setCell];exact hgr9.size
         clear hset9 hown9 hgrow9 hat9 hgr9 hne9 hblk9 hz0 hz1 hHeld hfrz
         obtain ⟨HI7W,hHI7W⟩:∃ Z,Z = w9.setCell ⟨g,a * 2,none⟩ (.slice A9 (X.m.length + Y.m.length) c9):=⟨_,rfl⟩
         rw [<- hHI7W] at HI7 HI7B HI7S ⊢
         clear hHI7W hz2
         have HX2:Hid ((Cs1.set a { X with A:=A9,c:=c9,m:=X.m ++ Y.m })[a]? = some { X with A:=A9,c:=c9,m:=X.m ++ Y.m }):=zH (by rw [List.getElem?_set_self haL])
         have HY2:Hid ((Cs1.set a { X with A:=A9,c:=c9,m:=X.m ++ Y.m })[b]? = some Y):=zH (by rw [List.getElem?_set_ne (by omega)];exact HY.out)
         obtain ⟨X2,hX2⟩:∃ Z:Cl,Z = { X with A:=A9,c:=c9,m:=X.m ++ Y.m }:=⟨_,rfl⟩
         have e2:X2.B = X.B /\ X2.d = X.d /\ X2.v = X.v /\ X2.m = X.m ++ Y.m:=by rw [hX2];exact ⟨rfl,rfl,rfl,rfl⟩
         have E2:=zH e2
         rw [<- hX2] at HI7 HX2 HY2
         have lX3:X2.v.length <= 10000:=by rw [e2.2.2.1];exact lX1
         clear hX2 e2
         obtain ⟨Cs2,hCs2⟩:∃ Z,Z = Cs1.set a X2:=⟨_,rfl⟩
         rw [<- hCs2] at HI7 HX2 HY2
         have HCs2:=zH hCs2
         clear hCs2
         have HX1a:=HX
         clear HX
         have hsz7:W1.heap.size <= HI7W.heap.size:=by omega
         go_wp2_with fail
         obtain ⟨x0,x1,xf0,xf1,xm,xv,xi,hbt,hgb9,hgl9⟩:=HI7.out.atX HX2.out
         obtain ⟨y0,y1,-,-,ym,yv,yi,-,-,-⟩:=HI7.out.atX HY2.out
         have XM:=zH xm
         have XV:=zH xv
         have XI:=zH xi
         have YM:=zH ym
         have YV:=zH yv
         have YI:=zH yi
         have HBT:=zH hbt
         clear xm xv xi ym yv yi hbt
         have hfrz:HI7W.frozen? ⟨g,a * 2 + 1,none⟩ = false:=xf1
         refine J3 (S:=fun w'=>w'.cell? ⟨g,a * 2 + 1,none⟩ = some (.slice X2.B X2.v.length X2.d) /\ w'.cell? ⟨g,b * 2 + 1,none⟩ = some (.slice Y.B Y.v.length Y.d)) 15 (by kernel_rfl) (by kernel_rfl) ⟨x1,y1⟩ (fun hHeld=>?_)
         simp only [List.pop_toArray,List.dropLast_cons_cons,List.dropLast_singleton]
         clear x0 x1 xf0 xf1 y0 y1
         iterate 12 (((refine Jb (v:=?_) rfl (by kernel_rfl) (fun _ _ _ h=>h) ⟨by rfl,?_⟩ hHeld ?_;rotate_left;· intro w' sw;obtain ⟨hS1,hS2⟩:=sw;go_simp;try with_reducible rfl);simp only [zA,zB,zC]))
         refine Je 12 rfl (by kernel_rfl) rfl (fun K hK=>?_)
         refine Xu _ 127 rfl (.tmp 121) (.tmp 126) 52 rfl W1.heap.size 22 l0 _ 1 24 Tryz.underlying52 LI.out LZ0.out LZ1.out LZ2.out rfl (by omega) (.slice X2.B X2.v.length X2.d) X2.v.length (lcs X2.v) rfl XV.out Y.B Y.v.length Y.d (lcs Y.v) rfl (VI YV.out) (Lies.of_own YV.out) (by simp) (Zbj _) (by unfold maxLen;omega) (by omega) (by show W1.heap.size <= HI7W.heap.size;omega) (X2.v.length + Y.v.length) rfl ?_
         intro A9 c9 w9 hown9 hgrow9 hat9
         have hgr9:HI7W.drew.grownBy w9 (blk X2.B):=by have:=hgrow9;rw [Jm] at this;exact this
         have hne9:some g ≠ blk X2.B:=fun e=>((BT.of_own XV.out (by rw [Jm];exact e.symm)).ne HBT.out (by decide)) rfl
         have hblk9:w9.heap[g]? = HI7W.heap[g]?:=hgr9.block g hgl9 hne9
         have hz0:w9.cell? ⟨g,a * 2 + 1,none⟩ = some (.slice X2.B X2.v.length X2.d):=(World.cell?_of_block (a:=⟨g,a * 2 + 1,none⟩) hblk9).trans hHeld.1
         have hz1:w9.cell? ⟨g,b * 2 + 1,none⟩ = some (.slice Y.B Y.v.length Y.d):=(World.cell?_of_block (a:=⟨g,b * 2 + 1,none⟩) hblk9).trans hHeld.2
         have hz2:w9.frozen? ⟨g,a * 2 + 1,none⟩ = false:=(World.frozen?_of_block (a:=⟨g,a * 2 + 1,none⟩) hblk9).trans hfrz
         refine hK.out _ _ ⟨hz0,hz1⟩ (fun hHeld=>?_)
         clear hK K
         simp only [zA,zB,zC]
         iterate 2 (((refine Jb (v:=?_) rfl (by kernel_rfl) (fun _ _ _ h=>h) ⟨by rfl,?_⟩ hHeld ?_;rotate_left;· intro w' sw;obtain ⟨hS1,hS2⟩:=sw;go_simp;try with_reducible rfl);simp only [zA,zB,zC]))
         refine wpAnyH_done (by kernel_rfl) ?_ _
         refine PopQ.last rfl rfl (fun K hK=>?_)
         go_simp
         refine hK _ _ ?_
         clear hK K
         have hset9:=(HI7.out.drew).setVX HX2.out hgr9 (by rw [List.length_append];have:=hown9;rwa [<- List.map_append] at this) (fun y hy=>by rcases List.mem_append.1 hy with hy | hy;exact XI.out y hy;exact YI.out y hy) (by rcases hat9 with h | h;exact .inl (by rw [Jm,Jm] at h;exact h);exact .inr (by rw [Jm] at h;exact h))
         rw [List.length_append] at hset9
         have HI8:=zH hset9
         have HI8B:Hid (Below W1.heap.size W1 (w9.setCell ⟨g,a * 2 + 1,none⟩ (.slice A9 (X2.v.length + Y.v.length) c9))):=zH (((HI7B.out.drew).grown hgr9 (by show W1.heap.size <= HI7W.heap.size;omega) (fun k hk=>(XV.out.lt k (by rw [Jm];exact hk)).1)).setCell (by exact hgb9) _)
         have HI8S:HI7W.heap.size <= (w9.setCell ⟨g,a * 2 + 1,none⟩ (.slice A9 (X2.v.length + Y.v.length) c9)).heap.size:=by simp [World.setCell];exact hgr9.size
         clear hset9 hown9 hgrow9 hat9 hgr9 hne9 hblk9 hz0 hz1 hHeld hfrz
         obtain ⟨HI8W,hHI8W⟩:∃ Z,Z = w9.setCell ⟨g,a * 2 + 1,none⟩ (.slice A9 (X2.v.length + Y.v.length) c9):=⟨_,rfl⟩
         rw [<- hHI8W] at HI8 HI8B HI8S ⊢
         clear hHI8W hz2
         obtain ⟨Cs3,hCs3⟩:∃ Z,Z = Cs2.set a { X2 with B:=A9,d:=c9,v:=X2.v ++ Y.v }:=⟨_,rfl⟩
         rw [<- hCs3] at HI8
         have hl3:Cs3.length = i:=by rw [hCs3,List.length_set,HCs2.out,List.length_set,HLN1.out]
         have HJN:Hid ((Cs3.eraseIdx b).map Cl.pure = QI (Cs1.map Cl.pure) a b):=zH (by rw [hCs3,HCs2.out];exact Zaz HX1a.out HY.out E2.out.2.2.2 (by rw [E2.out.2.2.1]))
         have hrow:=HI8.out.row
         rw [hl3] at hrow
         have C9:=zH (Qp W1.heap.size g i c1 b (ccs Cs3) HI8W hrow hbm (by omega) (Zej Cs3))
         have HL3:=zH hl3
         clear hCs3 hrow hl3
         have pb:IntKind.i64.wrap ((b:Int) + 1) = (b:Int) + 1:=IntWalk.i64_in _ (by omega)
         go_wp2_with fail
         refine C9.out.mono ?_
         rintro e W9 ⟨rfl,hr9,hg9⟩
         rw [Zel Cs3 (by rw [HL3.out];exact hbm)] at hr9
         have HI9:=zH (HI8.out.del (k:=b) (cap:=c1) (fun row hrw=>by obtain ⟨b9,e1,rfl⟩:=hrw;injection e1 with e1;injection e1 with e1;subst e1;exact hg9) ⟨g,rfl⟩ (by rw [HL3.out];exact hbm) (by rw [HL3.out];exact hr9))
         have HB9:=zH (HI8B.out.grown hg9 (by omega) (fun k hk=>by injection hk with hk;omega))
         clear hr9 hg9 C9
         go_wp2_with fail
         refine ⟨⟨i - 1,Cs3.eraseIdx b,some ⟨g,0,none⟩,c1,by omega,rfl,zH (by rw [List.length_eraseIdx_of_lt (by rw [HL3.out];exact hbm),HL3.out]),HI9,zH (by rw [HJN.out];exact HS1.out.join hab (by rw [List.length_map,HLN1.out];exact hbm)),zH ?_,HB9⟩,by simp [Zdf];omega⟩
         rw [HE1.out,HJN.out,List.length_eraseIdx_of_lt (by rw [HL3.out];exact hbm),HL3.out,HLN1.out]
         obtain ⟨i9,hi9⟩:∃ i9,i = i9 + 1:=⟨i - 1,by omega⟩
         rw [hi9]
         exact Zf0 (by rw [List.length_map,HLN1.out];omega) HST.out HNR.out
       ·have HST:Hid (Qx most q (Cs1.map Cl.pure) = false):=zH (by unfold Qx;rw [List.length_map,HLN1.out];simp [hle])
        have HI6:=HI5
        have HB6:=HB5
        obtain ⟨We,rfl⟩:∃ X,X = Wb:=⟨_,rfl⟩
        have HI6B:=HB6
        go_wp2_with fail
        have haL:a < Cs1.length:=by rw [HLN1.out];omega
        have hbL:b < Cs1.length:=by rw [HLN1.out];exact hbm
        obtain ⟨X,hX⟩:∃ X,Cs1[a]? = some X:=⟨_,gE haL⟩
        obtain ⟨Y,hY⟩:∃ Y,Cs1[b]? = some Y:=⟨_,gE hbL⟩
        have HX:=zH hX
        have HY:=zH hY
        have mX:X.pure ∈ Cs1.map Cl.pure:=List.mem_map_of_mem (List.mem_of_getElem? hX)
        have mY:Y.pure ∈ Cs1.map Cl.pure:=List.mem_map_of_mem (List.mem_of_getElem? hY)
        obtain ⟨lX1,lX2⟩:=HS1.out.len mX
        obtain ⟨lY1,lY2⟩:=HS1.out.len mY
        simp only [Cl.pure,Ju,List.length_map] at lX1 lX2 lY1 lY2
        clear hX hY mX mY
        have hsz6:W1.heap.size <= We.heap.size:=HI6B.out.size
        have haI:(a:Int) < (i:Int):=by omega
        have hbI:(b:Int) < (i:Int):=by omega
        obtain ⟨x0,x1,xf0,xf1,xm,xv,xi,hbt,hgb9,hgl9⟩:=HI6.out.atX HX.out
        obtain ⟨y0,y1,-,-,ym,yv,yi,-,-,-⟩:=HI6.out.atX HY.out
        have XM:=zH xm
        have XV:=zH xv
        have XI:=zH xi
        have YM:=zH ym
        have YV:=zH yv
        have YI:=zH yi
        have HBT:=zH hbt
        clear xm xv xi ym yv yi hbt
        have hfrz:We.frozen? ⟨g,a * 2,none⟩ = false:=xf0
        refine J3 (S:=fun w'=>w'.cell? ⟨g,a * 2,none⟩ = some (.slice X.A X.m.length X.c) /\ w'.cell? ⟨g,b * 2,none⟩ = some (.slice Y.A Y.m.length Y.c)) 15 (by kernel_rfl) (by kernel_rfl) ⟨x0,y0⟩ (fun hHeld=>?_)
        simp only [List.pop_toArray,List.dropLast_cons_cons,List.dropLast_singleton]
        clear x0 x1 xf0 xf1 y0 y1
        iterate 12 (((refine Jb (v:=?_) rfl (by kernel_rfl) (fun _ _ _ h=>h) ⟨by rfl,?_⟩ hHeld ?_;rotate_left;· intro w' sw;obtain ⟨hS1,hS2⟩:=sw;go_simp;try with_reducible rfl);simp only [zA,zB,zC]))
        refine Je 12 rfl (by kernel_rfl) rfl (fun K hK=>?_)
        refine Xu _ 112 rfl (.tmp 106) (.tmp 111) 22 rfl W1.heap.size 3 k0 _ 1 8 Tryz.underlying22 KI.out KZ0.out KZ1.out KZ2.out rfl (by omega) (.slice X.A X.m.length X.c) X.m.length (ics X.m) rfl XM.out Y.A Y.m.length Y.c (ics Y.m) rfl (VI YM.out) (Lies.of_own YM.out) (by simp) (Zv _) (by unfold maxLen;omega) (by omega) (by show W1.heap.size <= We.heap.size;omega) (X.m.length + Y.m.length) rfl ?_
        intro A9 c9 w9 hown9 hgrow9 hat9
        have hgr9:We.drew.grownBy w9 (blk X.A):=by have:=hgrow9;rw [Jm] at this;exact this
        have hne9:some g ≠ blk X.A:=fun e=>((BT.of_own XM.out (by rw [Jm];exact e.symm)).ne HBT.out (by decide)) rfl
        have hblk9:w9.heap[g]? = We.heap[g]?:=hgr9.block g hgl9 hne9
        have hz0:w9.cell? ⟨g,a * 2,none⟩ = some (.slice X.A X.m.length X.c):=(World.cell?_of_block (a:=⟨g,a * 2,none⟩) hblk9).trans hHeld.1
        have hz1:w9.cell? ⟨g,b * 2,none⟩ = some (.slice Y.A Y.m.length Y.c):=(World.cell?_of_block (a:=⟨g,b * 2,none⟩) hblk9).trans hHeld.2
        have hz2:w9.frozen? ⟨g,a * 2,none⟩ = false:=(World.frozen?_of_block (a:=⟨g,a * 2,none⟩) hblk9).trans hfrz
        refine hK.out _ _ ⟨hz0,hz1⟩ (fun hHeld=>?_)
        clear hK K
        simp only [zA,zB,zC]
        iterate 2 (((refine Jb (v:=?_) rfl (by kernel_rfl) (fun _ _ _ h=>h) ⟨by rfl,?_⟩ hHeld ?_;rotate_left;· intro w' sw;obtain ⟨hS1,hS2⟩:=sw;go_simp;try with_reducible rfl);simp only [zA,zB,zC]))
        refine wpAnyH_done (by kernel_rfl) ?_ _
        refine PopQ.last rfl rfl (fun K hK=>?_)
        go_simp
        refine hK _ _ ?_
        clear hK K
        have hset9:=(HI6.out.drew).setMX HX.out hgr9 (by rw [List.length_append];have:=hown9;rwa [<- List.map_append] at this) (by rcases hat9 with h | h;exact .inl (by rw [Jm,Jm] at h;exact h);exact .inr (by rw [Jm] at h;exact h))
        rw [List.length_append] at hset9
        have HI7:=zH hset9
        have HI7B:Hid (Below W1.heap.size W1 (w9.setCell ⟨g,a * 2,none⟩ (.slice A9 (X.m.length + Y.m.length) c9))):=zH (((HI6B.out.drew).grown hgr9 (by show W1.heap.size <= We.heap.size;omega) (fun k hk=>(XM.out.lt k (by rw [Jm];exact hk)).1)).setCell (by exact hgb9) _)
        have HI7S:We.heap.size <= (w9.setCell ⟨g,a * 2,none⟩ (.slice A9 (X.m.length + Y.m.length) c9)).heap.size:=by simp [World.setCell];exact hgr9.size
        clear hset9 hown9 hgrow9 hat9 hgr9 hne9 hblk9 hz0 hz1 hHeld hfrz
        obtain ⟨HI7W,hHI7W⟩:∃ Z,Z = w9.setCell ⟨g,a * 2,none⟩ (.slice A9 (X.m.length + Y.m.length) c9):=⟨_,rfl⟩
        rw [<- hHI7W] at HI7 HI7B HI7S ⊢
        clear hHI7W hz2
        have HX2:Hid ((Cs1.set a { X with A:=A9,c:=c9,m:=X.m ++ Y.m })[a]? = some { X with A:=A9,c:=c9,m:=X.m ++ Y.m }):=zH (by rw [List.getElem?_set_self haL])
        have HY2:Hid ((Cs1.set a { X with A:=A9,c:=c9,m:=X.m ++ Y.m })[b]? = some Y):=zH (by rw [List.getElem?_set_ne (by omega)];exact HY.out)
        obtain ⟨X2,hX2⟩:∃ Z:Cl,Z = { X with A:=A9,c:=c9,m:=X.m ++ Y.m }:=⟨_,rfl⟩
        have e2:X2.B = X.B /\ X2.d = X.d /\ X2.v = X.v /\ X2.m = X.m ++ Y.m:=by rw [hX2];exact ⟨rfl,rfl,rfl,rfl⟩
        have E2:=zH e2
        rw [<- hX2] at HI7 HX2 HY2
        have lX3:X2.v.length <= 10000:=by rw [e2.2.2.1];exact lX1
        clear hX2 e2
        obtain ⟨Cs2,hCs2⟩:∃ Z,Z = Cs1.set a X2:=⟨_,rfl⟩
        rw [<- hCs2] at HI7 HX2 HY2
        have HCs2:=zH hCs2
        clear hCs2
        have HX1a:=HX
        clear HX
        have hsz7:W1.heap.size <= HI7W.heap.size:=by omega
        go_wp2_with fail
        obtain ⟨x0,x1,xf0,xf1,xm,xv,xi,hbt,hgb9,hgl9⟩:=HI7.out.atX HX2.out
        obtain ⟨y0,y1,-,-,ym,yv,yi,-,-,-⟩:=HI7.out.atX HY2.out
        have XM:=zH xm
        have XV:=zH xv
        have XI:=zH xi
        have YM:=zH ym
        have YV:=zH yv
        have YI:=zH yi
        have HBT:=zH hbt
        clear xm xv xi ym yv yi hbt
        have hfrz:HI7W.frozen? ⟨g,a * 2 + 1,none⟩ = false:=xf1
        refine J3 (S:=fun w'=>w'.cell? ⟨g,a * 2 + 1,none⟩ = some (.slice X2.B X2.v.length X2.d) /\ w'.cell? ⟨g,b * 2 + 1,none⟩ = some (.slice Y.B Y.v.length Y.d)) 15 (by kernel_rfl) (by kernel_rfl) ⟨x1,y1⟩ (fun hHeld=>?_)
        simp only [List.pop_toArray,List.dropLast_cons_cons,List.dropLast_singleton]
        clear x0 x1 xf0 xf1 y0 y1
        iterate 12 (((refine Jb (v:=?_) rfl (by kernel_rfl) (fun _ _ _ h=>h) ⟨by rfl,?_⟩ hHeld ?_;rotate_left;· intro w' sw;obtain ⟨hS1,hS2⟩:=sw;go_simp;try with_reducible rfl);simp only [zA,zB,zC]))
        refine Je 12 rfl (by kernel_rfl) rfl (fun K hK=>?_)
        refine Xu _ 127 rfl (.tmp 121) (.tmp 126) 52 rfl W1.heap.size 22 l0 _ 1 24 Tryz.underlying52 LI.out LZ0.out LZ1.out LZ2.out rfl (by omega) (.slice X2.B X2.v.length X2.d) X2.v.length (lcs X2.v) rfl XV.out Y.B Y.v.length Y.d (lcs Y.v) rfl (VI YV.out) (Lies.of_own YV.out) (by simp) (Zbj _) (by unfold maxLen;omega) (by omega) (by show W1.heap.size <= HI7W.heap.size;omega) (X2.v.length + Y.v.length) rfl ?_
        intro A9 c9 w9 hown9 hgrow9 hat9
        have hgr9:HI7W.drew.grownBy w9 (blk X2.B):=by have:=hgrow9;rw [Jm] at this;exact this
        have hne9:some g ≠ blk X2.B:=fun e=>((BT.of_own XV.out (by rw [Jm];exact e.symm)).ne HBT.out (by decide)) rfl
        have hblk9:w9.heap[g]? = HI7W.heap[g]?:=hgr9.block g hgl9 hne9
        have hz0:w9.cell? ⟨g,a * 2 + 1,none⟩ = some (.slice X2.B X2.v.length X2.d):=(World.cell?_of_block (a:=⟨g,a * 2 + 1,none⟩) hblk9).trans hHeld.1
        have hz1:w9.cell? ⟨g,b * 2 + 1,none⟩ = some (.slice Y.B Y.v.length Y.d):=(World.cell?_of_block (a:=⟨g,b * 2 + 1,none⟩) hblk9).trans hHeld.2
        have hz2:w9.frozen? ⟨g,a * 2 + 1,none⟩ = false:=(World.frozen?_of_block (a:=⟨g,a * 2 + 1,none⟩) hblk9).trans hfrz
        refine hK.out _ _ ⟨hz0,hz1⟩ (fun hHeld=>?_)
        clear hK K
        simp only [zA,zB,zC]
        iterate 2 (((refine Jb (v:=?_) rfl (by kernel_rfl) (fun _ _ _ h=>h) ⟨by rfl,?_⟩ hHeld ?_;rotate_left;· intro w' sw;obtain ⟨hS1,hS2⟩:=sw;go_simp;try with_reducible rfl);simp only [zA,zB,zC]))
        refine wpAnyH_done (by kernel_rfl) ?_ _
        refine PopQ.last rfl rfl (fun K hK=>?_)
        go_simp
        refine hK _ _ ?_
        clear hK K
        have hset9:=(HI7.out.drew).setVX HX2.out hgr9 (by rw [List.length_append];have:=hown9;rwa [<- List.map_append] at this) (fun y hy=>by rcases List.mem_append.1 hy with hy | hy;exact XI.out y hy;exact YI.out y hy) (by rcases hat9 with h | h;exact .inl (by rw [Jm,Jm] at h;exact h);exact .inr (by rw [Jm] at h;exact h))
        rw [List.length_append] at hset9
        have HI8:=zH hset9
        have HI8B:Hid (Below W1.heap.size W1 (w9.setCell ⟨g,a * 2 + 1,none⟩ (.slice A9 (X2.v.length + Y.v.length) c9))):=zH (((HI7B.out.drew).grown hgr9 (by show W1.heap.size <= HI7W.heap.size;omega) (fun k hk=>(XV.out.lt k (by rw [Jm];exact hk)).1)).setCell (by exact hgb9) _)
        have HI8S:HI7W.heap.size <= (w9.setCell ⟨g,a * 2 + 1,none⟩ (.slice A9 (X2.v.length + Y.v.length) c9)).heap.size:=by simp [World.setCell];exact hgr9.size
        clear hset9 hown9 hgrow9 hat9 hgr9 hne9 hblk9 hz0 hz1 hHeld hfrz
        obtain ⟨HI8W,hHI8W⟩:∃ Z,Z = w9.setCell ⟨g,a * 2 + 1,none⟩ (.slice A9 (X2.v.length + Y.v.length) c9):=⟨_,rfl⟩
        rw [<- hHI8W] at HI8 HI8B HI8S ⊢
        clear hHI8W hz2
        obtain ⟨Cs3,hCs3⟩:∃ Z,Z = Cs2.set a { X2 with B:=A9,d:=c9,v:=X2.v ++ Y.v }:=⟨_,rfl⟩
        rw [<- hCs3] at HI8
        have hl3:Cs3.length = i:=by rw [hCs3,List.length_set,HCs2.out,List.length_set,HLN1.out]
        have HJN:Hid ((Cs3.eraseIdx b).map Cl.pure = QI (Cs1.map Cl.pure) a b):=zH (by rw [hCs3,HCs2.out];exact Zaz HX1a.out HY.out E2.out.2.2.2 (by rw [E2.out.2.2.1]))
        have hrow:=HI8.out.row
        rw [hl3] at hrow
        have C9:=zH (Qp W1.heap.size g i c1 b (ccs Cs3) HI8W hrow hbm (by omega) (Zej Cs3))
        have HL3:=zH hl3
        clear hCs3 hrow hl3
        have pb:IntKind.i64.wrap ((b:Int) + 1) = (b:Int) + 1:=IntWalk.i64_in _ (by omega)
        go_wp2_with fail
        refine C9.out.mono ?_
        rintro e W9 ⟨rfl,hr9,hg9⟩
        rw [Zel Cs3 (by rw [HL3.out];exact hbm)] at hr9
        have HI9:=zH (HI8.out.del (k:=b) (cap:=c1) (fun row hrw=>by obtain ⟨b9,e1,rfl⟩:=hrw;injection e1 with e1;injection e1 with e1;subst e1;exact hg9) ⟨g,rfl⟩ (by rw [HL3.out];exact hbm) (by rw [HL3.out];exact hr9))
        have HB9:=zH (HI8B.out.grown hg9 (by omega) (fun k hk=>by injection hk with hk;omega))
        clear hr9 hg9 C9
        go_wp2_with fail
        refine ⟨⟨i - 1,Cs3.eraseIdx b,some ⟨g,0,none⟩,c1,by omega,rfl,zH (by rw [List.length_eraseIdx_of_lt (by rw [HL3.out];exact hbm),HL3.out]),HI9,zH (by rw [HJN.out];exact HS1.out.join hab (by rw [List.length_map,HLN1.out];exact hbm)),zH ?_,HB9⟩,by simp [Zdf];omega⟩
        rw [HE1.out,HJN.out,List.length_eraseIdx_of_lt (by rw [HL3.out];exact hbm),HL3.out,HLN1.out]
        obtain ⟨i9,hi9⟩:∃ i9,i = i9 + 1:=⟨i - 1,by omega⟩
        rw [hi9]
        exact Zf0 (by rw [List.length_map,HLN1.out];omega) HST.out HNR.out
    ·have hm1':¬ (1:Int) < (m:Int):=by omega
     go_wp2_with fail
     go_meet
     case rel=>exact ⟨m,Cs1,B1,c1,rfl,hmG,HLN1,HI1,zH (by rw [HE1.out];exact (ZhP (by rw [List.length_map,HLN1.out];omega)).symm),HS1,HB1'⟩
end Go.Proofs.YtfbdihpllmhcnaaGreatDoor
