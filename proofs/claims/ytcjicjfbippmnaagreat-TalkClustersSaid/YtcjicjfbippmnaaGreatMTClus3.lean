/- TalkClusters -/
import Derived.Test.YtcjicjfbippmnaaGreatMTClus2
set_option maxRecDepth 100000
set_option maxHeartbeats 32000000
namespace Go.Proofs.YtcjicjfbippmnaaGreat
open Go.RowKit Ear

abbrev Grp:=Option Addr × Nat × List Inn
abbrev gcs (G:List Grp):List Value:=G.map fun g=>Value.slice g.1 g.2.2.length g.2.1
abbrev gvs (G:List Grp):List (List (List Int)):=G.map fun g=>Jk g.2.2
structure GG (w:World) (A:Option Addr) (G:List Grp):Prop where
 lies:Lies w A (gcs G)
 grp:∀ g ∈ G,LL w g.1 g.2.2
theorem GG.below {w w':World} {A:Option Addr} {G:List Grp} (h:GG w A G) (hb:Below w.heap.size w w'):GG w' A G:=⟨h.lies.below hb,fun g hg=>(h.grp g hg).below hb⟩
theorem Lies.gat {w:World} {A:Option Addr} {l:List Grp} (h:Lies w A (gcs l)) {k:Nat} (hk:k < l.length) :
  ∃ b off,A = some ⟨b,off,none⟩ /\ b < w.heap.size /\ w.cell? ⟨b,off + k,none⟩ = some (.slice l[k].1 l[k].2.2.length l[k].2.1):=by
 obtain ⟨b,off,e,hlt,hc⟩:=h (by simp;omega);exact ⟨b,off,e,hlt,hc k _ (by simp [gE hk])⟩
theorem Za9 (x:Int) (w:World):Calls Tryz.prog 113 #[.int .i64 x] w fun e w'=>e = .returned (.bool (!inR (-1048576) 1048576 x)) /\ w = w':=by
 by_cases h1:x < -1048576
 ·go_enter Tryz.func113,Tryz.ntmps113;go_wp2_with fail;go_ret;exact ⟨Ju (by simp [inR];omega),rfl⟩
 ·by_cases h2 : 1048576 < x
  ·go_enter Tryz.func113,Tryz.ntmps113;go_wp2_with fail;go_ret;exact ⟨Ju (by simp [inR];omega),rfl⟩
  ·go_enter Tryz.func113,Tryz.ntmps113;go_wp2_with fail;go_ret;exact ⟨Ju (by simp [inR];omega),rfl⟩
theorem XW:Pred 113 (fun x=>!inR (-1048576) 1048576 x):=⟨enters_of Tryz.func113 (by kernel_rfl) rfl,Za9⟩
theorem Ym (A:Option Addr) (c:Nat) (G:List Grp) (w:World) (h:GG w A G) (hn:G.length <= 1000) (hg:Hid (∀ g ∈ G,g.2.2.length <= 10000)) (r:Int) (hr:Hid (Zat (gvs G) = r)) :
  Calls Tryz.prog 55 #[.slice A G.length c] w fun e w'=>e = .returned (.int .i64 r) /\ w = w':=by
 have HGL:Hid ((gvs G).length = G.length):=zH (by simp);have HFL:=zH (fun k=>Zhg (gs:=gvs G) (fun g hg'=>by simp only [gvs,List.mem_map] at hg';obtain ⟨x,hx,rfl⟩:=hg';simpa using hg.out x hx) k);have HGK:Hid (∀ k (hk:k < G.length),(gvs G)[k]'(by rw [HGL.out];exact hk) = Jk G[k].2.2):=zH (fun k hk=>by simp);have HFS:Hid (∀ k (hk:k < G.length),flK (gvs G) (k + 1) = flK (gvs G) k ++ Jk G[k].2.2):=zH (fun k hk=>by rw [Ul (by rw [HGL.out];exact hk),HGK.out k hk]);have HALL:Hid (flK (gvs G) G.length = (gvs G).flatten):=zH (Zaf (by rw [HGL.out];omega));have H:=zH h;clear h;go_enter Tryz.func55,Tryz.ntmps55;go_wp2_with fail;go_loop [3,13] (fun n i=>∃ k:Nat,k <= G.length /\ i = .int .i64 k /\ n = .int .i64 ((flK (gvs G) k).length:Nat)) (fun _ i=>G.length - (intOf i).toNat)
 case atStart=>exact ⟨0,by omega,rfl,by rw [Uk];rfl⟩
 case round=>
  obtain ⟨k,hk,rfl,rfl⟩:=hrel;have hfl:=HFL.out k (by omega);by_cases hlt:k < G.length
  ·obtain ⟨bk,off,rfl,hbk,hc⟩:=H.out.lies.gat hlt;have hgk:=hg.out _ (yM hlt);have HS:Hid ((flK (gvs G) (k + 1)).length = (flK (gvs G) k).length + G[k].2.2.length):=zH (by rw [HFS.out k hlt];simp);generalize G[k] = g at *
   generalize hm:(flK (gvs G) k).length = m at *
   have HM:=zH hm;clear hm;go_wp2_with fail;exact ⟨⟨k + 1,by omega,by go_num,by rw [HS.out];go_num⟩,by simp [intOf];omega⟩
  ·obtain rfl:k = G.length:=by omega
   rw [HALL.out] at hfl ⊢;have hr0:=hr.out;unfold Zat at hr0;rw [HGL.out] at hr0;have HR0:=zH hr0;clear hr0;generalize hm:(gvs G).flatten.length = m at *
   by_cases hlong : 60 < G.length ∨ 10000 < m
   ·have e5:r = 5:=(by rw [<- HR0.out,if_pos hlong]);subst e5;clear hm HR0;rcases (show 60 < G.length ∨ (¬ 60 < G.length /\ 10000 < m) by omega) with h1 | ⟨h1,h2⟩
    ·go_wp2_with fail;go_ret;exact ⟨rfl,rfl⟩
    ·go_wp2_with fail;go_ret;exact ⟨rfl,rfl⟩
   ·have h1:¬ 60 < G.length:=(by omega);have h2:¬ 10000 < m:=(by omega);have HBAD:Hid (Vf (gvs G) = false -> r = 2):=zH (fun hb=>by rw [<- HR0.out,if_neg hlong,if_neg (by rw [hb];decide)]);have HGOOD:Hid (Vf (gvs G) = true -> r = 0):=zH (fun hb=>by rw [<- HR0.out,if_neg hlong,if_pos hb]);clear hm HR0 hlong hr;go_wp2_with fail;go_loop [6,31] (fun s i=>∃ k:Nat,k <= G.length /\ i = .int .i64 k /\ s = .int .i64 (len0 (flK (gvs G) k):Nat) /\ Hid (∀ g ∈ (gvs G).take k,g ≠ []) /\ Hid (YS (flK (gvs G) k) = true)) (fun _ i=>G.length - (intOf i).toNat)
    case atStart=>exact ⟨0,by omega,rfl,by rw [Uk];rfl,zH (by simp),zH (by rw [Uk];rfl)⟩
    case round=>
     obtain ⟨k,hk,rfl,rfl,HNE,HVO⟩:=hrel;by_cases hlt:k < G.length
     ·obtain ⟨bk,off,rfl,hbk,hc⟩:=H.out.lies.gat hlt;have hgk:=hg.out _ (yM hlt);have HLL:=zH (H.out.grp _ (yM hlt));have hgk2:=HGK.out k hlt;have HEMP:Hid (G[k].2.2.length = 0 -> r = 2):=zH (fun he=>HBAD.out (Za8 (k:=k) (by rw [HGL.out];exact hlt) (by rw [hgk2];simpa using he)));have HVEC:Hid (∀ j (hj:j < G[k].2.2.length),YS (flK (gvs G) k ++ (Jk G[k].2.2).take j ++ [G[k].2.2[j].2.2]) = false -> r = 2):=zH (fun j hj hb=>HBAD.out (Zg7 (k:=k) (j:=j) (by rw [HGL.out];exact hlt) (by rw [hgk2];simpa using hj) (by simp only [hgk2];simpa using hb)));have HNX:Hid (flK (gvs G) (k + 1) = flK (gvs G) k ++ Jk G[k].2.2):=zH (HFS.out k hlt);have HNE2:Hid (G[k].2.2.length ≠ 0 -> ∀ g ∈ (gvs G).take (k + 1),g ≠ []):=zH (fun hne g hg'=>by
       rw [List.take_succ_eq_append_getElem (by rw [HGL.out];exact hlt),List.mem_append] at hg';rcases hg' with h' | h'
       ·exact HNE.out g h'
       ·rw [List.mem_singleton] at h';rw [h',hgk2];intro e;exact hne (by simpa using e))
      clear hgk2 HNE;generalize G[k] = g at *
      obtain ⟨gA,gc,gl⟩:=g;simp only at *
      by_cases h0:gl.length = 0
      ·have hz:=HEMP.out h0;subst hz;have q0:((gl.length:Int) == 0) = true:=(by simp [h0]);clear HEMP HVEC HNX HNE2 h0 HBAD HGOOD;go_wp2_with fail;go_ret;exact ⟨rfl,rfl⟩
      ·have q0:((gl.length:Int) == 0) = false:=(by rw [beq_eq_false_iff_ne];omega);have HNE3:=zH (HNE2.out h0);clear HEMP HNE2;go_wp2_with fail;go_loop [6,40] (fun s i=>∃ j:Nat,j <= gl.length /\ i = .int .i64 j /\ s = .int .i64 (len0 (flK (gvs G) k ++ (Jk gl).take j):Nat) /\ Hid (YS (flK (gvs G) k ++ (Jk gl).take j) = true)) (fun _ i=>gl.length - (intOf i).toNat)
       case atStart=>exact ⟨0,by omega,rfl,by simp,zH (by simpa using HVO.out)⟩
       case round=>
        obtain ⟨j,hj,rfl,rfl,HV⟩:=hrel;by_cases hjl:j < gl.length
        ·obtain ⟨bx,ox,rfl,hbx,hcx⟩:=HLL.out.lies.lat hjl;have hx:=HLL.out.inn _ (yM hjl);have HTK:Hid ((Jk gl).take (j + 1) = (Jk gl).take j ++ [gl[j].2.2]):=zH (by rw [List.take_succ_eq_append_getElem (by simpa using hjl)];simp);have hbad:=HVEC.out j hjl;generalize hP:flK (gvs G) k ++ (Jk gl).take j = P at *
         have HP:=zH hP;clear hP;have HZ:Hid (len0 P = 0 ↔ P = []):=zH (Zd8 HV.out);have HSN:=zH (ZcK P gl[j].2.2);have HL0:=zH (Zd9 (vs:=P) (v:=gl[j].2.2));generalize gl[j] = X at *
         obtain ⟨XA,Xc,xl⟩:=X;simp only at *
         obtain ⟨hxl,_,hxn,_,_⟩:=hx;have HXL:=zH hxl;obtain ⟨s1,hs1⟩:∃ s1:Nat,s1 = if P = [] then xl.length else len0 P:=⟨_,rfl⟩;rw [<- hs1] at HSN HL0;have HBAD2:Hid (okV s1 xl = false -> r = 2):=zH (fun hb=>hbad (by rw [HSN.out,hb,Bool.and_false]));have HGD:Hid (okV s1 xl = true -> YS (flK (gvs G) k ++ (Jk gl).take (j + 1)) = true):=zH (fun hb=>by rw [HTK.out,<- List.append_assoc,HP.out,HSN.out,hb,HV.out];rfl);have HGL0:Hid (len0 (flK (gvs G) k ++ (Jk gl).take (j + 1)) = s1):=zH (by rw [HTK.out,<- List.append_assoc,HP.out,HL0.out]);clear HSN HL0 hbad hxl;have HS1:Hid (len0 P ≠ 0 -> s1 = len0 P):=zH (fun hne=>by rw [hs1,if_neg (fun e=>hne (HZ.out.2 e))]);have HS0:Hid (len0 P = 0 -> s1 = xl.length):=zH (fun hne=>by rw [hs1,if_pos (HZ.out.1 hne)]);clear hs1 HZ;generalize len0 P = s0 at *
         have hkey:(((s0:Int) == 0) = true /\ s1 = xl.length) ∨ (((s0:Int) == 0) = false /\ s1 = s0):=by
          by_cases z:s0 = 0
          ·exact .inl ⟨by simp [z],HS0.out z⟩
          ·exact .inr ⟨by simp;omega,HS1.out z⟩
         clear HS1 HS0;cases c0:decide (xl.length = s1) with
         | false=>
          have c1:=of_decide_eq_false c0;clear c0;rcases hkey with ⟨_,e⟩ | ⟨qz,rfl⟩
          ·exact absurd e.symm c1
          have hz:=HBAD2.out (by rw [Bool.eq_false_iff];intro ht;exact c1 (Yi.1 ht).1);subst hz;have q1:((xl.length:Int) != (s1:Int)) = true:=(by simp;omega);clear HBAD2 HGD HGL0 c1 HBAD HGOOD HVEC;go_wp2_with fail;go_ret;exact ⟨rfl,rfl⟩
         | true=>
          obtain rfl:xl.length = s1:=of_decide_eq_true c0;clear c0;cases c4:YC (-1048576) 1048576 xl with
          | true=>
           have C4:=zH c4;clear c4;by_cases c2 : 1 <= xl.length
           ·by_cases c3:xl.length <= 64
            ·have HY:=zH (HGD.out (Yi.2 ⟨rfl,c2,c3,C4.out⟩));clear HGD HBAD2;rcases hkey with ⟨qz,_⟩ | ⟨qz,e⟩
             ·go_wp2_with fail;refine (XZ _ _ XW XA Xc xl _ HXL.out (by omega)).mono ?_;rintro e w' ⟨rfl,rfl⟩;rw [XK,C4.out];go_wp2_with fail;exact ⟨⟨j + 1,by omega,by go_num,by rw [HGL0.out],HY⟩,by simp [intOf];omega⟩
             ·subst e;go_wp2_with fail;refine (XZ _ _ XW XA Xc xl _ HXL.out (by omega)).mono ?_;rintro e w' ⟨rfl,rfl⟩;rw [XK,C4.out];go_wp2_with fail;exact ⟨⟨j + 1,by omega,by go_num,by rw [HGL0.out],HY⟩,by simp [intOf];omega⟩
            ·have hz:=HBAD2.out (by rw [Bool.eq_false_iff];intro ht;exact c3 (Yi.1 ht).2.2.1);subst hz;clear HBAD2 HGD HGL0 HBAD HGOOD HVEC;rcases hkey with ⟨qz,_⟩ | ⟨qz,e⟩
             ·go_wp2_with fail;go_ret;exact ⟨rfl,rfl⟩
             ·subst e;go_wp2_with fail;go_ret;exact ⟨rfl,rfl⟩
           ·have hz:=HBAD2.out (by rw [Bool.eq_false_iff];intro ht;exact c2 (Yi.1 ht).2.1);subst hz;clear HBAD2 HGD HGL0 HBAD HGOOD HVEC;rcases hkey with ⟨qz,_⟩ | ⟨qz,e⟩
            ·go_wp2_with fail;go_ret;exact ⟨rfl,rfl⟩
            ·subst e;go_wp2_with fail;go_ret;exact ⟨rfl,rfl⟩
          | false=>
           have C4:=zH c4;have hz:=HBAD2.out (by rw [Bool.eq_false_iff];intro ht;have:=(Yi.1 ht).2.2.2;rw [c4] at this;cases this);subst hz;clear c4 HBAD2 HGD HGL0 HBAD HGOOD HVEC;rcases (show (xl.length < 1) ∨ (1 <= xl.length /\ 64 < xl.length) ∨ (1 <= xl.length /\ xl.length <= 64) by omega) with c2 | ⟨c2,c3⟩ | ⟨c2,c3⟩
           all_goals
            rcases hkey with ⟨qz,_⟩ | ⟨qz,e⟩
            ·go_wp2_with (go_at_call 112;refine (XZ _ _ XW XA Xc xl _ HXL.out (by omega)).mono ?_;rintro e w' ⟨rfl,rfl⟩;rw [XK,C4.out]);go_ret;exact ⟨rfl,rfl⟩
            ·subst e;go_wp2_with (go_at_call 112;refine (XZ _ _ XW XA Xc xl _ HXL.out (by omega)).mono ?_;rintro e w' ⟨rfl,rfl⟩;rw [XK,C4.out]);go_ret;exact ⟨rfl,rfl⟩
        ·obtain rfl:j = gl.length:=(by omega);have HF:Hid (flK (gvs G) k ++ (Jk gl).take gl.length = flK (gvs G) (k + 1)):=zH (by rw [HNX.out,List.take_of_length_le (by simp)]);rw [HF.out] at HV ⊢;clear HVEC;go_wp2_with fail;exact ⟨⟨k + 1,by omega,by go_num,rfl,HNE3,HV⟩,by simp [intOf];omega⟩
     ·obtain rfl:k = G.length:=(by omega);have hz:r = 0:=HGOOD.out (by
       unfold Vf;rw [Bool.and_eq_true];refine ⟨?_,by rw [<- HALL.out];exact HVO.out⟩;rw [List.all_eq_true];intro g hg';have:=HNE.out g (by rw [List.take_of_length_le (by rw [HGL.out];omega)];exact hg');simpa using this)
      subst hz;clear HBAD HGOOD;go_wp2_with fail;go_ret;exact ⟨rfl,rfl⟩
theorem Zs {A:Option Addr} {w:World} {xs:List Value} (h:Lies w A xs) (hA:A = none):xs = []:=by
 cases xs with
 | nil=>rfl
 | cons x l=>
  obtain ⟨b,off,e,_⟩:=h (by simp);rw [hA] at e;cases e
theorem ZbT:(Tryz.prog.info? 9).map (fun i=>(i.zero,i.size,i.bytes)) = some (some (.string ByteArray.empty),1,16):=by kernel_rfl
theorem Zeg:(Tryz.prog.info? 79).map (fun i=>(i.zero,i.size,i.bytes)) = some (some (.agg #[.string ByteArray.empty,.slice none 0 0,.bool false,.slice none 0 0,.slice none 0 0,.bool false,.slice none 0 0,.slice none 0 0]),8,152):=by kernel_rfl
theorem UO:(Tryz.prog.info? 76).map (fun i=>(i.zero,i.size,i.bytes)) = some (some (.agg #[.int .i64 0,.string ByteArray.empty,.slice none 0 0]),3,48):=by kernel_rfl
theorem Zbn (A:Option Addr) (c n:Nat) (xs:List Value) (w:World) (h:Lies w A xs) (hx:xs.length = n * 1) (h1:∀ u ∈ xs,u.oneCell' = true) (hA:A = none -> c = 0) (hn:n <= 1000000) :
  Calls Tryz.prog 69 #[.slice A n c] w fun e w'=>∃ A' c',e = .returned (.slice A' n c') /\ w'.ownsRow w.heap.size 40 1 (.slice A' n c') n xs /\ RowKit.Below w.heap.size w w':=by
 obtain ⟨i0,hi0,hz0,hz1,hz2⟩:=info_parts Zj;have HI:=zH hi0;have HZ0:=zH hz0;have HZ1:=zH hz1;have HZ2:=zH hz2;clear hi0 hz0 hz1 hz2;cases A with
 | none=>
  have hxs:=Zs h rfl;subst hxs;obtain rfl:n = 0:=by simp at hx;omega
  obtain rfl:=hA rfl;have hnil:∀ W,(binOp .eql 22 (.slice none 0 0) (.slice none 0 0)).run Tryz.prog W = .ok (.bool true) W:=fun W=>Lib.run_eql_slice_nil W 22 40 none 0 0 0 0 Tryz.underlying22;go_enter Tryz.func69,Tryz.ntmps69;go_wp2_with fail;go_ret;exact ⟨none,0,rfl,World.ownsRow_nil _ _ _ _,RowKit.Below.refl _ _⟩
 | some ad=>
  clear hA;have hnil:∀ W,(binOp .eql 22 (.slice (some ad) n c) (.slice none 0 0)).run Tryz.prog W = .ok (.bool false) W:=fun W=>Lib.run_eql_slice_nil W 22 40 (some ad) n c 0 0 Tryz.underlying22;have hnews:=zH (h.news);have HX:=zH hx;clear hx;go_enter Tryz.func69,Tryz.ntmps69;go_wp2_with (at_builtin;refine wpList_append_own_at _ rfl (.tmp 5) (.tmp 6) _ rfl w.heap.size 40 i0 _ 1 24 Tryz.underlying22 HI.out HZ0.out HZ1.out HZ2.out rfl (by omega) (.slice (some ⟨w.heap.size,0,none⟩) 0 0) 0 [] rfl (World.ownsRow_lit w #[] 0 nR (by simp) rfl) ad n c xs rfl HX.out (hnews.out _) h1 (by unfold maxLen;omega) (by omega) (by simp) ?_;intro v' w1 hown1 hgrow _ hat);go_ret;obtain ⟨A',c',rfl⟩:=J5 hown1;refine ⟨A',c',by rw [Nat.zero_add];rfl,by simpa using hown1,(bR.alloc nR _).grown hgrow (by simp) (fun k hk=>?_)⟩;simp [Value.ownBlock] at hk;omega
theorem VZ (A:Option Addr) (c n:Nat) (xs:List Value) (w:World) (h:Lies w A xs) (hx:xs.length = n * 1) (h1:∀ u ∈ xs,u.oneCell' = true) (hA:A = none -> c = 0) (hn:n <= 1000000) :
  Calls Tryz.prog 76 #[.slice A n c] w fun e w'=>∃ A' c',e = .returned (.slice A' n c') /\ w'.ownsRow w.heap.size 9 1 (.slice A' n c') n xs /\ RowKit.Below w.heap.size w w':=by
 obtain ⟨i0,hi0,hz0,hz1,hz2⟩:=info_parts ZbT;have HI:=zH hi0;have HZ0:=zH hz0;have HZ1:=zH hz1;have HZ2:=zH hz2;clear hi0 hz0 hz1 hz2;cases A with
 | none=>
  have hxs:=Zs h rfl;subst hxs;obtain rfl:n = 0:=by simp at hx;omega
  obtain rfl:=hA rfl;have hnil:∀ W,(binOp .eql 74 (.slice none 0 0) (.slice none 0 0)).run Tryz.prog W = .ok (.bool true) W:=fun W=>Lib.run_eql_slice_nil W 74 9 none 0 0 0 0 Tryz.underlying74;go_enter Tryz.func76,Tryz.ntmps76;go_wp2_with fail;go_ret;exact ⟨none,0,rfl,World.ownsRow_nil _ _ _ _,RowKit.Below.refl _ _⟩
 | some ad=>
  clear hA;have hnil:∀ W,(binOp .eql 74 (.slice (some ad) n c) (.slice none 0 0)).run Tryz.prog W = .ok (.bool false) W:=fun W=>Lib.run_eql_slice_nil W 74 9 (some ad) n c 0 0 Tryz.underlying74;have hnews:=zH (h.news);have HX:=zH hx;clear hx;go_enter Tryz.func76,Tryz.ntmps76;go_wp2_with (at_builtin;refine wpList_append_own_at _ rfl (.tmp 5) (.tmp 6) _ rfl w.heap.size 9 i0 _ 1 16 Tryz.underlying74 HI.out HZ0.out HZ1.out HZ2.out rfl (by omega) (.slice (some ⟨w.heap.size,0,none⟩) 0 0) 0 [] rfl (World.ownsRow_lit w #[] 0 nR (by simp) rfl) ad n c xs rfl HX.out (hnews.out _) h1 (by unfold maxLen;omega) (by omega) (by simp) ?_;intro v' w1 hown1 hgrow _ hat);go_ret;obtain ⟨A',c',rfl⟩:=J5 hown1;refine ⟨A',c',by rw [Nat.zero_add];rfl,by simpa using hown1,(bR.alloc nR _).grown hgrow (by simp) (fun k hk=>?_)⟩;simp [Value.ownBlock] at hk;omega
theorem Zap (A:Option Addr) (c n:Nat) (xs:List Value) (w:World) (h:Lies w A xs) (hx:xs.length = n * 8) (h1:∀ u ∈ xs,u.oneCell' = true) (hA:A = none -> c = 0) (hn:n <= 1000000) :
  Calls Tryz.prog 75 #[.slice A n c] w fun e w'=>∃ A' c',e = .returned (.slice A' n c') /\ w'.ownsRow w.heap.size 79 8 (.slice A' n c') n xs /\ RowKit.Below w.heap.size w w':=by
 obtain ⟨i0,hi0,hz0,hz1,hz2⟩:=info_parts Zeg;have HI:=zH hi0;have HZ0:=zH hz0;have HZ1:=zH hz1;have HZ2:=zH hz2;clear hi0 hz0 hz1 hz2;cases A with
 | none=>
  have hxs:=Zs h rfl;subst hxs;obtain rfl:n = 0:=by simp at hx;omega
  obtain rfl:=hA rfl;have hnil:∀ W,(binOp .eql 46 (.slice none 0 0) (.slice none 0 0)).run Tryz.prog W = .ok (.bool true) W:=fun W=>Lib.run_eql_slice_nil W 46 79 none 0 0 0 0 Tryz.underlying46;go_enter Tryz.func75,Tryz.ntmps75;go_wp2_with fail;go_ret;exact ⟨none,0,rfl,World.ownsRow_nil _ _ _ _,RowKit.Below.refl _ _⟩
 | some ad=>
  clear hA;have hnil:∀ W,(binOp .eql 46 (.slice (some ad) n c) (.slice none 0 0)).run Tryz.prog W = .ok (.bool false) W:=fun W=>Lib.run_eql_slice_nil W 46 79 (some ad) n c 0 0 Tryz.underlying46;have hnews:=zH (h.news);have HX:=zH hx;clear hx;go_enter Tryz.func75,Tryz.ntmps75;go_wp2_with (at_builtin;refine wpList_append_own_at _ rfl (.tmp 5) (.tmp 6) _ rfl w.heap.size 79 i0 _ 8 152 Tryz.underlying46 HI.out HZ0.out HZ1.out HZ2.out rfl (by omega) (.slice (some ⟨w.heap.size,0,none⟩) 0 0) 0 [] rfl (World.ownsRow_lit w #[] 0 nR (by simp) rfl) ad n c xs rfl HX.out (hnews.out _) h1 (by unfold maxLen;omega) (by omega) (by simp) ?_;intro v' w1 hown1 hgrow _ hat);go_ret;obtain ⟨A',c',rfl⟩:=J5 hown1;refine ⟨A',c',by rw [Nat.zero_add];rfl,by simpa using hown1,(bR.alloc nR _).grown hgrow (by simp) (fun k hk=>?_)⟩;simp [Value.ownBlock] at hk;omega
theorem Zbo (A:Option Addr) (c n:Nat) (xs:List Value) (w:World) (h:Lies w A xs) (hx:xs.length = n * 3) (h1:∀ u ∈ xs,u.oneCell' = true) (hA:A = none -> c = 0) (hn:n <= 1000000) :
  Calls Tryz.prog 92 #[.slice A n c] w fun e w'=>∃ A' c',e = .returned (.slice A' n c') /\ w'.ownsRow w.heap.size 76 3 (.slice A' n c') n xs /\ RowKit.Below w.heap.size w w':=by
 obtain ⟨i0,hi0,hz0,hz1,hz2⟩:=info_parts UO;have HI:=zH hi0;have HZ0:=zH hz0;have HZ1:=zH hz1;have HZ2:=zH hz2;clear hi0 hz0 hz1 hz2;cases A with
 | none=>
  have hxs:=Zs h rfl;subst hxs;obtain rfl:n = 0:=by simp at hx;omega
  obtain rfl:=hA rfl;have hnil:∀ W,(binOp .eql 63 (.slice none 0 0) (.slice none 0 0)).run Tryz.prog W = .ok (.bool true) W:=fun W=>Lib.run_eql_slice_nil W 63 76 none 0 0 0 0 Tryz.underlying63;go_enter Tryz.func92,Tryz.ntmps92;go_wp2_with fail;go_ret;exact ⟨none,0,rfl,World.ownsRow_nil _ _ _ _,RowKit.Below.refl _ _⟩
 | some ad=>
  clear hA;have hnil:∀ W,(binOp .eql 63 (.slice (some ad) n c) (.slice none 0 0)).run Tryz.prog W = .ok (.bool false) W:=fun W=>Lib.run_eql_slice_nil W 63 76 (some ad) n c 0 0 Tryz.underlying63;have hnews:=zH (h.news);have HX:=zH hx;clear hx;go_enter Tryz.func92,Tryz.ntmps92;go_wp2_with (at_builtin;refine wpList_append_own_at _ rfl (.tmp 5) (.tmp 6) _ rfl w.heap.size 76 i0 _ 3 48 Tryz.underlying63 HI.out HZ0.out HZ1.out HZ2.out rfl (by omega) (.slice (some ⟨w.heap.size,0,none⟩) 0 0) 0 [] rfl (World.ownsRow_lit w #[] 0 nR (by simp) rfl) ad n c xs rfl HX.out (hnews.out _) h1 (by unfold maxLen;omega) (by omega) (by simp) ?_;intro v' w1 hown1 hgrow _ hat);go_ret;obtain ⟨A',c',rfl⟩:=J5 hown1;refine ⟨A',c',by rw [Nat.zero_add];rfl,by simpa using hown1,(bR.alloc nR _).grown hgrow (by simp) (fun k hk=>?_)⟩;simp [Value.ownBlock] at hk;omega
def blk (A:Option Addr):Option Nat:=(Value.slice A 0 0).ownBlock
theorem Jo (A:Option Addr) (n c:Nat):(Value.slice A n c).ownBlock = blk A:=by cases A <;> rfl
def ZhG:List Value -> Nat -> List Value -> List Value
 | xs,_,[]=>xs
 | xs,o,v :: r=>ZhG (xs.set o v) (o + 1) r
theorem Uu:∀ (vs:List Value) (o:Nat) (xs:List Value),o + vs.length <= xs.length -> ZhG xs o vs = xs.take o ++ vs ++ xs.drop (o + vs.length)
 | [],o,xs,_=>by simp [ZhG]
 | v :: r,o,xs,h=>by
  simp only [List.length_cons] at h;have hlt:o < (xs.set o v).length:=by simp;omega
  rw [ZhG,Uu r (o + 1) _ (by simp;omega),List.take_succ_eq_append_getElem hlt];simp only [List.getElem_set_self,List.length_cons];rw [List.take_set_of_le nR,List.drop_set_of_lt (by omega),show o + 1 + r.length = o + (r.length + 1) by omega];simp
section
variable {base n cap g size:Nat} {e:TypeId}
theorem J0:∀ (vs:List Value) (o:Nat) (w:World) (xs:List Value),w.ownsRow base e size (.slice (some ⟨g,0,none⟩) n cap) n xs ->
  (w.setCells g o vs).ownsRow base e size (.slice (some ⟨g,0,none⟩) n cap) n (ZhG xs o vs) /\ w.grownBy (w.setCells g o vs) (some g)
 | [],o,w,xs,h=>⟨h,rfl,rfl,rfl,Nat.le_refl _,fun _ _ _=>rfl⟩
 | v :: r,o,w,xs,h=>by
  have h1:=h.stored o v;have h2:=J0 r (o + 1) _ _ h1.1;refine ⟨h2.1,h2.2.os.trans h1.2.os,h2.2.tape.trans h1.2.tape,h2.2.output.trans h1.2.output,tR h1.2.size h2.2.size,fun k hk hne=>?_⟩;exact (h2.2.block k (Nat.lt_of_lt_of_le hk h1.2.size) hne).trans (h1.2.block k hk hne)
end
theorem ZZ {w:World} {base:Nat} {e:TypeId} {size n m c:Nat} {A:Option Addr} {xs ys:List Value} (h:w.ownsRow base e size (.slice A n c) n (xs ++ ys)) (hx:xs.length = m * size) (hm:m <= n):w.ownsRow base e size (.slice A m c) m xs:=by
 refine ⟨hx,?_⟩;rcases h.2 with ⟨h1,h2⟩ | ⟨g,cap,cur,h1,h2,h3,h4,h5,h6,h7⟩
 ·injection h1 with e1 e2 e3
  subst e1 e2 e3;exact .inl ⟨by rw [show m = 0 by omega],by omega⟩
 ·injection h1 with e1 e2 e3
  subst e1 e3;refine .inr ⟨g,c,cur,rfl,h2,h3,by omega,h5,h6,?_⟩;have h8:(cur.toList.take (n * size)).take (m * size) = xs:=by rw [h7,<- hx];exact List.take_left
  rwa [List.take_take,Nat.min_eq_left (Nat.mul_le_mul_right _ hm)] at h8
theorem Qb {P:Program} (w:World) (t e ty:TypeId) (z z1 z2:Value) (ht:P.underlying t = some (.slice e)) (hv:∀ w,(zeroValue e).run P w = .ok z w) (hz:z.cells = #[z1,z2]) (h1:z1.oneCell' = true) (h2:z2.oneCell' = true) (b o c:Nat)
  (hc:∀ j,j < 2 -> (w.cell? ⟨b,o + j,none⟩).isSome = true) (hf:∀ j,j < 2 -> w.frozen? ⟨b,o + j,none⟩ = false) :
  (Builtin.clear_ #[t] ty #[.slice (some ⟨b,o,none⟩) 1 c]).run P w = .ok (.tuple #[]) (w.setCells b o [z1,z2]):=by
 have hzc:(Builtin.zeroCells z.cells 1).toList = [z1,z2]:=by
  rw [hz];simp [Builtin.zeroCells];rfl
 have hst:=run_storeCells_cells (P:=P) b o [z1,z2] 0 w (by simpa using hc) (by simpa using hf) (by intro v hv';simp at hv';rcases hv' with rfl | rfl <;> assumption);simp only [Nat.add_zero] at hst;simp [Builtin.clear_,run_underlying ht,hv,hzc,hst]
theorem VS:(Tryz.prog.info? 128).map (fun i=>(i.zero,i.size,i.bytes)) = some (some (.agg #[.slice none 0 0,.slice none 0 0]),2,48):=by kernel_rfl
theorem QQ (base g n cap i:Nat) (xs:List Value) (w:World) (h:w.ownsRow base 128 2 (.slice (some ⟨g,0,none⟩) n cap) n xs) (hi:i < n) (hn:n <= 1000000) (h1:∀ u ∈ xs,u.oneCell' = true) :
  Calls Tryz.prog 70 #[.slice (some ⟨g,0,none⟩) n cap,.int .i64 i,.int .i64 ((i:Int) + 1)] w fun e w'=>e = .returned (.slice (some ⟨g,0,none⟩) (n - 1) cap) /\
   w'.ownsRow base 128 2 (.slice (some ⟨g,0,none⟩) (n - 1) cap) (n - 1) (xs.take (i * 2) ++ xs.drop ((i + 1) * 2)) /\ w.grownBy w' (some g):=by
 obtain ⟨i0,hi0,hz0,hz1,hz2⟩:=info_parts VS;have CI:=zH hi0;have CZ1:=zH hz1;clear hi0 hz0 hz1 hz2;have hxl:xs.length = n * 2:=h.1;obtain ⟨news,hnews⟩:∃ news,news = xs.drop ((i + 1) * 2):=⟨_,rfl⟩;have hlen:news.length = (n - (i + 1)) * 2:=by rw [hnews];simp;omega
 have hcap:n <= cap /\ cap <= maxLen:=by
  rcases h.2 with ⟨h',_⟩ | ⟨_,_,_,h',_,_,h3,h4,_⟩
  ·cases h'
  ·injection h' with e1 e2 e3
   subst e3;exact ⟨h3,h4⟩
 unfold maxLen at hcap;obtain ⟨A,hA,hsrc⟩:∃ A:Addr,(if cap = i + 1 then some (⟨g,0,none⟩:Addr) else some ⟨g,(i + 1) * 2,none⟩) = some A /\ Hid (∀ t u,news[t]? = some u -> w.drew.cell? (A.add t) = some u):=by
  by_cases hc:cap = i + 1
  ·refine ⟨⟨g,0,none⟩,by simp [hc],fun t u hu=>?_⟩;have h0:news.length = 0:=(by rw [hlen];omega);rw [List.length_eq_zero_iff.1 h0] at hu;simp at hu
  ·refine ⟨⟨g,(i + 1) * 2,none⟩,by simp [hc],fun t u hu=>?_⟩;have ht:=(List.getElem?_eq_some_iff.1 hu).1;rw [hnews,List.getElem?_drop] at hu;rw [Addr.add_lit];have hlt:(i + 1) * 2 + t < xs.length:=(by omega);refine (h.cellAt ((i + 1) * 2 + t) (by omega)).trans ?_;exact hu
 have s1:Hid (news.length = (n - (i + 1)) * 2):=hlen;have s2:Hid (∀ u ∈ news,u.oneCell' = true):=fun u hu=>h1 u (by rw [hnews] at hu;exact List.mem_of_mem_drop hu);have s3:Hid (∀ t,t < news.length -> (w.drew.cell? ⟨g,0 + i * 2 + t,none⟩).isSome = true /\ w.drew.frozen? ⟨g,0 + i * 2 + t,none⟩ = false):=by
  intro t ht;have hlt:i * 2 + t < xs.length:=by omega
  rw [Nat.zero_add];refine ⟨?_,h.frozenAt _⟩;show (w.cell? _).isSome = true;rw [h.cellAt (i * 2 + t) (by omega),gE hlt];rfl
 obtain ⟨W1,hW1⟩:∃ W1,W1 = w.drew.setCells g (0 + i * 2) news:=⟨_,rfl⟩;have hd:w.drew.ownsRow base 128 2 (.slice (some ⟨g,0,none⟩) n cap) n xs:=h;have hown1:=J0 news (0 + i * 2) _ _ hd;rw [<- hW1,Uu _ _ _ (by omega)] at hown1;obtain ⟨r1,g1⟩:=hown1;have R1:=zH r1;have G1:Hid (w.grownBy W1 (some g)):=zH ⟨g1.os,g1.tape,g1.output,g1.size,g1.block⟩;obtain ⟨W2,hW2⟩:∃ W2,W2 = W1.setCells g ((n - 1) * 2) [.slice none 0 0,.slice none 0 0]:=⟨_,rfl⟩;have hown2:=J0 [.slice none 0 0,.slice none 0 0] ((n - 1) * 2) _ _ r1;rw [<- hW2] at hown2;have R2:=zH hown2.1;have G2:=zH hown2.2;have hW:Hid (W1 = w.drew.setCells g (0 + i * 2) news):=hW1;have hcl:∀ ty,(Builtin.clear_ #[125] ty #[.slice (some ⟨g,(n - 1) * 2,none⟩) 1 (cap - (n - 1))]).run Tryz.prog W1 = .ok (.tuple #[]) W2:=fun ty=>by
  rw [hW2];refine Qb W1 125 128 ty (.agg #[.slice none 0 0,.slice none 0 0]) _ _ Tryz.underlying125 (fun w=>by kernel_rfl) rfl rfl rfl g _ _ (fun j hj=>?_) (fun j _=>R1.out.frozenAt _);rw [R1.out.cellAt _ (by omega),gE (by have:=R1.out.1;omega)];rfl
 have HCL:=zH hcl;have NW:=zH hnews;have XL:=zH hxl;clear hW1 hd r1 g1 hW2 hown2 hnews hxl h;clear hcl;have hcl:=HCL.out;have hic:i <= cap:=by omega
 have hjc:i + 1 <= cap:=by omega
 have b1:(0:Int) <= (i:Int) + 1:=by omega
 have b2:(i:Int) + 1 <= (n:Int):=by omega
 go_enter Tryz.func70,Tryz.ntmps70;go_wp2_with fail
 go_region_law (refine step_append_room rfl (.tmp 22) (.tmp 25) 125 rfl 128 i0 2 Tryz.underlying125 CI.out CZ1.out g 0 i cap (by simp [Act.eval,Act.put]) A (n - (i + 1)) (cap - (i + 1)) news (by simp [Act.eval,Act.put]) s1.out hsrc.out s2.out (by omega) s3.out ?_;rw [<- hW.out])
 have e1:i + (n - (i + 1)) = n - 1:=by omega
 have e2:n - (n - 1) = 1:=by omega
 rw [e1];go_wp2_with fail;go_ret;refine ⟨rfl,?_,⟨G2.out.os.trans G1.out.os,G2.out.tape.trans G1.out.tape,G2.out.output.trans G1.out.output,tR G1.out.size G2.out.size,fun k hk hne=>(G2.out.block k (Nat.lt_of_lt_of_le hk G1.out.size) hne).trans (G1.out.block k hk hne)⟩⟩;have hr:=R2.out;rw [Uu _ _ _ (by have:=R1.out.1;simp only [List.length_cons,List.length_nil];omega)] at hr;have hxl:xs.length = n * 2:=XL.out;have e3:(xs.take (0 + i * 2) ++ news ++ xs.drop (0 + i * 2 + news.length)).take ((n - 1) * 2) = xs.take (i * 2) ++ xs.drop ((i + 1) * 2):=by
  rw [NW.out,List.take_append_of_le_length (by simp;omega),List.take_of_length_le (by simp;omega),Nat.zero_add]
 rw [e3,List.append_assoc] at hr;exact ZZ hr (by simp;omega) (by omega)
end Go.Proofs.YtcjicjfbippmnaaGreat
namespace Go.Proofs.YtcjicjfbippmnaaGreat
open Go.RowKit Ear

theorem Zu (w:World) (u:Value) (t:TypeId):Lies (w.alloc (.cells #[u] t)) (some ⟨w.heap.size,0,none⟩) [u]:=fun _=>
 ⟨w.heap.size,0,rfl,by simp,fun k v hv=>by rw [Nat.zero_add,cell_of_row _ _ k _ _ _ (heap_alloc_new w _)];simpa using hv⟩
theorem UL (L:List Inn):∀ u ∈ lcs L,u.oneCell' = true:=by
 intro u hu;obtain ⟨x,_,rfl⟩:=List.mem_map.1 hu;rfl
end Go.Proofs.YtcjicjfbippmnaaGreat
