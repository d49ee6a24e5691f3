/- TopLearned -/
import Derived.Test.YtlgdlenoohkipaaGreatMTearn49
set_option maxRecDepth 100000
set_option maxHeartbeats 32000000
namespace Go.Proofs.YtlgdlenoohkipaaGreat
open Go.RowKit Ear

structure Mod (Fm:Int) (N:List Ar) (o v:Int) (L:List Gm) (kd:Int) (x:Fr) (X:List Fr):Prop where
 frm:Fm <= 6
 narc:N.length <= 30
 ntab:L.length <= 30
 vv:v <= 5
 nmix:X.length <= 6
 fmix:∀ y ∈ X,Few y 1
 famt:Few x 1
 farc:∀ a ∈ N,Few a.x 2
 lat:LatOk Fm N
 tab:Xz o v (Je L) = 0
 ok:ZiF kd o x.q X.length (qAt X)
 wd:∀ a ∈ N,a.wd <= v
theorem ZeM {X:List Fr} {l:Nat} (h:∀ y ∈ X,Few y l) {k:Nat} (hk:k < X.length):Few (ZfN X k) l:=by rw [Zb9 hk];exact h _ (yM hk)
theorem FsL.one {w:World} {x:Fr} (h:FrOk w x) (h1:x.N.length <= 9223372036854775807) (h2:x.D.length <= 9223372036854775807):FsL (w.alloc (.cells #[.bool x.neg,.slice x.A x.N.length x.c,.slice x.B x.D.length x.d] 31)) (some ⟨w.heap.size,0,none⟩) [x]:=
 ⟨(ZgA (Led.nil w) #[.bool x.neg,.slice x.A x.N.length x.c,.slice x.B x.D.length x.d] _ _ rfl).lies 0 _ _ rfl,fun y hy=>by
  obtain rfl:=List.mem_singleton.1 hy;exact ⟨⟨h.n.below (bR.alloc nR _),h.d.below (bR.alloc nR _)⟩,h1,h2⟩⟩
theorem ZbI (Fm:Int) (LA:Option Addr) (lc:Nat) (N:List Ar) (o v:Int) (A:Option Addr) (c:Nat) (L:List Gm) (kd:Int) (x:Fr) (M:Option Addr) (mc:Nat) (X:List Fr) (w:World) (hN:ArL w LA N) (hNl:N.length <= 9223372036854775807) (hT:Tb w A L) (hL:L.length <= 9223372036854775807) (hx:FrOk w x) (x1:x.N.length <= 9223372036854775807) (x2:x.D.length <= 9223372036854775807) (hM:FsL w M X) (hml:X.length <= 9223372036854775807) :
  Calls Tryz.prog 5 #[.agg #[.int .i64 Fm,.slice LA N.length lc],.agg (lgv o v A L.length c kd x M X.length mc)] w (ZgT (Mod Fm N o v L kd x X) w):=by
 obtain ⟨W0,hW0⟩:∃ Q:World,Q = (w.alloc (.cells #[.int .i64 Fm,.slice LA N.length lc] 24)).alloc (.cells (lgv o v A L.length c kd x M X.length mc) 34):=⟨_,rfl⟩;obtain ⟨k3,hk3⟩:∃ k,k = w.heap.size + 1:=⟨_,rfl⟩;have HB0:Hid (Below w.heap.size w W0):=zH (by rw [hW0];exact al2 w _ _);have HXL:Hid (W0.heap[w.heap.size]? = some (.cells #[.int .i64 Fm,.slice LA N.length lc] 24 (0,0))):=zH (by rw [hW0];exact (YZ _ _ _).trans (heap_alloc_new w _));have HXG:Hid (W0.heap[k3]? = some (.cells (lgv o v A L.length c kd x M X.length mc) 34 (0,0))):=zH (by rw [hW0,hk3];exact Zg _ _ _ _);have HPL:=zH (Vf HXL.out);have HPG:=zH (XT HXG.out);have HN:=zH (hN.below HB0.out);have HT:=zH (hT.below HB0.out);have HX:Hid (FrOk W0 x):=zH ⟨hx.n.below HB0.out,hx.d.below HB0.out⟩;have HM:=zH (hM.below HB0.out);have HC:Hid (∀ w',Below W0.heap.size W0 w' -> w'.cell? ⟨w.heap.size,0,none⟩ = some (.int .i64 Fm) /\ w'.cell? ⟨w.heap.size,1,none⟩ = some (.slice LA N.length lc) /\ w'.cell? ⟨k3,0,none⟩ = some (.int .i64 o) /\ w'.cell? ⟨k3,1,none⟩ = some (.int .i64 v) /\ w'.cell? ⟨k3,2,none⟩ = some (.slice A L.length c) /\ w'.cell? ⟨k3,3,none⟩ = some (.int .i64 kd) /\ w'.cell? ⟨k3,4,none⟩ = some (.bool x.neg) /\ w'.cell? ⟨k3,5,none⟩ = some (.slice x.A x.N.length x.c) /\ w'.cell? ⟨k3,6,none⟩ = some (.slice x.B x.D.length x.d) /\ w'.cell? ⟨k3,7,none⟩ = some (.slice M X.length mc)):=zH (fun w' hw=>by
  obtain ⟨c0,c1⟩:=HPL.out w' hw;obtain ⟨d0,d1,d2,d3,d4,d5,d6,d7⟩:=HPG.out w' hw;exact ⟨c0,c1,d0,d1,d2,d3,d4,d5,d6,d7⟩)
 obtain ⟨c0,c1,d0,d1,d2,d3,d4,d5,d6,d7⟩:=HC.out W0 bR;clear hN hT hx hM HXL HXG;simp only [lgv] at hW0 ⊢;go_enter Tryz.func5,Tryz.ntmps5;go_upto_region 1 with fail;rw [<- hW0,<- hk3];clear hW0 hk3;by_cases a1:(6:Int) < Fm
 ·go_wp2_with fail;refine bodyPost_ret (v:=.bool false) (by simp [results,Tryz.results5,go_sem]) rfl ?_;exact ⟨false,rfl,by simp,HB0.out⟩
 ·by_cases a2:(30:Int) < (N.length:Int)
  ·go_wp2_with fail;refine bodyPost_ret (v:=.bool false) (by simp [results,Tryz.results5,go_sem]) rfl ?_;exact ⟨false,rfl,by simp,HB0.out⟩
  ·by_cases a3:(30:Int) < (L.length:Int)
   ·go_wp2_with fail;refine bodyPost_ret (v:=.bool false) (by simp [results,Tryz.results5,go_sem]) rfl ?_;exact ⟨false,rfl,by simp,HB0.out⟩
   ·by_cases a4:(5:Int) < v
    ·go_wp2_with fail;refine bodyPost_ret (v:=.bool false) (by simp [results,Tryz.results5,go_sem]) rfl ?_;exact ⟨false,rfl,by simp,HB0.out⟩
    ·by_cases a5:(6:Int) < (X.length:Int)
     ·go_wp2_with fail;refine bodyPost_ret (v:=.bool false) (by simp [results,Tryz.results5,go_sem]) rfl ?_;exact ⟨false,rfl,by simp,HB0.out⟩
     ·go_wp2_with fail;refine (Qq M mc X W0 HM.out (by omega)).mono ?_;rintro e w1 ⟨b1,rfl,hb1,hw1⟩;have HP1:=zH hb1;have HB1:=zH hw1;clear hb1 hw1 c0 c1 d0 d1 d2 d3 d4 d5 d6 d7;obtain ⟨c0,c1,d0,d1,d2,d3,d4,d5,d6,d7⟩:=HC.out w1 HB1.out;cases b1 with
      | false=>
       go_wp2_with fail;refine bodyPost_ret (v:=.bool false) (by simp [results,Tryz.results5,go_sem]) rfl ?_;exact ⟨false,rfl,by simp,HB0.out.trans (HB1.out.mono HB0.out.size)⟩
      | true=>
       have HFM:=zH (HP1.out rfl);clear HP1;obtain ⟨W2,hW2⟩:∃ Q:World,Q = w1.alloc (.cells #[.bool x.neg,.slice x.A x.N.length x.c,.slice x.B x.D.length x.d] 31):=⟨_,rfl⟩;have HF2:Hid (FsL W2 (some ⟨w1.heap.size,0,none⟩) [x]):=zH (by rw [hW2];exact FsL.one ⟨HX.out.n.below HB1.out,HX.out.d.below HB1.out⟩ x1 x2);have HB2:Hid (Below W0.heap.size W0 W2):=zH (by rw [hW2];exact HB1.out.alloc HB1.out.size _);have C2:=zH (Qq (some ⟨w1.heap.size,0,none⟩) 1 [x] W2 HF2.out (by simp));simp only [List.length_cons,List.length_nil,Nat.zero_add] at C2;go_wp2_with fail;rw [<- hW2];clear hW2;refine C2.out.mono ?_;rintro e w3 ⟨b2,rfl,hb2,hw3⟩;have HP2:=zH hb2;have HB3:=zH (HB2.out.trans (hw3.mono HB2.out.size));clear hb2 hw3 c0 c1 d0 d1 d2 d3 d4 d5 d6 d7 C2 HF2;cases b2 with
       | false=>
        go_wp2_with fail;refine bodyPost_ret (v:=.bool false) (by simp [results,Tryz.results5,go_sem]) rfl ?_;exact ⟨false,rfl,by simp,HB0.out.trans (HB3.out.mono HB0.out.size)⟩
       | true=>
        have HFA:=zH (HP2.out rfl x (by simp));clear HP2;go_wp2_with fail;go_loopw [5] (fun t5 wr=>∃ k:Nat,k <= N.length /\ t5 = .int .i64 (k:Int) /\ Hid (∀ j (hj:j < N.length),j < k -> Few N[j].x 2) /\ Hid (Below W0.heap.size W0 wr)) (fun t5 _=>N.length - (intOf t5).toNat)
        case atStart=>exact ⟨0,Nat.zero_le _,rfl,zH (fun j _ hj=>by omega),HB3⟩
        case round=>
         obtain ⟨k,hk,rfl,HF,HB⟩:=hrel;obtain ⟨c0,c1,d0,d1,d2,d3,d4,d5,d6,d7⟩:=HC.out wr HB.out;have HBR:=zH (HB0.out.trans (HB.out.mono HB0.out.size));by_cases hlt:k < N.length
         ·have hlt':(k:Int) < (N.length:Int):=(by omega);obtain ⟨b,off,rfl,hb,-,-,-,-,-,v5,v6⟩:=(HN.out.below HB.out).at_ hlt;have HS:Hid (Few N[k].x 2 -> ∀ j (hj:j < N.length),j < k + 1 -> Few N[j].x 2):=zH (fun hx j hj hjk=>by
           by_cases e:j = k
           ·subst e;exact hx
           ·exact HF.out j hj (by omega))
          generalize N[k] = a at *
          by_cases h1:(2:Int) < (a.x.N.length:Int)
          ·go_wp2_with fail;refine bodyPost_ret (v:=.bool false) (by simp [results,Tryz.results5,go_sem]) rfl ?_;exact ⟨false,rfl,by simp,HBR.out⟩
          ·by_cases h2:(2:Int) < (a.x.D.length:Int)
           ·go_wp2_with fail;refine bodyPost_ret (v:=.bool false) (by simp [results,Tryz.results5,go_sem]) rfl ?_;exact ⟨false,rfl,by simp,HBR.out⟩
           ·have HS2:=zH (HS.out ⟨by omega,by omega⟩);go_wp2_with fail;exact ⟨⟨k + 1,by omega,by go_num,HS2,HB⟩,by simp [intOf];omega⟩
         ·obtain rfl:k = N.length:=(by omega);have hge:¬ (N.length:Int) < (N.length:Int):=(by omega);have HFN:Hid (∀ a ∈ N,Few a.x 2):=zH (fun a ha=>by obtain ⟨j,hj,rfl⟩:=List.getElem_of_mem ha;exact HF.out j hj hj);clear HF;go_wp2_with fail;clear c0 c1 d0 d1 d2 d3 d4 d5 d6 d7;go_loopw [6] (fun t6 wr=>∃ k:Nat,k <= L.length /\ t6 = .int .i64 (k:Int) /\ Hid (Below W0.heap.size W0 wr)) (fun t6 _=>L.length - (intOf t6).toNat)
          case atStart=>exact ⟨0,Nat.zero_le _,rfl,HB⟩
          case round=>
           obtain ⟨k,hk,rfl,HB⟩:=hrel;obtain ⟨c0,c1,d0,d1,d2,d3,d4,d5,d6,d7⟩:=HC.out wr HB.out;have HBR:=zH (HB0.out.trans (HB.out.mono HB0.out.size));by_cases hlt:k < L.length
           ·have hlt':(k:Int) < (L.length:Int):=(by omega);obtain ⟨b,off,rfl,hb,v0,-⟩:=(HT.out.below HB.out).at_ hlt;generalize L[k] = g at *
            by_cases h1:(5:Int) < (g.1.2.2.length:Int)
            ·go_wp2_with fail;refine bodyPost_ret (v:=.bool false) (by simp [results,Tryz.results5,go_sem]) rfl ?_;exact ⟨false,rfl,by simp,HBR.out⟩
            ·go_wp2_with fail;exact ⟨⟨k + 1,by omega,by go_num,HB⟩,by simp [intOf];omega⟩
           ·obtain rfl:k = L.length:=(by omega);have hge:¬ (L.length:Int) < (L.length:Int):=(by omega);have hmq:∀ k,k < X.length -> Sz (qAt X k) 1:=fun k hk=>((HM.out.ok _ (yM hk)).1.fv.sz (HFM.out _ (yM hk)) (by decide)) |> fun h=>by unfold qAt;rw [Zb9 hk];exact h
            have HSZ:Hid (∀ k,k <= X.length -> Sz (Qs (qAt X) k) 30000):=zH (fun k hk=>(ZbK hmq k hk).mono (by omega));have HR:=zH (ZaL Fm LA lc N o v A c L kd x x.q M X.length mc (ZfN X) (qAt X) wr (HN.out.below HB.out) (by omega) (fun a ha=>JN (HFN.out a ha) (by decide)) (HT.out.below HB.out) (by omega) (FrOk.fv ⟨HX.out.n.below HB.out,HX.out.d.below HB.out⟩) (JN HFA.out (by decide)) (HM.out.fl.below HB.out) (fun k hk=>JN (ZeM HFM.out hk) (by decide)) (by omega) HSZ.out);simp only [lgv] at HR;clear hmq HSZ;go_wp2_with fail;refine HR.out.mono ?_;rintro e w9 ⟨r,rfl,hr,hb9⟩;have HB9:=zH (HBR.out.trans (hb9.mono HBR.out.size));have HRR:=zH hr;clear hr hb9 c0 c1 d0 d1 d2 d3 d4 d5 d6 d7;go_wp2_with fail;refine bodyPost_ret (v:=.bool (r == 0)) (by simp [results,Tryz.results5,go_sem]) rfl ?_;refine ⟨_,rfl,fun h=>?_,HB9.out⟩;obtain ⟨p1,⟨p2,p3⟩,p4⟩:=HRR.out (by simpa using h);exact ⟨by omega,by omega,by omega,by omega,by omega,HFM.out,HFA.out,HFN.out,p1,p2,p3,p4⟩
section
variable {w0 w w':World} {p:Nat} {o v:Int} {A SA NA SA' NA':Option Addr} {c sc nc sc' nc':Nat} {L:List Gm} {S S':List Inn} {Ns Ns':List Int}
end
def ZfM (o:Nat) (v:Int) (T:Tbl) (s:List Int) (n:Int):Int:=if 500 < s.length then 5 else if XI 1 v s = true then (if 1 <= n /\ n <= 1000 then Xz o v (XC o T s n) else 2) else 2
end Go.Proofs.YtlgdlenoohkipaaGreat
namespace Go.Proofs.YtlgdlenoohkipaaGreat
open Go.RowKit Ear

def Zdg (on:Nat) (T:Tbl) (cs:List (List Int × Int)):List Tbl:=(List.range (cs.length + 1)).map fun k=>ZdJ on T (cs.take k)
theorem Zed (on:Nat) (T:Tbl) (cs:List (List Int × Int)) (x:List Int × Int):Zdg on T (cs ++ [x]) = Zdg on T cs ++ [XC on (ZdJ on T cs) x.1 x.2]:=by
 unfold Zdg;rw [List.length_append,List.length_cons,List.length_nil,List.range_succ,List.map_append];congr 1
 ·apply List.map_congr_left;intro k hk;rw [List.mem_range] at hk;rw [List.take_append_of_le_length (by omega)]
 ·show [ZdJ on T ((cs ++ [x]).take (cs.length + 1))] = _;rw [List.take_of_length_le (by simp),Zfz]
theorem Zee (on:Nat) (T:Tbl) {cs:List (List Int × Int)} (h : 0 < cs.length):Zdg on T cs.dropLast = (Zdg on T cs).dropLast:=by
 unfold Zdg;rw [List.length_dropLast,show cs.length - 1 + 1 = cs.length by omega,List.range_succ,List.map_append,List.map_cons,List.map_nil,List.dropLast_concat];apply List.map_congr_left;intro k hk;rw [List.mem_range] at hk;rw [List.dropLast_eq_take,List.take_take,Nat.min_eq_left (by omega)]
theorem ZfX (on:Nat) (T:Tbl) (cs:List (List Int × Int)):(Zdg on T cs).length = cs.length + 1:=by simp [Zdg]
theorem Y6 (on:Nat) (T:Tbl) (cs:List (List Int × Int)) (Ts:List TT) (t:TT) (h:(Ts ++ [t]).map (fun x=>Je x.L) = Zdg on T cs):Je t.L = ZdJ on T cs /\ Ts.length = cs.length:=by
 have h1:=congrArg List.length h;rw [ZfX] at h1;simp at h1;refine ⟨?_,h1⟩;have h2:=congrArg (fun l=>l[cs.length]?) h;simp only [List.map_append,List.map_cons,List.map_nil] at h2;rw [List.getElem?_append_right (by simp;omega)] at h2;unfold Zdg at h2;simp [h1] at h2;exact h2
structure PgL (w:World) (base p on:Nat) (v:Int) (T:Tbl) (cs:List (List Int × Int)):Prop where
 ex:∃ B cap Ts t,LrI w base p B cap (Ts ++ [t]) /\ (∀ x ∈ Ts ++ [t],x.o = (on:Int) /\ x.v = v) /\ (Ts ++ [t]).map (fun x=>Je x.L) = Zdg on T cs
 le:base <= p
def Tlr (w w':World) (base p:Nat):Prop:=∃ q,Two w w' p q /\ BT w p 106 /\ ∀ k,q = some k -> BT w k 27 /\ base <= k
theorem PgL.below {w w':World} {base p on:Nat} {v:Int} {T:Tbl} {cs:List (List Int × Int)} (h:PgL w base p on v T cs) (hb:RowKit.Below w.heap.size w w'):PgL w' base p on v T cs:=by
 obtain ⟨B,cap,Ts,t,h1,h2,h3⟩:=h.ex;exact ⟨⟨B,cap,Ts,t,h1.below hb,h2,h3⟩,h.le⟩
theorem PgL.ok {w:World} {base p on:Nat} {v:Int} {T:Tbl} {cs:List (List Int × Int)} (h:PgL w base p on v T cs):∀ k,k <= cs.length -> Xz on v (ZdJ on T (cs.take k)) = 0:=fun k hk=>by
 obtain ⟨B,cap,Ts,t,h1,h2,h3⟩:=h.ex;have h4:=(Y6 _ _ _ _ _ h3).2;have hk2:k < (Ts ++ [t]).length:=by simp;omega
 have h5:=congrArg (fun l=>l[k]?) h3;unfold Zdg at h5;simp only [List.getElem?_map] at h5;rw [gE hk2,List.getElem?_range (by omega)] at h5;simp only [Option.map_some,Option.some.injEq] at h5;have h6:=h1.tab _ (yM hk2);have h7:=h2 _ (yM hk2);rw [<- h5,<- h7.1,<- h7.2];exact h6.ok
theorem PgL.cor {w:World} {base p on:Nat} {v:Int} {T:Tbl} {cs:List (List Int × Int)} (h:PgL w base p on v T cs) (hb:base <= w.heap.size) (hlen:cs.length < 200) {XA:Option Addr} {Xc:Nat} {s:List Int} (hI:InOk w (XA,Xc,s)) (n r:Int) (hr:Hid (ZfM on v (ZdJ on T cs) s n = r)) :
  Calls Tryz.prog 10 #[.pointer (some ⟨p,0,none⟩),.slice XA s.length Xc,.int .i64 n] w fun e w'=>e = .returned (.int .i64 r) /\ PgL w' base p on v T (if r = 0 then cs ++ [(s,n)] else cs) /\ Tlr w w' base p:=by
 have hok:=h.ok cs.length nR;rw [List.take_length] at hok;have hz:=(JK.1 hok).2.1;have hle:=h.le;obtain ⟨B,cap,Ts,t,h1,h2,h3⟩:=h.ex;obtain ⟨h4,h5⟩:=Y6 _ _ _ _ _ h3;have ht:=h2 t (by simp);have hT:Ts.length < 200:=by omega
 have hbp:=h1.btp;have hbB:=h1.btB;have hgB:=h1.geB (by simp);have bad:r ≠ 0 -> (Calls Tryz.prog 10 #[.pointer (some ⟨p,0,none⟩),.slice XA s.length Xc,.int .i64 n] w fun e w'=>e = .returned (.int .i64 r) /\ Below w.heap.size w w') -> Calls Tryz.prog 10 #[.pointer (some ⟨p,0,none⟩),.slice XA s.length Xc,.int .i64 n] w fun e w'=>e = .returned (.int .i64 r) /\ PgL w' base p on v T (if r = 0 then cs ++ [(s,n)] else cs) /\ Tlr w w' base p:=fun h0 hc=>
  hc.mono fun e w' ⟨he,hbl⟩=>⟨he,by rw [if_neg h0];exact h.below hbl,none,Two.of_below hbl,hbp,fun k e=>by cases e⟩
 by_cases h50 : 500 < s.length
 ·have e5:r = 5:=by rw [<- hr.out];unfold ZfM;rw [if_pos h50]
  subst e5;exact bad (by decide) (U6 base p cap on v B Ts t XA Xc s n w h1 ht.1 ht.2 hI (by omega) 5 (zH (by unfold ZhI;rw [if_pos h50])) (by decide))
 ·by_cases ha:XI 1 v s = true
  ·by_cases hnn : 1 <= n /\ n <= 1000
   ·have hrr:Xz on v (XC on (ZdJ on T cs) s n) = r:=(by rw [<- hr.out];unfold ZfM;rw [if_neg h50,if_pos ha,if_pos hnn]);refine (QO base p cap on v B Ts t XA Xc s n w h1 hb hle ht.1 ht.2 hI (by omega) ha hnn hT).mono ?_;rintro e w' ⟨T1,hp,he,hif⟩;have hokt:Xz on v (Je t.L) = 0:=(by rw [h4];exact hok);have herr:=Ziw hz ha hnn.1 hokt hp;rw [h4,hrr] at herr;rw [h4,herr] at he hif;refine ⟨he,?_,?_⟩
    ·by_cases h0:r = 0
     ·rw [if_pos h0] at hif ⊢;obtain ⟨B',cap',t2,hL,ho,hv,hperm,hTwo,hB'⟩:=hif;refine ⟨⟨B',cap',Ts ++ [t],t2,hL,fun x hx=>?_,?_⟩,hle⟩
      ·rcases List.mem_append.1 hx with hx | hx
       ·exact h2 x hx
       ·rw [List.mem_singleton] at hx;subst hx;exact ⟨ho,hv⟩
      ·have hok2:=(hL.tab t2 (by simp)).ok;rw [ho,hv] at hok2;rw [List.map_append,h3,Zed];congr 1;show [Je t2.L] = _;rw [Ziv hz ha hnn.1 hok (by exact hp) hperm hok2]
     ·rw [if_neg h0] at hif ⊢;exact h.below hif
    ·by_cases h0:r = 0
     ·rw [if_pos h0] at hif;obtain ⟨B',cap',t2,hL,ho,hv,hperm,hTwo,hB'⟩:=hif;exact ⟨blk B,hTwo,hbp,fun k hk=>⟨hbB k hk,hgB k hk⟩⟩
     ·rw [if_neg h0] at hif;exact ⟨none,Two.of_below hif,hbp,fun k e=>by cases e⟩
   ·have e2:r = 2:=(by rw [<- hr.out];unfold ZfM;rw [if_neg h50,if_pos ha,if_neg hnn]);subst e2;exact bad (by decide) (Zax base p cap on v B Ts t XA Xc s n w h1 ht.1 ht.2 hI (by omega) ha (by omega) hnn)
  ·have e2:r = 2:=by rw [<- hr.out];unfold ZfM;rw [if_neg h50,if_neg ha]
   subst e2;exact bad (by decide) (U6 base p cap on v B Ts t XA Xc s n w h1 ht.1 ht.2 hI (by omega) 2 (zH (by unfold ZhI;rw [if_neg h50,if_neg ha])) (by decide))
theorem PgL.tab {w:World} {base p on:Nat} {v:Int} {T:Tbl} {cs:List (List Int × Int)} (h:PgL w base p on v T cs) (hlen:cs.length < 200) :
  Calls Tryz.prog 13 #[.pointer (some ⟨p,0,none⟩)] w fun e w'=>∃ A c L,e = .returned (.tuple #[.agg #[.int .i64 (on:Int),.int .i64 v,.slice A (L:List Gm).length c],.int .i64 0]) /\ GLo w' w.heap.size A c L /\ Je L = ZdJ on T cs /\ RowKit.Below w.heap.size w w':=by
 obtain ⟨B,cap,Ts,t,h1,h2,h3⟩:=h.ex;obtain ⟨h4,h5⟩:=Y6 _ _ _ _ _ h3;have ht:=h2 t (by simp);refine (Qr base p cap B Ts t w h1 (by omega)).mono ?_;rintro e w' ⟨A,c,L,he,hg,htb,hb⟩;rw [ht.1,ht.2] at he;exact ⟨A,c,L,he,hg,htb.trans h4,hb⟩
theorem PgL.cnt {w:World} {base p on:Nat} {v:Int} {T:Tbl} {cs:List (List Int × Int)} (h:PgL w base p on v T cs) (hlen:cs.length < 200):Calls Tryz.prog 16 #[.pointer (some ⟨p,0,none⟩)] w fun e w'=>e = .returned (.int .i64 (cs.length:Int)) /\ w' = w:=by
 obtain ⟨B,cap,Ts,t,h1,h2,h3⟩:=h.ex;obtain ⟨h4,h5⟩:=Y6 _ _ _ _ _ h3;refine (VD p (Ts ++ [t]).length cap B w h1.at_ (by simp) (by simp;omega)).mono ?_;rintro e w' ⟨he,hw⟩;refine ⟨?_,hw⟩;rw [he];congr 2;simp;omega
def ZaN (Fm:Int) (LA:Option Addr) (lc:Nat) (N:List Ar) (on Vn:Nat) (A:Option Addr) (c:Nat) (L:List Gm) (kd:Int) (x:Fr) (M:Option Addr) (mc:Nat) (X:List Fr):GrP:=⟨Fm,LA,lc,N,on,Vn,A,c,L,kd,x,x.q,M,X.length,mc,ZfN X,qAt X⟩
theorem ZjB {w:World} {Fm:Int} {LA:Option Addr} {lc:Nat} {N:List Ar} {on Vn:Nat} {A:Option Addr} {c:Nat} {L:List Gm} {kd:Int} {x:Fr} {M:Option Addr} {mc:Nat} {X:List Fr} (h:Mod Fm N on ((Vn:Int) - 1) L kd x X) (hV : 2 <= Vn /\ Vn <= 100) (hN:ArL w LA N) (hT:Tb w A L) (hx:FrOk w x) (hM:FsL w M X):GrOk w (ZaN Fm LA lc N on Vn A c L kd x M mc X):=
 ⟨⟨hT,h.tab,hx.fv,JN h.famt (by decide),hM.fl,fun k hk=>JN (ZeM h.fmix hk) (by decide),h.ok⟩,hV,hN,fun a ha=>JN (h.farc a ha) (by decide),h.lat,h.wd⟩
theorem Zep {w:World} {p:GrP} (h:GrOk w p) {l:List Int} (hp:PthOk p.Fm p.L l):∀ k,k <= l.length -> Sz (rtQ p l k) (2 + 700 * k)
 | 0,_=>(Sz.i64 (by omega) (by omega)).mono (by omega)
 | k + 1,hk=>by
  have hix:=hp.ix k (by omega);obtain ⟨i,hi⟩:∃ i:Nat,l[k]?.getD 0 = (i:Int):=⟨(l[k]?.getD 0).toNat,by omega⟩;have hil:i < p.L.length:=by omega
  have ha:=yM hil;show Sz (rtQ p l k * (_ * _)) _;rw [hi,Vv rfl hil];have h1:Sz p.L[i].x.q 100:=(h.ar.ok _ ha).W.fv.sz (h.fa _ ha) (by decide);have h2:=(h.lat.arc _ ha).wd;have h3:=h.wd _ ha;have h4:=h.hV;have h5:Sz (Zt p (V5 p l k) p.L[i].wd.toNat) 600:=UB h _ (by omega);exact ((Zep h hp k (by omega)).mul (h1.mul h5)).mono (by omega)
theorem Zd3 {w:World} {p:GrP} (h:GrOk w p) {l:List Int} (hp:PthOk p.Fm p.L l) (hl:l.length <= 8):Sz (Zco p l) 7000:=
 ((Zep h hp l.length nR).mul (UB h _ (by have:=h.hV;omega))).mono (by omega)
theorem QW {w:World} {p:GrP} (h:GrOk w p) {l:List Int} (hp:PthOk p.Fm p.L l):∀ k,k <= l.length -> XI 1 ((p.V:Int) - 1) (wdL p.L l k) = true
 | 0,_=>rfl
 | k + 1,hk=>by
  have ih:=QW h hp k (by omega);have hix:=hp.ix k (by omega);obtain ⟨i,hi⟩:∃ i:Nat,l[k]?.getD 0 = (i:Int):=⟨(l[k]?.getD 0).toNat,by omega⟩;have hil:i < p.L.length:=by omega
  have ha:=yM hil;refine Zau fun y hy=>?_;rcases List.mem_append.1 (show y ∈ wdL p.L l k ++ [(arI p.L (l[k]?.getD 0)).wd] from hy) with hy | hy
  ·exact Ya ih hy
  ·rw [List.mem_singleton,hi,Vv rfl hil] at hy;subst hy;exact ⟨(h.lat.arc _ ha).wd.1,h.wd _ ha⟩
theorem Zjn {w:World} {p:GrP} (h:GrOk w p) {l:List Int} (hp:PthOk p.Fm p.L l):∀ k,k < l.length -> 0 <= (arI p.L (l[k]?.getD 0)).x.q:=fun k hk=>by
 have hix:=hp.ix k hk;obtain ⟨i,hi⟩:∃ i:Nat,l[k]?.getD 0 = (i:Int):=⟨(l[k]?.getD 0).toNat,by omega⟩;have hil:i < p.L.length:=by omega
 rw [hi,Vv rfl hil];exact Rat.le_of_lt (h.lat.arc _ (yM hil)).pos
theorem Zc4:∀ (X T:Tbl),(Zhr T X).length <= T.length + X.length
 | [],T=>Nat.le_refl _
 | g :: X,T=>by
  have h1:=Zc4 X (Qy T g.1 g.2);have h2:=UD T g.1 g.2;show (Zhr (Qy T g.1 g.2) X).length <= _;simp only [List.length_cons];omega
theorem ZhD {on:Nat} {v n:Int} {L:List Gm} (hT:Xz on v (Je L) = 0) (hl:L.length <= 30) {s:List Int} (hs:s.length <= 8) (ha:XI 1 v s = true) (hn : 1 <= n /\ n <= 1000) (he:ZfM on v (Je L) s n ≠ 0) : 1073721824 < mxT L L.length:=by
 apply Classical.byContradiction;intro hm;apply he;have hz:=(JK.1 hT).2.1;have hz':=Jx.1 hz;have ho : 1 <= on:=by omega
 have ho4:on <= 4:=by omega
 have hS:=Vz hT;have hSn:=Z5 ho (by omega) hS ha hn.1;unfold ZfM;rw [if_neg (by omega),if_pos ha,if_pos hn,Zeg hz hSn];have h1:(XC on (Je L) s n).length <= 39:=by
  have h2:=Zc4 (scT n (Ud on s (s.length + 1))) (Je L);have h3:=Zaq on s (s.length + 1);have h4:(scT n (Ud on s (s.length + 1))).length = (Ud on s (s.length + 1)).length:=by simp [scT]
  have h5:(Je L).length = L.length:=by simp
  unfold XC;omega
 rw [if_neg (by omega),if_neg];rintro ⟨g,hg,hgt⟩;have hr:=hSn.row g hg;have hv:J3 (XC on (Je L) s n) (kOf g.1) = g.2:=((VO ho4 hSn.nodup (fun g hg=>⟨(hSn.row g hg).1,(hSn.row g hg).2.2⟩) g hr.1).1 hg).2;have e1:J3 (XC on (Je L) s n) (kOf g.1) = J3 (Je L) (kOf g.1) + J3 (Ud on s (s.length + 1)) (kOf g.1) * n:=by
  unfold XC;rw [Um,Uz]
 have h2:J3 (Ud on s (s.length + 1)) (kOf g.1) <= 9:=by
  rw [Vq,Vs];have:=List.length_filter_le (fun i=>kOf (Jt on s i) == kOf g.1) (List.range (s.length + 1));rw [List.length_range] at this;omega
 have h3:J3 (Ud on s (s.length + 1)) (kOf g.1) * n <= 9000:=by
  have h4 : 0 <= J3 (Ud on s (s.length + 1)) (kOf g.1):=by rw [Vq,Vs];omega
  have h5:=Int.mul_le_mul h2 hn.2 (by omega) (by decide:(0:Int) <= 9);omega
 have h4:J3 (Je L) (kOf g.1) <= 1073721824:=by
  apply Classical.byContradiction;intro h5;have h6:=(VO ho4 hS.nodup (fun g hg=>⟨(hS.row g hg).1,(hS.row g hg).2.2⟩) (g.1,J3 (Je L) (kOf g.1)) hr.1).2 ⟨by show (1:Int) <= J3 (Je L) (kOf g.1);omega,rfl⟩;obtain ⟨a,hal,hae⟩:=List.mem_map.1 h6;obtain ⟨j,hj,rfl⟩:=List.getElem_of_mem hal;have h7:=Zg9 L L.length 1073721824 (by omega) j hj hj;have h8:=congrArg Prod.snd hae;simp only at h8;omega
 omega
theorem PgL.undoB {w0 w:World} {base p on:Nat} {v:Int} {T:Tbl} {cs:List (List Int × Int)} (h:PgL w0 base p on v T cs) (hb:RowKit.Below w0.heap.size w0 w) (hlen:cs.length < 200) (h0:cs.length ≠ 0) :
  Calls Tryz.prog 15 #[.pointer (some ⟨p,0,none⟩)] w fun e w'=>e = .returned (.int .i64 0) /\ PgL w' base p on v T cs.dropLast /\ ∃ q,Two w w' p q /\ p < w0.heap.size /\ ∀ k,q = some k -> base <= k /\ k < w0.heap.size:=by
 have hle:=h.le;obtain ⟨B,cap,Ts,t,h1,h2,h3⟩:=h.ex;obtain ⟨h4,h5⟩:=Y6 _ _ _ _ _ h3;have hbp:=h1.btp.lt;have hbB:∀ k,blk B = some k -> k < w0.heap.size:=fun k hk=>(h1.btB k hk).lt;have hgB:=h1.geB (by simp);refine (ZiA base p cap B Ts t w (h1.below hb) (by omega) (by omega)).mono ?_;rintro e w' ⟨he,hL,hTwo⟩;obtain ⟨Us,u,hU⟩:∃ Us u,Ts = Us ++ [u]:=⟨Ts.dropLast,Ts.getLast (by intro e;rw [e] at h5;simp at h5;omega),(List.dropLast_concat_getLast _).symm⟩;subst hU;refine ⟨he,⟨⟨B,cap,Us,u,hL,fun x hx=>h2 x (by simp only [List.mem_append] at hx ⊢;exact .inl hx),?_⟩,hle⟩,blk B,hTwo,hbp,fun k hk=>⟨hgB k hk,hbB k hk⟩⟩;rw [Zee _ _ (by omega),<- h3,List.map_append (l₂:=[t]),List.map_cons,List.map_nil,List.dropLast_concat]
theorem GLo.langBox {w:World} {base k c:Nat} {A:Option Addr} {L:List Gm} {cs:Array Value} (h:GLo w base A c L) (hk:w.heap[k]? = some (.cells cs 34 (0,0))) (v0 v1 v2:Value):GLo (((w.setCell ⟨k,0,none⟩ v0).setCell ⟨k,1,none⟩ v1).setCell ⟨k,2,none⟩ v2) base A c L:=
 h.block (by simp [World.setCell]) (fun b hb=>JR (by
  rcases hb with hb | hb
  ·exact hb.ne ⟨_,_,hk⟩ (by decide)
  ·exact hb.1.ne ⟨_,_,hk⟩ (by decide)) _ _ _)
theorem GLo.tabBox {w:World} {base k c:Nat} {A:Option Addr} {L:List Gm} {cs:Array Value} (h:GLo w base A c L) (hk:w.heap[k]? = some (.cells cs 27 (0,0))) (v0 v1 v2:Value):GLo (((w.setCell ⟨k,0,none⟩ v0).setCell ⟨k,1,none⟩ v1).setCell ⟨k,2,none⟩ v2) base A c L:=
 h.block (by simp [World.setCell]) (fun b hb=>JR (by
  rcases hb with hb | hb
  ·exact hb.ne ⟨_,_,hk⟩ (by decide)
  ·exact hb.1.ne ⟨_,_,hk⟩ (by decide)) _ _ _)
theorem Zae {w:World} {k:Nat} {o v kd:Int} {A A2:Option Addr} {n c n2 c2 mn mc:Nat} {x:Fr} {M:Option Addr} (h:w.heap[k]? = some (.cells (lgv o v A n c kd x M mn mc) 34 (0,0))) :
  (((w.setCell ⟨k,0,none⟩ (.int .i64 o)).setCell ⟨k,1,none⟩ (.int .i64 v)).setCell ⟨k,2,none⟩ (.slice A2 n2 c2)).heap[k]? = some (.cells (lgv o v A2 n2 c2 kd x M mn mc) 34 (0,0)):=by
 have h1:=JT h 0 (.int .i64 o);have h2:=JT h1 1 (.int .i64 v);have h3:=JT h2 2 (.slice A2 n2 c2);exact h3
theorem Xu (w:World):Calls Tryz.prog 7 #[] w (ZaE true w):=by
 have D3:=zH (ZgA (ZgA (Led.nil w) #[.int .i64 1] 3 w.heap.size rfl) #[.slice (some ⟨w.heap.size,0,none⟩) 1 1] 35 (w.heap.size + 1) (by simp));go_enter Tryz.func7,Tryz.ntmps7;go_wp2_with fail;refine (ZjR w.heap.size (w.heap.size + 1) _ (D3.out.lies 0 _ _ rfl) (D3.out.lies 1 _ _ rfl)).mono ?_;rintro e w4 ⟨CA,Cc,CL,rfl,hgl,htb,hb4⟩;have HB4:=zH (D3.out.bel.trans (hb4.mono D3.out.bel.size));have HGL:=zH hgl;have HTB:=zH htb;clear hgl htb hb4 D3;go_wp2_with fail;refine (ZjP CA Cc CL w4 _ HGL.out HTB.out).mono ?_;rintro e w5 ⟨hb5,p,B,t,rfl,hL,ho,hv,ht,hpg⟩;have HB5:Hid (Below w.heap.size w w5):=zH (HB4.out.trans (hb5.mono HB4.out.size));have HL5:=zH hL;have HT:=zH (show t.o = 1 /\ t.v = 1 /\ Je t.L = [([0],1),([1],1)] from ⟨ho,hv,ht⟩);have HPG:=zH (show w4.heap.size <= p /\ w4.heap.size <= w5.heap.size /\ w.heap.size <= w4.heap.size from ⟨hpg,hb5.size,HB4.out.size⟩);clear hb5 hL ho hv ht hpg HGL HTB HB4;obtain ⟨V,hV⟩:∃ V:World,V = w5.alloc (.cells #[.int .i64 1,.int .i64 1] 3):=⟨_,rfl⟩;have HBV:Hid (Below w5.heap.size w5 V):=zH (by rw [hV];exact bR.alloc nR _);have HIN:Hid (InOk V (some ⟨w5.heap.size,0,none⟩,2,[1,1])):=zH (by rw [hV];exact Zj2 (l:=[1,1]) ((ZgA (Led.nil w5) #[.int .i64 1,.int .i64 1] 3 _ rfl).lies 0 _ _ rfl) (by decide) (by decide));have HLV:=zH (HL5.out.below HBV.out);have HWV:=zH (HB5.out.trans (HBV.out.mono HB5.out.size));have HK:=zH (ZjQ w4.heap.size p B t (some ⟨w5.heap.size,0,none⟩) 2 V HLV.out (tR HPG.out.2.1 HBV.out.size) HPG.out.1 HT.out.1 HT.out.2.1 HT.out.2.2 HIN.out);clear HL5 HB5 HBV HIN;go_wp2_with fail;rw [<- hV];clear hV;refine HK.out.mono ?_;rintro e w12 ⟨rfl,B',cap',t2,hL2,ho2,hv2,ht2,hTwo⟩;have HW12:Hid (Below w.heap.size w w12):=zH (HWV.out.trans (hTwo.below HWV.out.size (tR HPG.out.2.2 HPG.out.1) (fun k hk=>tR HPG.out.2.2 (HLV.out.geB (by simp) k hk))));have HL12:Hid (LrI w12 w4.heap.size p B' cap' ([t] ++ [t2])):=zH hL2;have HT2:=zH (show t2.o = 1 /\ t2.v = 1 /\ Je t2.L = [([0],3),([1],5)] from ⟨ho2,hv2,ht2⟩);clear hL2 ho2 hv2 ht2 hTwo HK HLV HWV HT;go_wp2_with fail;refine (Qr w4.heap.size p cap' B' [t] t2 w12 HL12.out (by simp)).mono ?_;rintro e w13 ⟨TA,Tc,TL,rfl,hgl,htb,hb13⟩;have htl:Je TL = [([0],3),([1],5)]:=htb.trans HT2.out.2.2;have hlen:TL.length = 2:=by have:=congrArg List.length htl;simpa using this
 obtain ⟨g0,g1,rfl⟩:∃ g0 g1,TL = [g0,g1]:=by
  match TL,hlen with
  | [a,b],_=>exact ⟨a,b,rfl⟩
 have hg0:g0.2 = 3:=by simp at htl;exact htl.1.2
 have hg1:g1.2 = 5:=by simp at htl;exact htl.2.2
 have HW13:=zH (HW12.out.trans (hb13.mono HW12.out.size));obtain ⟨V13,hV13⟩:∃ V13:World,V13 = w13.alloc (.cells #[.int .i64 t2.o,.int .i64 t2.v,.slice TA 2 Tc] 27):=⟨_,rfl⟩;have HBV:Hid (Below w13.heap.size w13 V13):=zH (by rw [hV13];exact bR.alloc nR _);have hx13:V13.heap[w13.heap.size]? = some (.cells #[.int .i64 t2.o,.int .i64 t2.v,.slice TA 2 Tc] 27 (0,0)):=by rw [hV13];exact heap_alloc_new w13 _
 obtain ⟨tb,toff,rfl,htbl,-,hc0⟩:=(hgl.tb.below HBV.out).at_ (k:=0) (by simp);obtain ⟨tb',toff',e1,-,-,hc1⟩:=(hgl.tb.below HBV.out).at_ (k:=1) (by simp);cases e1;simp only [List.getElem_cons_zero,List.getElem_cons_succ,hg0,hg1,Nat.zero_mul,Nat.add_zero,Nat.one_mul] at hc0 hc1;have b2:V13.cell? ⟨w13.heap.size,2,none⟩ = some (.slice (some ⟨tb,toff,none⟩) 2 Tc):=(cR 2 hx13).trans rfl;have HWV:=zH (HW13.out.trans (HBV.out.mono HW13.out.size));clear hgl htb htl hlen hg0 hg1 hb13 HW12 HL12 HT2 HW13 hx13;simp only [List.length_cons,List.length_nil,Nat.zero_add,Nat.reduceAdd];go_upto_region 5 with fail;rw [<- hV13];clear hV13 HBV;go_wp2_with fail;go_ret;exact ⟨Jm rfl,HWV.out⟩
end Go.Proofs.YtlgdlenoohkipaaGreat
