/- TalkBetter -/
import Derived.Test.YtcjicjfbippmnaaGreatMTBett34
import Derived.Sort.CutIn
set_option maxRecDepth 100000
set_option maxHeartbeats 32000000
namespace Go.Proofs.YtcjicjfbippmnaaGreat
open Go.RowKit Ear
attribute [local go_sem] Oper.semAt_some

abbrev rv (V:Nat) (g:Nat):Value:=.slice (some ⟨g,0,none⟩) V V
structure WgI (V:Nat) (q:Rat) (ct:K4 -> Int -> Int) (o:Nat) (s:List Int) (w0 W4:World) (mb tb:Nat) (k:Nat) (W:World):Prop where
 map:∃ ms:List (K4 × Nat),MapIs Tryz.prog 203 ek (rv V) W mb ms /\ ∀ p ∈ ms,FRw W W4.heap.size p.2 V (rwF ct V q p.1)
 box:∃ x,Fb W tb x /\ Fq W x (prW ct V q o s k)
 size:W4.heap.size <= W.heap.size
 same:∀ b,b < W4.heap.size -> b ≠ mb -> b ≠ tb -> W.heap[b]? = W4.heap[b]?
 below:Below w0.heap.size w0 W
theorem WgI.below' {V:Nat} {q:Rat} {ct:K4 -> Int -> Int} {o:Nat} {s:List Int} {w0 W4:World} {mb tb k:Nat} {W W':World} (h:WgI V q ct o s w0 W4 mb tb k W) (hb:Below W.heap.size W W'):WgI V q ct o s w0 W4 mb tb k W':=by
 obtain ⟨ms,h1,h2⟩:=h.map;obtain ⟨x,h3,h4⟩:=h.box;exact ⟨⟨ms,h1.below hb,fun p hp=>(h2 p hp).below hb⟩,⟨x,h3.below hb,h4.below hb⟩,tR h.size hb.size,fun b hlt h5 h6=>(hb.block b (Nat.lt_of_lt_of_le hlt h.size)).trans (h.same b hlt h5 h6),h.below.trans (hb.mono h.below.size)⟩
theorem WgI.put {V:Nat} {q:Rat} {ct:K4 -> Int -> Int} {o:Nat} {s:List Int} {w0 W4:World} {mb tb k:Nat} {W:World} (h:WgI V q ct o s w0 W4 mb tb k W) {l:Nat} {o1:Obj} (o':Obj) (hl:W4.heap.size <= l) (hlo:W.heap[l]? = some o1) (hc:o1.isCells = false) (hm:mb < W4.heap.size) (ht:tb < W4.heap.size) (h0:w0.heap.size <= W4.heap.size):WgI V q ct o s w0 W4 mb tb k (W.putObj l o'):=by
 have hk:KpC W (W.putObj l o'):=KpC.put W l o1 o' hlo (fun cs t fr e=>by subst e;cases hc);have hz:∀ b,b ≠ l -> (W.putObj l o').heap[b]? = W.heap[b]?:=fun b hb=>World.putObj_heap_other hb;obtain ⟨ms,h1,h2⟩:=h.map;obtain ⟨x,h3,h4⟩:=h.box;refine ⟨⟨ms,h1.same (hz _ (by omega)),fun p hp=>?_⟩,⟨x,(hz _ (by omega)).trans h3,h4.ku (KU.kpc hk)⟩,by simpa using h.size,fun b hlt h5 h6=>(hz b (by omega)).trans (h.same b hlt h5 h6),⟨h.below.os,h.below.tape,h.below.output,by simpa using h.below.size,fun b hb=>(hz b (by omega)).trans (h.below.block b hb)⟩⟩;refine (h2 p hp).ku (hz _ ?_) (KU.kpc hk);intro e;obtain ⟨Rs,hr,_⟩:=h2 p hp;obtain ⟨_,r2⟩:=hr;rcases r2 with ⟨e2,_⟩ | ⟨g',cap,cur,hv,hb',hg,r1,r2,r3,r4⟩
 ·cases e2
 ·injection hv with e1 e2 e3
  injection e1 with e1
  injection e1 with e1 _ _
  subst e1;rw [e,hlo] at hg;injection hg with hg
  rw [hg] at hc;cases hc
theorem Zem (o V:Nat) (A B:Option Addr) (c d:Nat) (L:List Gm) (s:List Int) (x:Fr) (q:Rat) (w:World) (hT:Tb w A L) (hv:Hid (Yb o ((V:Int) - 1) (Jd L) = 0)) (hV : 2 <= V /\ V <= 100) (hx:Fv w x q) (fx:Few x 100) (hq : 0 < q)
  (hS:Lies w B (ics s)) (hSn:B = none -> d = 0) (hs:s.length <= 400) (ha:Hid (Xx 1 ((V:Int) - 1) s = true)) :
  Calls Tryz.prog 109 #[.agg (lgc o ((V:Int) - 1) A L.length c x),.slice B s.length d] w (ZA (prW (ctL o (Jd L)) V q o s (s.length + 1)) w):=by
 obtain ⟨v,hvv⟩:∃ v,v = (V:Int) - 1:=⟨_,rfl⟩;have HVE:=zH hvv;have hz:=(JO.1 hv.out).2.1;have hsz:=JB.1 hz;have ho1 : 1 <= o:=by omega
 have ho2:o <= 4:=by omega
 rw [<- hvv] at hv ha hz ⊢;clear hsz;obtain ⟨W0,hW0⟩:∃ X:World,X = (w.alloc (.cells (lgc o v A L.length c x) 108)).alloc (.cells #[.bool false,.slice none 0 0,.slice none 0 0] 28):=⟨_,rfl⟩;have HB0:Hid (Below w.heap.size w W0):=zH (by rw [hW0];exact al2 w _ _);have HX0:Hid (W0.heap[w.heap.size]? = some (.cells (lgc o v A L.length c x) 108 (0,0))):=zH (by rw [hW0];exact (Zdo _ _ _).trans (heap_alloc_new w _));have HR0:Hid (W0.heap[w.heap.size + 1]? = some (.cells #[.bool false,.slice none 0 0,.slice none 0 0] 28 (0,0))):=zH (by rw [hW0];exact ZbG _ _ _ _);have HPB:=zH (Zau HX0.out);have HTB:=zH (hT.below HB0.out);have HXV:=zH (hx.below HB0.out);have HSQ:Hid (Sz q 100):=zH (hx.sz fx (by decide));have HSL:=zH (hS.below HB0.out);have HQ:=zH hq;have HSN:=zH hSn;have HZ:=zH hz;have HWY:=zH (ZhT o V A c L x W0 HTB.out (zH (by rw [<- hvv];exact hv.out)) (by omega));rw [<- hvv] at HWY;obtain ⟨c0,c1,c2,c3,c4,c5,c6,c7⟩:=HPB.out W0 bR;clear hT hx hS hq hSn hvv hz;refine (callsIn_wide (n:=9)).1 ?_;refine callsIn_of_wp_marks Tryz.func109 rfl trivial ?_ rfl;simp only [Tryz.ntmps109,List.size_toArray,List.length_cons,List.length_nil,Nat.reduceAdd,Nat.reduceSub,Array.replicate_succ,Array.replicate_zero,List.push_toArray,List.append_toArray,List.nil_append,List.cons_append]
 gi_upto_region 1 with fail
 rw [<- hW0];clear hW0
 gi_wp2
 refine ⟨trivial,?_⟩;refine ((callsIn_wide (n:=8)).2 HWY.out).mono ?_;rintro e w1 ⟨lb,b,rfl,hcell,hlvl,hb1⟩;have HCE:=zH hcell;have HLV:=zH hlvl;have HB1:=zH hb1;clear hcell hlvl hb1 HWY c0 c1 c2 c3 c4 c5 c6 c7;obtain ⟨iv,hiv⟩:∃ iv,iv = adV lb o V x:=⟨_,rfl⟩;rw [<- hiv];have HIV:=zH hiv;clear hiv;obtain ⟨Wa,hWa⟩:∃ X:World,X = w1.alloc (.cells #[.iface 240 iv] 209):=⟨_,rfl⟩;have HBa:Hid (Below w1.heap.size w1 Wa):=zH (by rw [hWa];exact bR.alloc nR _);have HIa:Hid (Wa.heap[w1.heap.size]? = some (.cells #[.iface 240 iv] 209 (0,0))):=zH (by rw [hWa];exact heap_alloc_new w1 _)
 gi_upto_region 2 with fail
 rw [<- hWa];clear hWa;obtain ⟨ib,hib⟩:∃ ib,ib = w1.heap.size:=⟨_,rfl⟩;rw [<- hib] at HIa ⊢;have HIB:=zH hib;clear hib;have hmk:=Zbg 211;obtain ⟨Wb,hWb⟩:∃ X:World,X = (Wa.alloc (.map #[] 0)).alloc (.cells #[.map (some Wa.heap.size)] 211):=⟨_,rfl⟩;have HBb:Hid (Below Wa.heap.size Wa Wb):=zH (by rw [hWb];exact al2 Wa _ _);have HMb:Hid (MapIs Tryz.prog 203 ek (rv V) Wb Wa.heap.size []):=zH (by rw [hWb];exact (MapIs.made Tryz.prog 203 ek (rv V) Wa).below (bR.alloc nR _));have HKb:Hid (Wb.heap[Wa.heap.size + 1]? = some (.cells #[.map (some Wa.heap.size)] 211 (0,0))):=zH (by rw [hWb];exact ZbG _ _ _ _)
 gi_upto_region 3 with fail
 rw [<- hWb];clear hWb hmk;obtain ⟨mb,hmb⟩:∃ mb,mb = Wa.heap.size:=⟨_,rfl⟩;rw [<- hmb] at HMb HKb ⊢;have HMB:=zH hmb;have hmb1:ib < mb:=by rw [hmb];exact (aE HIa.out).1
 clear hmb;have hkb1:mb + 1 < Wb.heap.size:=(aE HKb.out).1
 gi_wp2
 refine ⟨trivial,?_⟩;refine ((callsIn_wide (n:=8)).2 (Zo 1 Wb (by omega) (by omega))).mono ?_;rintro e w3 ⟨r1,rfl,hr1,hb3⟩;obtain ⟨Wc,hWc⟩:∃ X:World,X = w3.alloc (.cells #[.bool r1.neg,.slice r1.A r1.N.length r1.c,.slice r1.B r1.D.length r1.d] 28):=⟨_,rfl⟩;have HB3:=zH hb3;have HBc:Hid (Below w3.heap.size w3 Wc):=zH (by rw [hWc];exact bR.alloc nR _);have HFc:Hid (Fb Wc w3.heap.size r1):=zH (by rw [hWc];exact Fb.new w3 r1);have HQc:=zH (hr1.below HBc.out);clear hr1 hb3
 gi_upto_region 4 with fail
 rw [<- hWc];clear hWc;obtain ⟨tb,htb⟩:∃ tb,tb = w3.heap.size:=⟨_,rfl⟩;rw [<- htb] at HFc ⊢;have HTB2:=zH htb;have htb1:mb + 1 < tb:=by have:=HB3.out.size;omega
 clear htb;have HB13:Hid (Below Wb.heap.size Wb Wc):=zH (HB3.out.trans (HBc.out.mono HB3.out.size));have HB12:Hid (Below w1.heap.size w1 Wc):=zH ((HBa.out.trans (HBb.out.mono HBa.out.size)).trans (HB13.out.mono (tR HBa.out.size HBb.out.size)));have HB02:Hid (Below W0.heap.size W0 Wc):=zH (HB1.out.trans (HB12.out.mono HB1.out.size));obtain ⟨c0,c1,c2,c3,c4,c5,c6,c7⟩:=HPB.out Wc HB02.out;clear c1 c2 c3 c4 c5 c6 c7;obtain ⟨Wd,hWd⟩:∃ X:World,X = Wc.alloc (.cells #[.int .i64 (o:Int)] 3):=⟨_,rfl⟩;have HBd:Hid (Below Wc.heap.size Wc Wd):=zH (by rw [hWd];exact bR.alloc nR _);have HOd:Hid (Wd.heap[Wc.heap.size]? = some (.cells #[.int .i64 (o:Int)] 3 (0,0))):=zH (by rw [hWd];exact heap_alloc_new Wc _)
 gi_upto_region 5 with fail
 rw [<- hWd];clear hWd c0;obtain ⟨ob,hob⟩:∃ ob,ob = Wc.heap.size:=⟨_,rfl⟩;rw [<- hob] at HOd ⊢;have hob1:tb < ob:=by rw [hob];exact HFc.out.lt
 have HOB:=zH hob;clear hob;have c0:Wd.cell? ⟨ob,0,none⟩ = some (.int .i64 (o:Int)):=(cR 0 HOd.out).trans rfl;have HC0:=zH c0
 gi_wp2
 refine ⟨trivial,?_⟩;refine ((callsIn_wide (n:=8)).2 (Zbu o B s.length d Wd)).mono ?_;rintro e W4 ⟨rfl,hW4⟩;have hs4:Wd.heap.size + 2 = W4.heap.size:=by rw [hW4];simp
 have HB4:Hid (Below Wd.heap.size Wd W4):=zH (by rw [hW4];exact al2 Wd _ _);have hO4:W4.heap[Wd.heap.size]? = some (.cells #[.int .i64 (o:Int)] 3 (0,0)):=by rw [hW4];exact (Zdo _ _ _).trans (heap_alloc_new Wd _)
 have hS4:W4.heap[Wd.heap.size + 1]? = some (.cells #[.slice B s.length d] 40 (0,0)):=by rw [hW4];exact ZbG _ _ _ _
 obtain ⟨gb,hgb⟩:∃ gb,gb = Wd.heap.size:=⟨_,rfl⟩;rw [<- hgb] at hO4 hS4 hs4 ⊢;have HO4:Hid (W4.cell? ⟨gb,0,none⟩ = some (.int .i64 (o:Int))):=zH ((cR 0 hO4).trans rfl);have HS4:Hid (W4.cell? ⟨gb + 1,0,none⟩ = some (.slice B s.length d)):=zH ((cR 0 hS4).trans rfl);have hog:ob < gb:=by rw [hgb];exact (aE HOd.out).1
 have HGB:=zH hgb;clear hgb hO4 hS4 hW4 c0;have HC4:Hid (Below Wc.heap.size Wc W4):=zH (HBd.out.trans (HB4.out.mono HBd.out.size));have HB14:Hid (Below w1.heap.size w1 W4):=zH (HB12.out.trans (HC4.out.mono HB12.out.size));have HB24:Hid (Below Wb.heap.size Wb W4):=zH (HB13.out.trans (HC4.out.mono HB13.out.size));have HIM:Hid (WgI V q (ctL o (Jd L)) o s w1 W4 mb tb 0 W4):=zH ⟨⟨[],HMb.out.below HB24.out,by simp⟩,⟨r1,HFc.out.below HC4.out,by have:=HQc.out.below HC4.out;simpa [prW] using this⟩,Nat.le_refl _,fun _ _ _ _=>rfl,HB14.out⟩;have HI4:Hid (W4.heap[ib]? = some (.cells #[.iface 240 iv] 209 (0,0))):=zH ((((HBb.out.trans (HB13.out.mono HBb.out.size)).trans (HC4.out.mono (tR HBb.out.size HB13.out.size))).block ib (by have:=HMB.out;omega)).trans HIa.out);have HK4:Hid (W4.heap[mb + 1]? = some (.cells #[.map (some mb)] 211 (0,0))):=zH ((HB24.out.block _ hkb1).trans HKb.out);have HD4:Hid (W4.heap[ob]? = some (.cells #[.int .i64 (o:Int)] 3 (0,0))):=zH ((HB4.out.block ob (by have:=HGB.out;omega)).trans HOd.out);have HLS:Hid (Lies W4 B (ics s)):=zH ((HSL.out.below HB1.out).below HB14.out);have HXV1:=zH (HXV.out.below HB1.out);have hw14:w1.heap.size <= W4.heap.size:=HB14.out.size;have hib1:w1.heap.size <= ib:=by have:=HIB.out;omega
 have HWW:Hid (Below w.heap.size w w1):=zH (HB0.out.trans (HB1.out.mono HB0.out.size));have HR1:Hid (w1.heap[w.heap.size + 1]? = some (.cells #[.bool false,.slice none 0 0,.slice none 0 0] 28 (0,0))):=zH ((HB1.out.block _ (aE HR0.out).1).trans HR0.out);clear HB0 HX0 HR0 HPB HTB HXV HSL HB1 HBa HIa HBb HMb HKb HB3 HBc HFc HQc HB13 HB12 HB02 HBd HOd HC0 HB4 HC4 HB24
 gi_wp2
 refine Za1 (w:=W4) rfl (by decide) (gf:=184) (lb:=#[.pointer (some ⟨gb,0,none⟩),.pointer (some ⟨gb + 1,0,none⟩)]) rfl trivial (enters_of Tryz.func184 (by kernel_rfl) rfl)
   (s.length + 1) (WgI V q (ctL o (Jd L)) o s w1 W4 mb tb) (GmX o s) (KpT tb) (fun h k=>KpT.trans h k) ?hKb rfl ?hIb ?hIp ?hXp HIM.out ?hseq ?hround ?hdone
 case hKb=>exact fun W l o o' hl ho hc=>KpT.put W l o o' ho (fun cs t fr e=>by subst e;cases hc)
 case hIb=>exact fun k W W' hi _ hb=>hi.below' hb
 case hIp=>exact fun k W l o o' hl ho hc hi=>hi.put o' hl ho hc (by omega) (by omega) hw14
 case hXp=>
  rintro k v W l o o' hl ho hc ⟨g,rfl,hw⟩;exact ⟨g,rfl,Zbm hw o' ho hc⟩
 case hseq=>
  intro l J W hW hJb hJ0 hY;exact ZdW l gb (gb + 1) tb B d s o ho1 ho2 (by omega) HSN.out J hJb (zH hY) W ((hW.cell (p:=⟨gb,0,none⟩) (by show gb < _;omega)).trans HO4.out) ((hW.cell (p:=⟨gb + 1,0,none⟩) (by show gb + 1 < _;omega)).trans HS4.out) (HLS.out.below hW) hJ0 (by omega) (by have:=hW.size;omega)
 case hround=>
  rintro l k u W W5 hI ⟨g,rfl,hg⟩ hkN;have HI:=zH hI;have HGL:Hid ((Jr o s k).length = o):=zH (JQ ho1 hkN);have HGS:=zH (VZ ha.out HZ.out k);obtain ⟨ga,go,rfl,hga,hgc⟩:=hg (by simp [HGL.out];omega);have HG:=zH hg;clear hI hg hga hgc;obtain ⟨p,hp⟩:∃ p,p = o - 1:=⟨_,rfl⟩;have p1:IntKind.i64.wrap ((o:Int) - 1) = (p:Int):=by rw [IntWalk.i64_in _ (by omega)];omega
  have hpo:(p:Int) <= (o:Int):=by omega
  have HP:=zH hp;have hp4:p <= 3:=by omega
  clear hp;have cO5:W5.cell? ⟨ob,0,none⟩ = some (.int .i64 (o:Int)):=(cR 0 ((HI.out.same ob (by omega) (by omega) (by omega)).trans HD4.out)).trans rfl;have HC5:=zH cO5;obtain ⟨gl,hgl⟩:∃ gl,gl = Jr o s k:=⟨_,rfl⟩;rw [<- hgl] at HG HGL HGS;have HGE:=zH hgl;clear hgl;have HGP:Hid (Lies W5 (some ⟨ga,go,none⟩) (ics (gl.take p))):=zH (by
   have:=Zij HG.out p;simpa [ics] using this)
  have HPL:Hid ((gl.take p).length = p):=zH (by rw [List.length_take,HGL.out];omega);have HPS:Hid (∀ y ∈ gl.take p,0 <= y /\ y <= 1000000):=zH (fun y hy=>HGS.out y (List.mem_of_mem_take hy));have hk9:=Zu (some ⟨ga,go,none⟩) o (gl.take p) W5 HGP.out (by rw [HPL.out];omega) HPS;rw [HPL.out] at hk9;obtain ⟨key,hkey⟩:∃ key,key = kOf (gl.take p):=⟨_,rfl⟩;rw [<- hkey] at hk9;have HK9:=zH hk9;have HKE:=zH hkey;have HKK:Hid (kOk key):=zH (by rw [hkey];exact Zfo (by rw [HPL.out];omega) HPS.out);clear hk9 hkey
  gi_wp2
  refine ⟨by trivial,?_⟩;refine wpIn_block ?_;obtain ⟨y0,y1,y2,y3⟩:=key
  gi_wp2
  refine ⟨trivial,(CallsIn.inRound l ((callsIn_wide (n:=6)).2 HK9.out)).mono ?_⟩;rintro e w6 ⟨rfl,hb6⟩;obtain ⟨W6,hW6⟩:∃ X:World,X = w6.alloc (.cells #[.int .i64 y0,.int .i64 y1,.int .i64 y2,.int .i64 y3] 203):=⟨_,rfl⟩;have HB6:Hid (Below W5.heap.size W5 W6):=zH (by rw [hW6];exact hb6.alloc hb6.size _);have HY6:Hid (W6.heap[w6.heap.size]? = some (.cells #[.int .i64 y0,.int .i64 y1,.int .i64 y2,.int .i64 y3] 203 (0,0))):=zH (by rw [hW6];exact heap_alloc_new w6 _);have hs56:W5.heap.size <= w6.heap.size:=hb6.size;clear hb6 cO5;simp only [ek]
  gi_upto_region 8 with fail
  rw [<- hW6];clear hW6;obtain ⟨kb,hkb⟩:∃ kb,kb = w6.heap.size:=⟨_,rfl⟩;rw [<- hkb] at HY6 hs56 ⊢;have HKBE:=zH hkb;clear hkb HK9;have HI6:=zH (HI.out.below' HB6.out);have HG6:=zH (HG.out.below HB6.out);have HGP6:=zH (HGP.out.below HB6.out);have h46:W4.heap.size <= W6.heap.size:=HI6.out.size;have h56:W4.heap.size <= W5.heap.size:=HI.out.size;have HC6:Hid (∀ u,Below W6.heap.size W6 u -> u.cell? ⟨mb + 1,0,none⟩ = some (.map (some mb)) /\ u.cell? ⟨ob,0,none⟩ = some (.int .i64 (o:Int)) /\ u.cell? ⟨ib,0,none⟩ = some (.iface 240 iv) /\ u.cell? ⟨kb,0,none⟩ = some (.int .i64 y0) /\ u.cell? ⟨kb,1,none⟩ = some (.int .i64 y1) /\ u.cell? ⟨kb,2,none⟩ = some (.int .i64 y2) /\ u.cell? ⟨kb,3,none⟩ = some (.int .i64 y3)):=zH (fun u hu=>by
   have hh:=(hu.block _ (aE HY6.out).1).trans HY6.out;have q1:=((hu.block (mb + 1) (by omega)).trans (HI6.out.same (mb + 1) (by omega) (by omega) (by omega))).trans HK4.out;have q2:=((hu.block ob (by omega)).trans (HI6.out.same ob (by omega) (by omega) (by omega))).trans HD4.out;have q3:=((hu.block ib (by omega)).trans (HI6.out.same ib (by omega) (by omega) (by omega))).trans HI4.out;exact ⟨(cR 0 q1).trans rfl,(cR 0 q2).trans rfl,(cR 0 q3).trans rfl,(cR 0 hh).trans rfl,(cR 1 hh).trans rfl,(cR 2 hh).trans rfl,(cR 3 hh).trans rfl⟩)
  obtain ⟨ms,hms,hrw⟩:=HI6.out.map;obtain ⟨lk,hlk⟩:=Ul _ HKK.out;have HMS:=zH hms;have HRW:=zH hrw;have HLQ:=zH hlk;clear hms hrw hlk;obtain ⟨sv,bv,hlk,hbn,heg,hcs⟩:∃ sv bv,(Instr.lookup 211 (.map (some mb)) (.agg #[.int .i64 y0,.int .i64 y1,.int .i64 y2,.int .i64 y3]) false).run Tryz.prog W6 = .ok sv W6 /\ (binOp .eql 106 sv (.slice none 0 0)).run Tryz.prog W6 = .ok (.bool bv) W6 /\ (eqGuard .eql 106 (.tmp 29) (.const (.slice none 0 0)) sv (.slice none 0 0)).run Tryz.prog W6 = .ok () W6 /\ ((bv = true /\ JG ms (y0,y1,y2,y3) = none) ∨ (bv = false /\ ∃ rb,JG ms (y0,y1,y2,y3) = some rb)):=by
   have h1:=HMS.out.lookup J4 Y6 Tryz.underlying211 (Tryz.zeroValue106 W6) (y0,y1,y2,y3) HLQ.out;cases hg:JG ms (y0,y1,y2,y3) with
   | none=>
    rw [hg] at h1;exact ⟨_,true,h1,Zcp W6,Zfz _ _ W6,.inl ⟨rfl,rfl⟩⟩
   | some rb=>
    rw [hg] at h1;exact ⟨_,false,h1,Zcq rb V W6,ZfA rb V _ _ W6,.inr ⟨rfl,rb,rfl⟩⟩
  have HCS:=zH hcs;clear hcs;obtain ⟨c0,c1,c2,c3,c4,c5,c6⟩:=HC6.out W6 bR
  gi_upto_if 30 with fail
  clear c0 c1 c2 c3 c4 c5 c6 hlk hbn heg
  gi_cut [] from 31 (fun wx=>∃ ms2 rb,Hid (JG ms2 (y0,y1,y2,y3) = some rb) /\ Hid (MapIs Tryz.prog 203 ek (rv V) wx mb ms2) /\ Hid (∀ p ∈ ms2,FRw wx W4.heap.size p.2 V (rwF (ctL o (Jd L)) V q p.1)) /\ Hid (Kept W6 wx mb) /\ Hid (KpC W6 wx) /\ Hid (Below w1.heap.size w1 wx))
  case first=>
   rcases HCS.out with ⟨rfl,hg⟩ | ⟨rfl,rb,hg⟩
   ·have HGG:=zH hg;clear hg HCS;have HW6:Hid (Below w1.heap.size w1 W6):=zH HI6.out.below;have HCL:Hid (∀ u,Below W6.heap.size W6 u -> Calls Tryz.prog 247 #[iv,.int .i64 (o:Int),.slice (some ⟨ga,go,none⟩) p o] u (RetRow u.heap.size V (ctL o (Jd L) (y0,y1,y2,y3)) q u)):=zH (fun u hu=>by
     have hu1:Below w1.heap.size w1 u:=HW6.out.trans (hu.mono HW6.out.size);have:=Zf2 lb 0 (o + 1) (o + 1) V o x q (some ⟨ga,go,none⟩) o (gl.take p) b (ctL o (Jd L)) u ((hu1.cell (p:=⟨lb,0 + o,none⟩) (Xg HCE.out)).trans HCE.out) (by omega) (HLV.out.below hu1) (HGP6.out.below hu) (by rw [HPL.out];omega) HPS (HXV1.out.below hu1) fx HQ.out (by omega) (by omega);rw [HPL.out,<- HKE.out] at this;rw [HIV.out];exact this)
    have hV0 : 0 < V:=by omega
    gi_upto_region 9 with fail
    refine JV 12 56 rfl rfl (by kernel_rfl) (by kernel_rfl) (by kernel_rfl) (by kernel_rfl) (fun u => Below W6.heap.size W6 u) (fun u u' => Below u.heap.size u u') (Gl [isV (.map (some mb)), isV (.agg #[.int .i64 y0, .int .i64 y1, .int .i64 y2, .int .i64 y3]), isV (.iface 240 iv), isV (.int .i64 (o : Int)), isV (.slice (some ⟨ga, go, none⟩) o o), isV (.int .i64 (o : Int)), isV (.int .i64 (p : Int)), isV (.slice (some ⟨ga, go, none⟩) p o), isV (.func (.method "earshot/gram.row") #[.iface 240 iv] #[]), isV (.func (.method "earshot/gram.row") #[.iface 240 iv] #[]), isV (.iface 240 iv), isRw W6.heap.size V (rwF (ctL o (Jd L)) V q (y0, y1, y2, y3))]) (Gl.keep (by
      intro p hp;simp only [List.mem_cons,List.not_mem_nil,or_false] at hp;rcases hp with rfl | rfl | rfl | rfl | rfl | rfl | rfl | rfl | rfl | rfl | rfl | rfl
      ·exact Keeps.isV _
      ·exact Keeps.isV _
      ·exact Keeps.isV _
      ·exact Keeps.isV _
      ·exact Keeps.isV _
      ·exact Keeps.isV _
      ·exact Keeps.isV _
      ·exact Keeps.isV _
      ·exact Keeps.isV _
      ·exact Keeps.isV _
      ·exact Keeps.isV _
      ·exact Keeps.isRw _ _ _)) (Below.refl _ W6).drew ?_ ?_
    ·refine ⟨?_,?_,?_,?_,?_,?_,?_,?_,?_,?_,?_,?_,trivial⟩
     ·intro bb u su dp kp K hK;have e6:gT bb 6 = .pointer (some ⟨mb + 1,0,none⟩):=kp 6 (by kernel_rfl);obtain ⟨c0,c1,c2,c3,c4,c5,c6⟩:=HC6.out u su;go_simp;exact hK _ _ su bR rfl
     ·intro bb u su dp kp K hK;have e10:gT bb 10 = .pointer (some ⟨kb,0,none⟩):=kp 10 (by kernel_rfl);obtain ⟨c0,c1,c2,c3,c4,c5,c6⟩:=HC6.out u su;go_simp;exact hK _ _ su bR rfl
     ·intro bb u su dp kp K hK;have e5:gT bb 5 = .pointer (some ⟨ib,0,none⟩):=kp 5 (by kernel_rfl);obtain ⟨c0,c1,c2,c3,c4,c5,c6⟩:=HC6.out u su;go_simp;exact hK _ _ su bR rfl
     ·intro bb u su dp kp K hK;have e8:gT bb 8 = .pointer (some ⟨ob,0,none⟩):=kp 8 (by kernel_rfl);obtain ⟨c0,c1,c2,c3,c4,c5,c6⟩:=HC6.out u su;go_simp;exact hK _ _ su bR rfl
     ·intro bb u su dp kp K hK;have e9:gT bb 9 = .slice (some ⟨ga,go,none⟩) o o:=kp 9 (by kernel_rfl);go_simp;exact hK _ _ su bR rfl
     ·intro bb u su dp kp K hK;have e8:gT bb 8 = .pointer (some ⟨ob,0,none⟩):=kp 8 (by kernel_rfl);obtain ⟨c0,c1,c2,c3,c4,c5,c6⟩:=HC6.out u su;go_simp;exact hK _ _ su bR rfl
     ·intro bb u su dp kp K hK;have e36:gT bb 36 = .int .i64 (o:Int):=dp 5 _ rfl (by kernel_rfl);go_simp;exact hK _ _ su bR rfl
     ·intro bb u su dp kp K hK;have e35:gT bb 35 = .slice (some ⟨ga,go,none⟩) o o:=dp 4 _ rfl (by kernel_rfl);have e37:gT bb 37 = .int .i64 (p:Int):=dp 6 _ rfl (by kernel_rfl);go_simp;exact hK _ _ su bR rfl
     ·intro bb u su dp kp K hK;have e33:gT bb 33 = .iface 240 iv:=dp 2 _ rfl (by kernel_rfl);go_simp;exact hK _ _ su bR rfl
     ·intro bb u su dp kp K hK
      have e39 : gT bb 39 = .func (.method "earshot/gram.row") #[.iface 240 iv] #[] := dp 8 _ rfl (by kernel_rfl)
      go_simp;exact hK _ _ su bR rfl
     ·intro bb u su dp kp K hK;have e33:gT bb 33 = .iface 240 iv:=dp 2 _ rfl (by kernel_rfl);go_simp;exact hK _ _ su bR rfl
     ·intro bb u su dp kp K hK;have e41:gT bb 41 = .iface 240 iv:=dp 10 _ rfl (by kernel_rfl);have e34:gT bb 34 = .int .i64 (o:Int):=dp 3 _ rfl (by kernel_rfl);have e38:gT bb 38 = .slice (some ⟨ga,go,none⟩) p o:=dp 7 _ rfl (by kernel_rfl);have hmt:=fun n=>ZgU n iv u;go_simp;refine ⟨by trivial,(CallsIn.inRound l ((callsIn_wide (n:=6)).2 (HCL.out u su))).mono ?_⟩;rintro e u' hret;obtain ⟨g9,rfl,hg9,hf9,hb9⟩:=hret.rw hV0 (fun z hz=>ZiT hv.out _ z (by rw [HVE.out];omega));go_simp;exact hK _ _ (su.trans (hb9.out.mono su.size)) hb9.out ⟨g9,rfl,by have:=su.size;omega,zH (hf9.out.le su.size)⟩
    ·intro o' bb u ho hN hdf su hG kp K hK;injection ho with ho
     subst ho;have e31:gT bb 31 = .map (some mb):=hG 0 _ rfl (by omega);have e32:gT bb 32 = .agg #[.int .i64 y0,.int .i64 y1,.int .i64 y2,.int .i64 y3]:=hG 1 _ rfl (by omega);obtain ⟨g9,e42,hg9,D42⟩:∃ g,gT bb 42 = .slice (some ⟨g,0,none⟩) V V /\ W6.heap.size <= g /\ Hid (FRw u W6.heap.size g V (rwF (ctL o (Jd L)) V q (y0,y1,y2,y3))):=hG 11 _ rfl (by omega);have HSu:=zH su;obtain ⟨Z,hrun,hmz,hgz⟩:=(HMS.out.below su).update J4 Y6 Tryz.underlying211 (y0,y1,y2,y3) g9 HLQ.out;simp only [ek,rv] at hrun;have HMZ:=zH hmz;have HGZ:=zH hgz;have HMu:=zH (HMS.out.below su);clear su hG hmz hgz;go_simp;refine hK _ _ ?_;clear hK hrun e31 e32 e42;rw [JD bb _ [false,false,false,false,false,false,false,false,false,false,false,false,false,false,false,false,false,false,false,false,false,false,false,false,false,false,false,false,false,false,false,true,true,true,true,true,true,true,true,true,true,true,true,false,false,false,false,false,false,false,false,false,false,false,false,false] _ rfl hN rfl (by kernel_rfl) hdf (fun k hk=>kp k (fun j o ho hj he=>by
      have:=List.all_eq_true.1 hk j (List.mem_range.2 (aE ho).1);simp [ho,he] at this))]
     simp only [Z5,Nat.reduceAdd];clear kp hN hdf;generalize gT bb 31 = z31,gT bb 32 = z32,gT bb 33 = z33,gT bb 34 = z34,gT bb 35 = z35,gT bb 36 = z36,gT bb 37 = z37,gT bb 38 = z38,gT bb 39 = z39,gT bb 40 = z40,gT bb 41 = z41,gT bb 42 = z42
     gi_wp2
     gi_meet
     have hkz:KpC u Z:=Ziq (by obtain ⟨es,cl,h1,_⟩:=HMu.out.block;exact ⟨es,cl,h1⟩) HGZ.out;refine ⟨Yd ms (y0,y1,y2,y3) g9,g9,zH (JP _ _ _),HMZ,zH (fun r hr=>?_),zH (((Kept.refl W6 mb).below HSu.out).grown HGZ.out),zH ((KpC.below HSu.out).trans hkz),zH ((HW6.out.trans (HSu.out.mono HW6.out.size)).grown HGZ.out (by have:=HW6.out.size;have:=HSu.out.size;omega) (fun j e=>by injection e with e;omega))⟩;rcases Yi hr with rfl | hr
     ·exact (D42.out.le h46).kpc hkz
     ·exact ((HRW.out r hr).below HSu.out).kpc hkz
   ·have HGG:=zH hg;clear hg HCS
    gi_wp2
    gi_meet
    exact ⟨ms,rb,HGG,HMS,HRW,zH (Kept.refl _ _),zH (KpC.refl _),zH HI6.out.below⟩
  case rest=>
   obtain ⟨ms2,rb,HGG,HMY,HRY,HKY,HPY,HBY⟩:=hcut;obtain ⟨wy,rfl⟩:∃ X,X = wc:=⟨_,rfl⟩;have hV0 : 0 < V:=(by omega);obtain ⟨xk,hfb,hfq⟩:=HI6.out.box;have hs6y:W6.heap.size <= wy.heap.size:=HKY.out.size;have HFB:Hid (Fb wy tb xk):=zH (HPY.out.row tb _ _ _ hfb);have HFQ:=zH (hfq.ku (KU.kpc HPY.out));clear hfb hfq;have HGY:=zH (HPY.out.lies HG6.out);have hpl:p < gl.length:=(by rw [HGL.out];have:=HP.out;omega);have hzb:=ZhG ha.out HZ.out k gl[p] (by rw [<- HGE.out];exact yM hpl);obtain ⟨zn,hzn⟩:∃ zn:Nat,gl[p] = (zn:Int):=⟨gl[p].toNat,by omega⟩;have hznV:zn < V:=(by have:=HVE.out;omega);have hznV':(zn:Int) < (V:Int):=(by omega);have HZN:=zH hzn;clear hzb hzn;have HFR:=zH (HRY.out _ (Xh HGG.out));obtain ⟨Rs,hfr⟩:=HFR.out;have hzr:zn < Rs.length:=(by rw [hfr.len];exact hznV);have HRR:=zH hfr;have HRV:Hid (Fq wy Rs[zn] (rwF (ctL o (Jd L)) V q (y0,y1,y2,y3) zn)):=zH (hfr.val zn _ (gE hzr));clear hfr;have HC7:Hid (∀ u,Below wy.heap.size wy u -> u.cell? ⟨mb + 1,0,none⟩ = some (.map (some mb)) /\ u.cell? ⟨ob,0,none⟩ = some (.int .i64 (o:Int)) /\ u.cell? ⟨kb,0,none⟩ = some (.int .i64 y0) /\ u.cell? ⟨kb,1,none⟩ = some (.int .i64 y1) /\ u.cell? ⟨kb,2,none⟩ = some (.int .i64 y2) /\ u.cell? ⟨kb,3,none⟩ = some (.int .i64 y3) /\ u.cell? ⟨tb,0,none⟩ = some (.bool xk.neg) /\ u.cell? ⟨tb,1,none⟩ = some (.slice xk.A xk.N.length xk.c) /\ u.cell? ⟨tb,2,none⟩ = some (.slice xk.B xk.D.length xk.d) /\ u.cell? ⟨ga,go + p,none⟩ = some (.int .i64 (zn:Int)) /\ u.cell? ⟨rb,zn * 3,none⟩ = some (.bool Rs[zn].neg) /\ u.cell? ⟨rb,zn * 3 + 1,none⟩ = some (.slice Rs[zn].A Rs[zn].N.length Rs[zn].c) /\ u.cell? ⟨rb,zn * 3 + 2,none⟩ = some (.slice Rs[zn].B Rs[zn].D.length Rs[zn].d)):=zH (fun u hu=>by
    obtain ⟨q0,q1,q2,q3,q4,q5,q6⟩:=HC6.out W6 bR;have hk:=HPY.out.trans (KpC.below hu);obtain ⟨b0,b1,b2,_,_,_⟩:=(HFB.out.below hu).facts;obtain ⟨g0,g1,g2⟩:=Zcv Rs hzr;have hr:=Jg HRR.out.row hu;obtain ⟨bx,ox,e,_,hc⟩:=(HGY.out.below hu).at_ hpl;cases e;rw [gE hpl,Option.getD_some,HZN.out] at hc;exact ⟨hk.cell q0,hk.cell q1,hk.cell q3,hk.cell q4,hk.cell q5,hk.cell q6,b0,b1,b2,hc,(hr.cellAt (zn * 3) (by omega)).trans g0,(hr.cellAt (zn * 3 + 1) (by omega)).trans g1,(hr.cellAt (zn * 3 + 2) (by omega)).trans g2⟩)
   have HLK:Hid (∀ u,Below wy.heap.size wy u -> (Instr.lookup 211 (.map (some mb)) (.agg #[.int .i64 y0,.int .i64 y1,.int .i64 y2,.int .i64 y3]) false).run Tryz.prog u = .ok (.slice (some ⟨rb,0,none⟩) V V) u):=zH (fun u hu=>by
    have:=(HMY.out.below hu).lookup J4 Y6 Tryz.underlying211 (Tryz.zeroValue106 u) (y0,y1,y2,y3) HLQ.out;rw [HGG.out] at this;exact this)
   have S1:Hid (Sz (prW (ctL o (Jd L)) V q o s k) 84002):=zH ((Zc3 HQ.out HSQ.out ⟨hV0,hV.2⟩ (QX hv.out) o s k).mono (by omega));have S2:Hid (Sz (rwF (ctL o (Jd L)) V q (y0,y1,y2,y3) zn) 210):=zH (Zhy HQ.out HSQ.out ⟨hV0,hV.2⟩ (QX hv.out) _ zn);have hpo2:(p:Int) < (o:Int):=by have:=HP.out;omega
   gi_upto_region 10 with fail
   refine JV 12 56 rfl rfl (by kernel_rfl) (by kernel_rfl) (by kernel_rfl) (by kernel_rfl) (fun u=>Below wy.heap.size wy u) (fun u u'=>Below u.heap.size u u') (Gl [isV (xk.val),isV (.map (some mb)),isV (.agg #[.int .i64 y0,.int .i64 y1,.int .i64 y2,.int .i64 y3]),isV (.slice (some ⟨rb,0,none⟩) V V),isV (.slice (some ⟨ga,go,none⟩) o o),isV (.int .i64 (o:Int)),isV (.int .i64 (p:Int)),isV (.pointer (some ⟨ga,go + p,none⟩)),isV (.int .i64 (zn:Int)),isV (.pointer (some ⟨rb,zn * 3,none⟩)),isV (Rs[zn].val),isFq (prW (ctL o (Jd L)) V q o s k * rwF (ctL o (Jd L)) V q (y0,y1,y2,y3) zn)]) (Gl.keep (by
     intro p hp;simp only [List.mem_cons,List.not_mem_nil,or_false] at hp;rcases hp with rfl | rfl | rfl | rfl | rfl | rfl | rfl | rfl | rfl | rfl | rfl | rfl
     ·exact Keeps.isV _
     ·exact Keeps.isV _
     ·exact Keeps.isV _
     ·exact Keeps.isV _
     ·exact Keeps.isV _
     ·exact Keeps.isV _
     ·exact Keeps.isV _
     ·exact Keeps.isV _
     ·exact Keeps.isV _
     ·exact Keeps.isV _
     ·exact Keeps.isV _
     ·exact Keeps.isFq _)) (Below.refl _ wy).drew ?_ ?_
   ·refine ⟨?_,?_,?_,?_,?_,?_,?_,?_,?_,?_,?_,?_,trivial⟩
    ·intro bb u su dp kp K hK;have e7:gT bb 7 = .pointer (some ⟨tb,0,none⟩):=kp 7 (by kernel_rfl);obtain ⟨c0,c1,c2,c3,c4,c5,c6,c7,c8,c9,c10,c11,c12⟩:=HC7.out u su;go_simp;exact hK _ _ su bR rfl
    ·intro bb u su dp kp K hK;have e6:gT bb 6 = .pointer (some ⟨mb + 1,0,none⟩):=kp 6 (by kernel_rfl);obtain ⟨c0,c1,c2,c3,c4,c5,c6,c7,c8,c9,c10,c11,c12⟩:=HC7.out u su;go_simp;exact hK _ _ su bR rfl
    ·intro bb u su dp kp K hK;have e10:gT bb 10 = .pointer (some ⟨kb,0,none⟩):=kp 10 (by kernel_rfl);obtain ⟨c0,c1,c2,c3,c4,c5,c6,c7,c8,c9,c10,c11,c12⟩:=HC7.out u su;go_simp;exact hK _ _ su bR rfl
    ·intro bb u su dp kp K hK;have e44:gT bb 44 = .map (some mb):=dp 1 _ rfl (by kernel_rfl);have e45:gT bb 45 = .agg #[.int .i64 y0,.int .i64 y1,.int .i64 y2,.int .i64 y3]:=dp 2 _ rfl (by kernel_rfl);have hlk:=HLK.out u su;go_simp;exact hK _ _ su bR rfl
    ·intro bb u su dp kp K hK;have e9:gT bb 9 = .slice (some ⟨ga,go,none⟩) o o:=kp 9 (by kernel_rfl);go_simp;exact hK _ _ su bR rfl
    ·intro bb u su dp kp K hK;have e8:gT bb 8 = .pointer (some ⟨ob,0,none⟩):=kp 8 (by kernel_rfl);obtain ⟨c0,c1,c2,c3,c4,c5,c6,c7,c8,c9,c10,c11,c12⟩:=HC7.out u su;go_simp;exact hK _ _ su bR rfl
    ·intro bb u su dp kp K hK;have e48:gT bb 48 = .int .i64 (o:Int):=dp 5 _ rfl (by kernel_rfl);go_simp;exact hK _ _ su bR rfl
    ·intro bb u su dp kp K hK;have e47:gT bb 47 = .slice (some ⟨ga,go,none⟩) o o:=dp 4 _ rfl (by kernel_rfl);have e49:gT bb 49 = .int .i64 (p:Int):=dp 6 _ rfl (by kernel_rfl);go_simp;exact hK _ _ su bR rfl
    ·intro bb u su dp kp K hK;have e50:gT bb 50 = .pointer (some ⟨ga,go + p,none⟩):=dp 7 _ rfl (by kernel_rfl);obtain ⟨c0,c1,c2,c3,c4,c5,c6,c7,c8,c9,c10,c11,c12⟩:=HC7.out u su;go_simp;exact hK _ _ su bR rfl
    ·intro bb u su dp kp K hK;have e46:gT bb 46 = .slice (some ⟨rb,0,none⟩) V V:=dp 3 _ rfl (by kernel_rfl);have e51:gT bb 51 = .int .i64 (zn:Int):=dp 8 _ rfl (by kernel_rfl);go_simp;exact hK _ _ su bR rfl
    ·intro bb u su dp kp K hK;have e52:gT bb 52 = .pointer (some ⟨rb,zn * 3,none⟩):=dp 9 _ rfl (by kernel_rfl);obtain ⟨c0,c1,c2,c3,c4,c5,c6,c7,c8,c9,c10,c11,c12⟩:=HC7.out u su;go_simp;exact hK _ _ su bR rfl
    ·intro bb u su dp kp K hK;have e43:gT bb 43 = xk.val:=dp 0 _ rfl (by kernel_rfl);have e53:gT bb 53 = Rs[zn].val:=dp 10 _ rfl (by kernel_rfl);go_simp;refine ⟨trivial,(CallsIn.inRound l ((callsIn_wide (n:=6)).2 (Zal xk Rs[zn] (prW (ctL o (Jd L)) V q o s k) (rwF (ctL o (Jd L)) V q (y0,y1,y2,y3) zn) u (HFQ.out.below su).fv (HRV.out.below su).fv ((HFQ.out.below su).few (S1.out.mono (by decide))) ((HRV.out.below su).few (S2.out.mono (by decide)))))).mono ?_⟩;rintro e u' ⟨r9,rfl,hr9,hb⟩;go_simp;exact hK _ _ (su.trans (hb.mono su.size)) hb ⟨r9,rfl,zH hr9⟩
   ·intro o' bb u ho hN hdf su hG kp K hK;injection ho with ho
    subst ho;obtain ⟨r54,e54,D54⟩:∃ r:Fr,gT bb 54 = r.val /\ Hid (Fq u r (prW (ctL o (Jd L)) V q o s k * rwF (ctL o (Jd L)) V q (y0,y1,y2,y3) zn)):=hG 11 _ rfl (by omega);obtain ⟨z0,z1,z2,f0,f1,f2⟩:=(HFB.out.below su).facts;have HZC:=zH (show u.cell? ⟨tb,0,none⟩ = some (.bool xk.neg) /\ u.cell? ⟨tb,1,none⟩ = some (.slice xk.A xk.N.length xk.c) /\ u.cell? ⟨tb,2,none⟩ = some (.slice xk.B xk.D.length xk.d) from ⟨z0,z1,z2⟩);have HFU:=zH (HFB.out.below su);have HSu:=zH su;clear su hG;rw [JD bb _ [false,false,false,false,false,false,false,false,false,false,false,false,false,false,false,false,false,false,false,false,false,false,false,false,false,false,false,false,false,false,false,false,false,false,false,false,false,false,false,false,false,false,false,true,true,true,true,true,true,true,true,true,true,true,true,false] _ rfl hN rfl (by kernel_rfl) hdf (fun k hk=>kp k (fun j o ho hj he=>by
     have:=List.all_eq_true.1 hk j (List.mem_range.2 (aE ho).1);simp [ho,he] at this))]
    simp only [Z5,Nat.reduceAdd,e54];clear kp hN hdf e54;generalize gT bb 43 = z43,gT bb 44 = z44,gT bb 45 = z45,gT bb 46 = z46,gT bb 47 = z47,gT bb 48 = z48,gT bb 49 = z49,gT bb 50 = z50,gT bb 51 = z51,gT bb 52 = z52,gT bb 53 = z53;go_simp;refine hK _ _ ?_;clear hK z0 z1 z2 f0 f1 f2;obtain ⟨Z,hZ⟩:∃ Z,Z = ((u.setCell ⟨tb,0,none⟩ (.bool r54.neg)).setCell ⟨tb,1,none⟩ (.slice r54.A r54.N.length r54.c)).setCell ⟨tb,2,none⟩ (.slice r54.B r54.D.length r54.d):=⟨_,rfl⟩;rw [<- hZ];have HKU:Hid (KU u Z):=zH (by
     rw [hZ];refine ((KU.set HZC.out.1 (by simp [UV]) _).trans (KU.set (v0:=.slice xk.A xk.N.length xk.c) ?_ (by simp [UV]) _)).trans (KU.set (v0:=.slice xk.B xk.D.length xk.d) ?_ (by simp [UV]) _)
     ·rw [World.cell?_setCell_other _ _ _ _ (by simp)];exact HZC.out.2.1
     ·rw [World.cell?_setCell_other _ _ _ _ (by simp),World.cell?_setCell_other _ _ _ _ (by simp)];exact HZC.out.2.2)
    have HGR:Hid (u.grownBy Z (some tb)):=zH (by
     rw [hZ];exact J8 (p:=⟨tb,2,none⟩) (J8 (p:=⟨tb,1,none⟩) (J8 (p:=⟨tb,0,none⟩) (World.grownBy.refl u (some tb)) (.inl rfl) _) (.inl rfl) _) (.inl rfl) _)
    have HFZ:Hid (Fb Z tb r54):=zH (by rw [hZ];exact HFU.out.put);have HQZ:Hid (Fq Z r54 (prW (ctL o (Jd L)) V q o s (k + 1))):=zH (by
     have h1:=D54.out.ku HKU.out;show Fq Z r54 (prW (ctL o (Jd L)) V q o s k * rwF (ctL o (Jd L)) V q (kOf ((Jr o s k).take (o - 1))) ((Jr o s k)[o - 1]?.getD 0).toNat);rw [<- HGE.out,<- HP.out,<- HKE.out,gE hpl,Option.getD_some,HZN.out];exact h1)
    clear hZ
    gi_wp2
    have hbk:∀ x,x < W5.heap.size -> x ≠ mb -> x ≠ tb -> Z.heap[x]? = W5.heap[x]?:=fun x hx h1 h2=>by
     have q1:=HB6.out.size;have q2:=HSu.out.size;exact ((HGR.out.block x (by omega) (by intro e;injection e with e;exact h2 e)).trans (HSu.out.block x (by omega))).trans ((HKY.out.block x (by omega) h1).trans (HB6.out.block x hx))
    have hsz:W5.heap.size <= Z.heap.size:=tR (tR HB6.out.size hs6y) (tR HSu.out.size HGR.out.size);refine ⟨⟨hsz,fun i o9 hB hi ho=>(hbk i (aE hi).1 (by omega) (by omega)).trans hi⟩,⟨hsz,fun b9 cs t fr hne e=>?_⟩,⟨⟨ms2,(HMY.out.below HSu.out).grown HGR.out (by intro e;injection e with e;omega),fun r hr=>?_⟩,⟨r54,HFZ.out,HQZ.out⟩,tR h56 hsz,fun b9 h1 h2 h3=>(hbk b9 (by omega) h2 h3).trans (HI.out.same b9 h1 h2 h3),(HBY.out.trans (HSu.out.mono HBY.out.size)).grown HGR.out (by have:=HBY.out.size;have:=HSu.out.size;omega) (fun j e=>by injection e with e;omega)⟩⟩
    ·have e6:=HPY.out.row b9 cs t fr ((HB6.out.block b9 (aE e).1).trans e);have hl6:=(aE e6).1;exact ((HGR.out.block b9 (by have:=HSu.out.size;omega) (by intro e2;injection e2 with e2;exact hne e2)).trans (HSu.out.block b9 hl6)).trans e6
    ·have h1:=(HRY.out r hr).below HSu.out;have h2:=h1.cells;exact h1.ku (HGR.out.block _ h2.2.1 (by intro e2;injection e2 with e2;omega)) HKU.out
 case hdone=>
  rintro D W hD hI hK;have HI:=zH hI;have HK:=zH hK;have hDW:D < W.heap.size:=(aE hK).1;obtain ⟨x9,hf9,hq9⟩:=hI.box;obtain ⟨z0,z1,z2,f0,f1,f2⟩:=hf9.facts;have hr1:=(aE HR1.out).1;have HRW:Hid (W.heap[w.heap.size + 1]? = some (.cells #[.bool false,.slice none 0 0,.slice none 0 0] 28 (0,0))):=zH ((hI.below.block _ hr1).trans HR1.out);have HQ9:=zH hq9;have d0:=(cR 0 HRW.out).trans rfl;have d1:=(cR 1 HRW.out).trans rfl;have d2:=(cR 2 HRW.out).trans rfl;have k0:=Jm HRW.out 0;have k1:=Jm HRW.out 1;have k2:=Jm HRW.out 2;clear hI hK hf9 hq9
  gi_wp2
  have hr6:=ZaR HRW.out (.bool x9.neg) (.slice x9.A x9.N.length x9.c) (.slice x9.B x9.D.length x9.d);have hwD:w.heap.size + 1 ≠ D:=by omega
  have HB7:Hid (Below w.heap.size w (((W.setCell ⟨w.heap.size + 1,0,none⟩ (.bool x9.neg)).setCell ⟨w.heap.size + 1,1,none⟩ (.slice x9.A x9.N.length x9.c)).setCell ⟨w.heap.size + 1,2,none⟩ (.slice x9.B x9.D.length x9.d))):=zH ((((HWW.out.trans (HI.out.below.mono HWW.out.size)).setCell (by simp) _).setCell (by simp) _).setCell (by simp) _);have HQ7:Hid (Fq (((W.setCell ⟨w.heap.size + 1,0,none⟩ (.bool x9.neg)).setCell ⟨w.heap.size + 1,1,none⟩ (.slice x9.A x9.N.length x9.c)).setCell ⟨w.heap.size + 1,2,none⟩ (.slice x9.B x9.D.length x9.d)) x9 (prW (ctL o (Jd L)) V q o s (s.length + 1))):=zH (HQ9.out.rowed (show Fb W (w.heap.size + 1) J1 from HRW.out) _ _ _);have hD7:(((W.setCell ⟨w.heap.size + 1,0,none⟩ (.bool x9.neg)).setCell ⟨w.heap.size + 1,1,none⟩ (.slice x9.A x9.N.length x9.c)).setCell ⟨w.heap.size + 1,2,none⟩ (.slice x9.B x9.D.length x9.d)).heap[D]? = some (.deferred (some [])):=(J5 (by omega) _ _ _).trans HK.out;generalize (((W.setCell ⟨w.heap.size + 1,0,none⟩ (.bool x9.neg)).setCell ⟨w.heap.size + 1,1,none⟩ (.slice x9.A x9.N.length x9.c)).setCell ⟨w.heap.size + 1,2,none⟩ (.slice x9.B x9.D.length x9.d)) = V7 at *
  refine ⟨by simp,.inl ⟨_,_,rfl,run_takeDeferred hD7,?_⟩⟩;have hrow:∀ o',(V7.putObj D o').heap[w.heap.size + 1]? = some (.cells #[.bool x9.neg,.slice x9.A x9.N.length x9.c,.slice x9.B x9.D.length x9.d] 28 (0,0)):=fun o'=>(World.putObj_heap_other hwD).trans hr6;have g0:=fun o'=>(cR 0 (hrow o')).trans rfl;have g1:=fun o'=>(cR 1 (hrow o')).trans rfl;have g2:=fun o'=>(cR 2 (hrow o')).trans rfl;refine ⟨.agg #[.bool x9.neg,.slice x9.A x9.N.length x9.c,.slice x9.B x9.D.length x9.d],by simp [results,Tryz.results109,go_sem,g0,g1,g2],?_⟩;have hkp:∀ o',KpC V7 (V7.putObj D o'):=fun o'=>KpC.put V7 D _ o' hD7 (fun cs t fr e=>by cases e);exact ⟨x9,rfl,HQ7.out.ku (KU.kpc (hkp _)),⟨HB7.out.os,HB7.out.tape,HB7.out.output,by simpa using HB7.out.size,fun b hb=>(World.putObj_heap_other (by omega)).trans (HB7.out.block b hb)⟩⟩
end Go.Proofs.YtcjicjfbippmnaaGreat
