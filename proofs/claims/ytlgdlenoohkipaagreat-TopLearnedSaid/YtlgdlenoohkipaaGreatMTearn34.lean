/- TopLearned -/
import Derived.Test.YtlgdlenoohkipaaGreatMTearn26
import Derived.Test.YtlgdlenoohkipaaGreatMTearn32
import Derived.Test.YtlgdlenoohkipaaGreatMTearn33
set_option maxRecDepth 100000
set_option maxHeartbeats 32000000
namespace Go.Proofs.YtlgdlenoohkipaaGreat
open Go.RowKit Ear

def ZdV (kd:Int):TypeId:=if kd = 1 then 264 else if kd = 2 then 259 else if kd = 3 then 261 else 263
def ZiE (kd:Int):FuncId:=if kd = 1 then 245 else if kd = 2 then 238 else if kd = 3 then 241 else 244
def Qd (kd:Int) (lb o V:Nat) (x:Fr) (M:Option Addr) (mn mc:Nat):Value:=
 if kd = 2 then .agg #[.slice (some ⟨lb,0,none⟩) (o + 1) (o + 1),.int .i64 (V:Int),.slice M mn mc] else if kd = 4 then .agg #[.slice (some ⟨lb,0,none⟩) (o + 1) (o + 1),.int .i64 (V:Int)] else .agg #[.slice (some ⟨lb,0,none⟩) (o + 1) (o + 1),.int .i64 (V:Int),.bool x.neg,.slice x.A x.N.length x.c,.slice x.B x.D.length x.d]
theorem ZfT (o:Nat) (V:Nat) (A:Option Addr) (c:Nat) (L:List Gm) (kd:Int) (x:Fr) (M:Option Addr) (mn mc:Nat) (w:World) (hT:Tb w A L) (hv:Hid (Xz o ((V:Int) - 1) (Je L) = 0)) (hV : 2 <= V /\ V <= 2001) (hk:kd = 1 ∨ kd = 2 ∨ kd = 3 ∨ kd = 4) :
  Calls Tryz.prog 124 #[.agg (lgv o ((V:Int) - 1) A L.length c kd x M mn mc)] w (fun e w'=>∃ lb,e = .returned (.iface (ZdV kd) (Qd kd lb o V x M mn mc)) /\ LvA w' lb 0 o (ctA o (Je L)) /\ Below w.heap.size w w'):=by
 obtain ⟨v,hvv⟩:∃ v,v = (V:Int) - 1:=⟨_,rfl⟩;rw [<- hvv] at hv ⊢;have hsz:=Jx.1 (JK.1 hv.out).2.1;have ho1 : 1 <= o:=by omega
 have p1:IntKind.i64.wrap (v + 1) = (V:Int):=by rw [IntWalk.i64_in _ (by omega)];omega
 obtain ⟨W0,hW0⟩:∃ X:World,X = w.alloc (.cells (lgv o v A L.length c kd x M mn mc) 34):=⟨_,rfl⟩;have HB0:Hid (Below w.heap.size w W0):=zH (by rw [hW0];exact bR.alloc nR _);have HX0:Hid (W0.heap[w.heap.size]? = some (.cells (lgv o v A L.length c kd x M mn mc) 34 (0,0))):=zH (by rw [hW0];exact heap_alloc_new w _);obtain ⟨W1,hW1⟩:∃ X:World,X = W0.alloc (.cells #[.slice none 0 0,.int .i64 (V:Int)] 256):=⟨_,rfl⟩;have HB1:Hid (Below W0.heap.size W0 W1):=zH (by rw [hW1];exact bR.alloc nR _);have HX1:Hid (W1.heap[W0.heap.size]? = some (.cells #[.slice none 0 0,.int .i64 (V:Int)] 256 (0,0))):=zH (by rw [hW1];exact heap_alloc_new W0 _);have HTB:=zH ((hT.below HB0.out).below HB1.out);have HPB:=zH (XT HX0.out);have HLV:=zH (Zdy o v A c L W1 HTB.out hv);obtain ⟨c0,c1,c2,c3,c4,c5,c6,c7⟩:=HPB.out W0 bR;have HVE:=zH hvv;clear hT hvv hV hsz;go_enter Tryz.func124,Tryz.ntmps124;go_upto_region 1 with fail;rw [<- hW0];clear hW0;go_upto_region 2 with fail;clear c0 c1 c2 c3 c4 c5 c6 c7 p1;rw [<- hW1];clear hW1;obtain ⟨c0,c1,c2,c3,c4,c5,c6,c7⟩:=HPB.out W1 HB1.out;go_wp2_with fail;refine HLV.out.mono ?_;rintro e w2 ⟨lb,rfl,hlv,hb2⟩;obtain ⟨cb,hcb⟩:∃ cb,cb = W0.heap.size:=⟨_,rfl⟩;rw [<- hcb] at HX1 ⊢;have hcw:cb < W1.heap.size:=(aE HX1.out).1;have hww:w.heap.size < cb:=by rw [hcb];exact (aE HX0.out).1
 have HCB:=zH hcb;clear hcb;have HX2:Hid (w2.heap[cb]? = some (.cells #[.slice none 0 0,.int .i64 (V:Int)] 256 (0,0))):=zH ((hb2.block _ hcw).trans HX1.out);have k0:w2.cell? ⟨cb,0,none⟩ = some (.slice none 0 0):=(cR 0 HX2.out).trans rfl;have f0:w2.frozen? ⟨cb,0,none⟩ = false:=Jl HX2.out 0;obtain ⟨W3,hW3⟩:∃ X:World,X = w2.setCell ⟨cb,0,none⟩ (.slice (some ⟨lb,0,none⟩) (o + 1) (o + 1)):=⟨_,rfl⟩;have HX3:Hid (W3.heap[cb]? = some (.cells #[.slice (some ⟨lb,0,none⟩) (o + 1) (o + 1),.int .i64 (V:Int)] 256 (0,0))):=zH (by rw [hW3];exact (JT HX2.out 0 _).trans rfl);have hne:lb ≠ cb:=fun e=>by
  obtain ⟨b1,hc1,_⟩:=hlv 1 nR ho1;rw [e,cell_of_row _ _ _ _ _ _ HX2.out] at hc1;cases hc1
 have HLA:Hid (LvA W3 lb 0 o (ctA o (Je L))):=zH (fun j h1 h2=>by
  obtain ⟨b1,hc1,hl1⟩:=hlv j h1 h2;refine ⟨b1,?_,hl1.maps (fun y es cl hy=>?_)⟩
  ·rw [hW3];exact (World.cell?_setCell_other _ _ _ _ (by simp)).trans hc1
  ·rw [hW3];exact Below.heap_setCell _ _ _ _ (fun e=>by rw [e,HX2.out] at hy;cases hy))
 have HB3:Hid (Below W0.heap.size W0 W3):=zH (by rw [hW3];exact ((HB1.out.trans (hb2.mono HB1.out.size)).setCell (by show W0.heap.size <= cb;have:=HCB.out;omega) _));clear c0 c1 c2 c3 c4 c5 c6 c7 hlv;go_upto_region 3 with fail;rw [<- hW3];clear hW3 k0 f0;obtain ⟨c0,c1,c2,c3,c4,c5,c6,c7⟩:=HPB.out W3 HB3.out;have k0:W3.cell? ⟨cb,0,none⟩ = some (.slice (some ⟨lb,0,none⟩) (o + 1) (o + 1)):=(cR 0 HX3.out).trans rfl;have k1:W3.cell? ⟨cb,1,none⟩ = some (.int .i64 (V:Int)):=(cR 1 HX3.out).trans rfl;have HBW:Hid (Below w.heap.size w W3):=zH (HB0.out.trans (HB3.out.mono HB0.out.size));rcases hk with rfl | rfl | rfl | rfl
 ·go_wp2_with fail;refine bodyPost_ret (v:=.iface (ZdV 1) (Qd 1 lb o V x M mn mc)) (by simp [results,Tryz.results124,go_sem,ZdV,Qd]) rfl ?_;exact ⟨lb,rfl,HLA.out,HBW.out⟩
 ·go_wp2_with fail;refine bodyPost_ret (v:=.iface (ZdV 2) (Qd 2 lb o V x M mn mc)) (by simp [results,Tryz.results124,go_sem,ZdV,Qd]) rfl ?_;exact ⟨lb,rfl,HLA.out,HBW.out⟩
 ·go_wp2_with fail;refine bodyPost_ret (v:=.iface (ZdV 3) (Qd 3 lb o V x M mn mc)) (by simp [results,Tryz.results124,go_sem,ZdV,Qd]) rfl ?_;exact ⟨lb,rfl,HLA.out,HBW.out⟩
 ·go_wp2_with fail;refine bodyPost_ret (v:=.iface (ZdV 4) (Qd 4 lb o V x M mn mc)) (by simp [results,Tryz.results124,go_sem,ZdV,Qd]) rfl ?_;exact ⟨lb,rfl,HLA.out,HBW.out⟩
theorem ZjO (n : Nat) (v : Value) (u : World) : (method (n + 1) 264 v "earshot/gram.row").run Tryz.prog u = .ok (245, v) u := by kernel_rfl
theorem ZjN (n : Nat) (v : Value) (u : World) : (method (n + 1) 259 v "earshot/gram.row").run Tryz.prog u = .ok (238, v) u := by kernel_rfl
theorem ZjM (n : Nat) (v : Value) (u : World) : (method (n + 1) 261 v "earshot/gram.row").run Tryz.prog u = .ok (241, v) u := by kernel_rfl
theorem ZjL (n : Nat) (v : Value) (u : World) : (method (n + 1) 263 v "earshot/gram.row").run Tryz.prog u = .ok (244, v) u := by kernel_rfl
theorem ZjK {kd : Int} (hk : kd = 1 ∨ kd = 2 ∨ kd = 3 ∨ kd = 4) (n : Nat) (v : Value) (u : World) : (method (n + 1) (ZdV kd) v "earshot/gram.row").run Tryz.prog u = .ok (ZiE kd, v) u := by
 rcases hk with rfl | rfl | rfl | rfl
 ·exact ZjO n v u
 ·exact ZjN n v u
 ·exact ZjM n v u
 ·exact ZjL n v u
theorem Zkc {kd:Int} (hk:kd = 1 ∨ kd = 2 ∨ kd = 3 ∨ kd = 4):∀ (args:Array Value) (w:World),(callFunc (ZiE kd) args).run Tryz.prog w = .ok (.enter (ZiE kd) args) w:=by
 rcases hk with rfl | rfl | rfl | rfl
 ·exact enters_of Tryz.func245 (by kernel_rfl) rfl
 ·exact enters_of Tryz.func238 (by kernel_rfl) rfl
 ·exact enters_of Tryz.func241 (by kernel_rfl) rfl
 ·exact enters_of Tryz.func244 (by kernel_rfl) rfl
theorem RetRow.gen {base V:Nat} {ct:K4 -> Int -> Int} {h:K4} {q:Rat} {w w':World} {e:Ending} (hr:RetRow base V (ct h) q w e w') (hV : 0 < V) (h0:∀ z,(z < 0 ∨ (V:Int) <= z) -> ct h z = 0):Zaw V (rwF ct V q h) w e w':=by
 obtain ⟨A,Rs,sm,he,hf,hb,_,mm,h1,h2,_,h4⟩:=hr;have hsm:sm = smF (ct h) V:=by rw [h4];exact Zg2 h1 h2 V h0
 obtain ⟨g,cap,hv,hg,_⟩:=hf.row.form hV;have hA:A = some ⟨g,0,none⟩:=by injection hv
 subst hA;exact ⟨g,he,⟨Rs,by unfold rwF;rw [<- hsm];exact hf⟩,hb⟩
theorem Zgb (kd:Int) (o V:Nat) (lb:Nat) (ct:Nat -> K4 -> Int -> Int) (hct:Hid (CtOk ct V)) (hV : 2 <= V /\ V <= 100) (ho : 1 <= o /\ o <= 4) (x:Fr) (q:Rat) (M:Option Addr) (mn mc:Nat) (X:Nat -> Fr) (mx:Nat -> Rat) (HA:Option Addr) (hc:Nat) (hl:List Int) (w:World)
  (hk:ZiF kd o q mn mx) (hx:Fv w x q) (fx:Few x 100) (hM:FL w M mn X mx) (hf:∀ k,k < mn -> Few (X k) 100) (hL:LvA w lb 0 o ct) (hH:Lies w HA (ics hl)) (hhl:hl.length + 1 = o) (hlc:hl.length <= hc) (hbd:Hid (∀ x ∈ hl,0 <= x /\ x <= 1000000)) :
  Calls Tryz.prog (ZiE kd) #[Qd kd lb o V x M mn mc,.int .i64 (o:Int),.slice HA hl.length hc] w (Zaw V (Zg5 kd o ct V q mx hl) w):=by
 rcases hk with ⟨rfl,h1,rfl⟩ | ⟨rfl,h1,h2,h3⟩ | ⟨rfl,rfl,h1,h2⟩ | ⟨rfl,rfl,h1⟩
 ·obtain ⟨b,hcb,hLb⟩:=hL o ho.1 nR;have h:=ZfE lb 0 (o + 1) (o + 1) V o x q HA hc hl b (ct o) w hcb (by omega) hLb hH (by omega) hbd hx fx h1 (by omega) hV.2;exact h.mono fun e w' hr=>hr.gen (by omega) (fun z hz=>hct.out.out o _ z ho.1 hz)
 ·exact Zdq V (by omega) ct hct o lb 0 (o + 1) (o + 1) M mn mc X mx HA hc hl w hM (by omega) (by omega) hf hL (by omega) ho.2 hH hhl hlc hbd
 ·exact ZdF V (by omega) ct hct x q fx ⟨h1,h2⟩ o lb 0 (o + 1) (o + 1) HA hc hl w hx hL (by omega) ho.2 hH (by omega) hlc hbd
 ·exact Zdf V (by omega) ct hct o lb 0 (o + 1) (o + 1) HA hc hl w hL (by omega) ho.2 hH (by omega) hlc hbd
theorem ZgQ (o v:Int) (A:Option Addr) (c:Nat) (L:List Gm) (kd:Int) (x:Fr) (q:Rat) (M:Option Addr) (mn mc:Nat) (X:Nat -> Fr) (mx:Nat -> Rat) (HA:Option Addr) (hc:Nat) (hl:List Int) (w:World) (h:LgM w o v A L kd x q M mn X mx) (hH:Lies w HA (ics hl)) (hhl:(hl.length:Int) = o - 1) (ha:XI 0 v hl = true) :
  Calls Tryz.prog 177 #[.agg (lgv o v A L.length c kd x M mn mc),.slice HA hl.length hc] w (VU 0 w):=by
 obtain ⟨W0,hW0⟩:∃ X:World,X = w.alloc (.cells (lgv o v A L.length c kd x M mn mc) 34):=⟨_,rfl⟩;have HB0:Hid (Below w.heap.size w W0):=zH (by rw [hW0];exact bR.alloc nR _);have HX0:Hid (W0.heap[w.heap.size]? = some (.cells (lgv o v A L.length c kd x M mn mc) 34 (0,0))):=zH (by rw [hW0];exact heap_alloc_new w _);have HPB:=zH (XT HX0.out);have ho:=h.ord;have HC:=zH (US o v A c L kd x q M mn mc X mx W0 (h.below HB0.out));have HH0:=zH (hH.below HB0.out);have p1:IntKind.i64.wrap (o - 1) = (hl.length:Int):=by rw [IntWalk.i64_in _ (by omega)];omega
 have HHA:=zH ha;have hhn:hl.length <= 9223372036854775807:=by omega
 obtain ⟨c0,c1,c2,c3,c4,c5,c6,c7⟩:=HPB.out W0 bR;clear h hH ha hhl;go_enter Tryz.func177,Tryz.ntmps177;go_upto_region 1 with fail;rw [<- hW0];clear hW0;go_wp2_with fail;refine HC.out.mono ?_;rintro e w1 ⟨rfl,hb1⟩;have HB1:=zH hb1;have C2:=zH (Xe HA hc hl 0 v w1 (HH0.out.below hb1) hhn true HHA);clear hb1 c0 c1 c2 c3 c4 c5 c6 c7 HC;obtain ⟨c0,c1,c2,c3,c4,c5,c6,c7⟩:=HPB.out w1 HB1.out;go_wp2_with fail;refine C2.out.mono ?_;rintro e w2 ⟨rfl,hb2⟩;have HB2:=zH (HB1.out.trans (hb2.mono HB1.out.size));clear hb2 C2;go_wp2_with fail;refine bodyPost_ret (v:=.int .i64 0) (by simp [results,Tryz.results177,go_sem]) rfl ?_;exact ⟨rfl,HB0.out.trans (HB2.out.mono HB0.out.size)⟩
def ZjU (F:FuncId) (o V:Nat) (G:Nat -> Rat) (HA:Option Addr) (hn hc:Nat) (u:World) (iv:Value):Prop:=∀ u',Below u.heap.size u u' -> Calls Tryz.prog F #[iv,.int .i64 (o:Int),.slice HA hn hc] u' (Zaw V G u')
def isWy (T:TypeId) (F:FuncId) (o V:Nat) (G:Nat -> Rat) (HA:Option Addr) (hn hc:Nat):Value -> World -> Prop:=fun v u=>∃ iv,v = .iface T iv /\ Hid (ZjU F o V G HA hn hc u iv)
theorem Keeps.isWy (T:TypeId) (F:FuncId) (o V:Nat) (G:Nat -> Rat) (HA:Option Addr) (hn hc:Nat):Keeps (isWy T F o V G HA hn hc):=fun _ _ _ ⟨iv,h1,h2⟩ hb=>⟨iv,h1,zH (fun u' hu=>h2.out u' (hb.trans (hu.mono hb.size)))⟩
def Zhw (V:Nat) (F:Nat -> Rat) (w:World) (e:Ending) (w':World):Prop:=∃ g,e = .returned (.tuple #[.slice (some ⟨g,0,none⟩) V V,.int .i64 0]) /\ FRw w' w.heap.size g V F /\ Below w.heap.size w w'
theorem ZiB (o V:Nat) (A:Option Addr) (c:Nat) (L:List Gm) (kd:Int) (x:Fr) (q:Rat) (M:Option Addr) (mn mc:Nat) (X:Nat -> Fr) (mx:Nat -> Rat) (HA:Option Addr) (hc:Nat) (hl:List Int) (w:World) (h:LgM w o ((V:Int) - 1) A L kd x q M mn X mx) (hV : 2 <= V /\ V <= 100) (hH:Lies w HA (ics hl)) (hhl:hl.length + 1 = o) (hlc:hl.length <= hc) (ha:XI 0 ((V:Int) - 1) hl = true) :
  Calls Tryz.prog 135 #[.agg (lgv o ((V:Int) - 1) A L.length c kd x M mn mc),.slice HA hl.length hc] w (Zhw V (Zg5 kd o (ctA o (Je L)) V q mx hl) w):=by
 have hk4:kd = 1 ∨ kd = 2 ∨ kd = 3 ∨ kd = 4:=by rcases h.ok with h | h | h | h <;> omega
 have ho:=h.ord;obtain ⟨v,hvv⟩:∃ v,v = (V:Int) - 1:=⟨_,rfl⟩;obtain ⟨W0,hW0⟩:∃ X:World,X = w.alloc (.cells (lgv o v A L.length c kd x M mn mc) 34):=⟨_,rfl⟩;have HB0:Hid (Below w.heap.size w W0):=zH (by rw [hW0];exact bR.alloc nR _);have HX0:Hid (W0.heap[w.heap.size]? = some (.cells (lgv o v A L.length c kd x M mn mc) 34 (0,0))):=zH (by rw [hW0];exact heap_alloc_new w _);have HPB:=zH (XT HX0.out);have HLG:=zH (h.below HB0.out);have HH0:=zH (hH.below HB0.out);have HAR:=zH ha;obtain ⟨G,hG⟩:∃ G,G = Zg5 kd o (ctA o (Je L)) V q mx hl:=⟨_,rfl⟩;have HBD:Hid (∀ y ∈ hl,0 <= y /\ y <= 1000000):=zH (fun y hy=>by have:=Ya ha hy;omega);have HWY:Hid (∀ u,Below W0.heap.size W0 u -> Calls Tryz.prog 124 #[.agg (lgv o v A L.length c kd x M mn mc)] u (fun e u'=>∃ iv,e = .returned (.iface (ZdV kd) iv) /\ ZjU (ZiE kd) o V G HA hl.length hc u' iv /\ Below u.heap.size u u')):=zH (fun u hu=>by
  have hlg:=HLG.out.below hu;rw [hvv];refine (ZfT o V A c L kd x M mn mc u hlg.tb (zH hlg.tab) (by omega) hk4).mono ?_;rintro e u' ⟨lb,rfl,hlv,hb⟩;refine ⟨_,rfl,fun u2 hu2=>?_,hb⟩;have hlg2:=(hlg.below hb).below hu2;rw [hG];exact Zgb kd o V lb _ (zH (Zhn h.tab)) hV (by omega) x q M mn mc X mx HA hc hl u2 hlg2.ok hlg2.amt hlg2.few hlg2.mix hlg2.fmx (hlv.below hu2) (((HH0.out.below hu).below hb).below hu2) hhl hlc HBD)
 have HMT:=zH (fun n=>ZjK hk4 n);have HEG:=zH (Zkc hk4);have HC:=zH (ZgQ o v A c L kd x q M mn mc X mx HA hc hl W0 (by rw [hvv];exact HLG.out) HH0.out (by omega) (by rw [hvv];exact ha));rw [<- hvv,<- hG];generalize ZdV kd = T at *
 generalize ZiE kd = F at *
 have HHL:=zH hhl;obtain ⟨c0,c1,c2,c3,c4,c5,c6,c7⟩:=HPB.out W0 bR;clear h hH ha hhl hG hvv ho hk4;go_enter Tryz.func135,Tryz.ntmps135;go_upto_region 1 with fail;rw [<- hW0];clear hW0;go_wp2_with fail;refine HC.out.mono ?_;rintro e w1 ⟨rfl,hb1⟩;have HB1:=zH hb1;clear hb1 c0 c1 c2 c3 c4 c5 c6 c7 HC;have HC7:Hid (∀ u,Below w1.heap.size w1 u -> u.cell? ⟨w.heap.size,0,none⟩ = some (.int .i64 (o:Int)) /\ u.cell? ⟨w.heap.size,1,none⟩ = some (.int .i64 v) /\ u.cell? ⟨w.heap.size,2,none⟩ = some (.slice A L.length c) /\ u.cell? ⟨w.heap.size,3,none⟩ = some (.int .i64 kd) /\ u.cell? ⟨w.heap.size,4,none⟩ = some (.bool x.neg) /\ u.cell? ⟨w.heap.size,5,none⟩ = some (.slice x.A x.N.length x.c) /\ u.cell? ⟨w.heap.size,6,none⟩ = some (.slice x.B x.D.length x.d) /\ u.cell? ⟨w.heap.size,7,none⟩ = some (.slice M mn mc)):=zH (fun u hu=>HPB.out u (HB1.out.trans (hu.mono HB1.out.size)));go_upto_region 4 with fail;refine Jq 20 rfl (by kernel_rfl) (by kernel_rfl) (by kernel_rfl) (fun u=>Below w1.heap.size w1 u) (fun u u'=>Below u.heap.size u u') (Gl [isV (.agg (lgv o v A L.length c kd x M mn mc)),isWy T F o V G HA hl.length hc,isV (.pointer (some ⟨w.heap.size,0,none⟩)),isV (.pointer (some ⟨w.heap.size,0,none⟩)),isV (.int .i64 (o:Int)),isV (.slice HA hl.length hc),isRw w1.heap.size V G,isRw w1.heap.size V G,isV (.int .i64 0)]) (Gl.keepL ⟨Keeps.isV _,Keeps.isWy _ _ _ _ _ _ _ _,Keeps.isV _,Keeps.isV _,Keeps.isV _,Keeps.isV _,Keeps.isRw _ _ _,Keeps.isRw _ _ _,Keeps.isV _,trivial⟩) ?_ ?_ ?_
 ·exact (Below.refl _ w1).drew
 ·simp only [Jj];refine ⟨?_,?_,?_,?_,?_,?_,?_,?_,?_,trivial⟩
  ·intro bb u su dp kp K hK;have e2:gT bb 2 = .pointer (some ⟨w.heap.size,0,none⟩):=kp 2 (by kernel_rfl);obtain ⟨c0,c1,c2,c3,c4,c5,c6,c7⟩:=HC7.out u su;go_simp;exact hK _ _ su bR rfl
  ·intro bb u su dp kp K hK;have e13:gT bb 13 = .agg (lgv o v A L.length c kd x M mn mc):=dp 0 _ rfl (by kernel_rfl);go_simp;refine (HWY.out u (HB1.out.trans (su.mono HB1.out.size))).mono ?_;rintro e u' ⟨iv,rfl,hwy,hb⟩;go_simp;exact hK _ _ (su.trans (hb.mono su.size)) hb ⟨iv,rfl,zH hwy⟩
  ·intro bb u su dp kp K hK;have e2:gT bb 2 = .pointer (some ⟨w.heap.size,0,none⟩):=kp 2 (by kernel_rfl);go_simp;exact hK _ _ su bR rfl
  ·intro bb u su dp kp K hK;have e15:gT bb 15 = .pointer (some ⟨w.heap.size,0,none⟩):=dp 2 _ rfl (by kernel_rfl);go_simp;exact hK _ _ su bR rfl
  ·intro bb u su dp kp K hK;have e16:gT bb 16 = .pointer (some ⟨w.heap.size,0,none⟩):=dp 3 _ rfl (by kernel_rfl);obtain ⟨c0,c1,c2,c3,c4,c5,c6,c7⟩:=HC7.out u su;go_simp;exact hK _ _ su bR rfl
  ·intro bb u su dp kp K hK;have e1:gT bb 1 = .slice HA hl.length hc:=kp 1 (by kernel_rfl);go_simp;exact hK _ _ su bR rfl
  ·intro bb u su dp kp K hK;obtain ⟨iv,e14,D14⟩:∃ iv,gT bb 14 = .iface T iv /\ Hid (ZjU F o V G HA hl.length hc u iv):=dp 1 _ rfl (by kernel_rfl);have e17:gT bb 17 = .int .i64 (o:Int):=dp 4 _ rfl (by kernel_rfl);have e18:gT bb 18 = .slice HA hl.length hc:=dp 5 _ rfl (by kernel_rfl);have hmt:=fun n=>HMT.out n iv u;have heg:=HEG.out;go_simp;refine (D14.out u bR).mono ?_;rintro e u' ⟨g9,rfl,hg9,hb⟩;go_simp;exact hK _ _ (su.trans (hb.mono su.size)) hb ⟨g9,rfl,tR su.size hg9.lt.1,zH (hg9.le su.size)⟩
  ·intro bb u su dp kp K hK;obtain ⟨g19,e19,hg19,D19⟩:∃ g,gT bb 19 = .slice (some ⟨g,0,none⟩) V V /\ w1.heap.size <= g /\ Hid (FRw u w1.heap.size g V G):=dp 6 _ rfl (by kernel_rfl);go_simp;exact hK _ _ su bR ⟨g19,rfl,hg19,D19⟩
  ·intro bb u su dp kp K hK;go_simp;exact hK _ _ su bR rfl
 ·intro bb u hN hdf su hG hsame;obtain ⟨g4,e4,hg4,D4⟩:∃ g,gT bb 4 = .slice (some ⟨g,0,none⟩) V V /\ w1.heap.size <= g /\ Hid (FRw u w1.heap.size g V G):=hG 7 _ rfl;have e5:gT bb 5 = .int .i64 0:=hG 8 _ rfl;rw [Ju bb _ [false,false,false,false,true,true,false,false,false,false,false,false,false,true,true,true,true,true,true,true] _ rfl hN rfl (by kernel_rfl) hdf hsame];simp only [Y2,Nat.reduceAdd,e4,e5];clear e4 e5 hG hsame hN hdf;generalize bb.tmps.getD 13 undef = z13,bb.tmps.getD 14 undef = z14,bb.tmps.getD 15 undef = z15,bb.tmps.getD 16 undef = z16,bb.tmps.getD 17 undef = z17,bb.tmps.getD 18 undef = z18,bb.tmps.getD 19 undef = z19;have HSu:=zH (HB0.out.trans ((HB1.out.trans (su.mono HB1.out.size)).mono HB0.out.size));have HD:=zH (D4.out.le (show w.heap.size <= w1.heap.size by have:=HB0.out.size;have:=HB1.out.size;omega));clear su D4;go_wp2_with fail;refine bodyPost_ret (v:=.tuple #[.slice (some ⟨g4,0,none⟩) V V,.int .i64 0]) (by simp [results,Tryz.results135,go_sem]) rfl ?_;exact ⟨g4,rfl,HD.out,HSu.out⟩
def orL:List Int -> Int
 | []=>0
 | x :: l=>if x = 0 then orL l else x
theorem ZcK {l:List Int} {k:Nat} (h:k < l.length):orL (l.drop k) = if l[k] = 0 then orL (l.drop (k + 1)) else l[k]:=by
 rw [List.drop_eq_getElem_cons h];rfl
def ZjG (a b:Ar):Int:=orL [Zp a.fr b.fr,Zp a.en b.en,Zp a.wd b.wd,Zp a.vr b.vr]
theorem Zas {x y:Int} (h:x < y):Zp x y = -1:=by unfold Zp;rw [if_pos h]
theorem Zcf (x:Int):Zp x x = 0:=by unfold Zp;simp
theorem Zgl {a b:Ar} (h:arB a b = true):ZjG a b = -1:=by
 unfold arB at h;simp only [decide_eq_true_eq] at h;unfold ZjG;rcases h with h | ⟨h1,h⟩
 ·simp [orL,Zas h]
 ·rw [h1,Zcf];rcases h with h | ⟨h2,h⟩
  ·simp [orL,Zas h]
  ·rw [h2,Zcf];rcases h with h | ⟨h3,h⟩
   ·simp [orL,Zas h]
   ·rw [h3,Zcf];simp [orL,Zas h]
theorem ZhY (A:Option Addr) (c:Nat) (l:List Int) (w:World) (h:Lies w A (ics l)) (hn:l.length <= 1000) (r:Int) (hr:Hid (orL l = r)) :
  Calls Tryz.prog 174 #[.slice A l.length c] w (VU r w):=by
 have HL:=zH h;clear h;go_enter Tryz.func174,Tryz.ntmps174;go_wp2_with fail;go_loopw [8] (fun i wr=>∃ k:Nat,k <= l.length /\ i = .int .i64 (k:Int) /\ Hid (wr = w) /\ Hid (orL (l.drop k) = r)) (fun i _=>l.length - (intOf i).toNat)
 case atStart=>exact ⟨0,Nat.zero_le _,rfl,zH rfl,hr⟩
 case round=>
  obtain ⟨k,hk,rfl,HW,HR⟩:=hrel;obtain rfl:=HW.out;by_cases hlt:k < l.length
  ·have hlt':(k:Int) < (l.length:Int):=by omega
   obtain ⟨b,off,rfl,hb,hc⟩:=HL.out.at_ (k:=k) hlt;rw [gE hlt,Option.getD_some] at hc;have HD:=ZcK hlt;rw [HR.out] at HD;by_cases hz:l[k] = 0
   ·have HR2:Hid (orL (l.drop (k + 1)) = r):=zH (by rw [if_pos hz] at HD;exact HD.symm);rw [hz] at hc;clear hz HD;go_wp2_with fail;exact ⟨⟨k + 1,by omega,by go_num,zH trivial,HR2⟩,by simp [intOf];omega⟩
   ·rw [if_neg hz] at HD;rw [<- HD] at hc;have hr0:¬ r = 0:=(by rw [HD];exact hz);clear hz HD;go_wp2_with fail;go_ret;exact ⟨rfl,Below.refl _ _⟩
  ·have hz:r = 0:=by rw [<- HR.out,List.drop_eq_nil_of_le (by omega)];rfl
   subst hz;go_wp2_with fail;go_ret;exact ⟨rfl,Below.refl _ _⟩
theorem ZeX (w:World) (a b c d:Int) (t:TypeId):Lies (w.alloc (.cells #[.int .i64 a,.int .i64 b,.int .i64 c,.int .i64 d] t)) (some ⟨w.heap.size,0,none⟩) (ics [a,b,c,d]):=fun _=>
 ⟨w.heap.size,0,rfl,by simp,fun k v hv=>by
  rw [cell_of_row _ w.heap.size (0 + k) _ _ _ (heap_alloc_new w _)];rw [Nat.zero_add];rcases k with _ | _ | _ | _ | k
  ·exact hv
  ·exact hv
  ·exact hv
  ·exact hv
  ·simp at hv⟩
def isLs (l:List Int) (base:Nat):Value -> World -> Prop:=fun v u=>∃ k,v = .slice (some ⟨k,0,none⟩) l.length l.length /\ base <= k /\ Hid (Lies u (some ⟨k,0,none⟩) (ics l))
theorem Keeps.isLs (l:List Int) (base:Nat):Keeps (isLs l base):=fun _ _ _ ⟨k,h1,h2,h3⟩ hb=>⟨k,h1,h2,zH (h3.out.below hb)⟩
theorem Zdx (a b:Ar) (w:World) (r:Int) (hr:Hid (ZjG a b = r)) :
  Calls Tryz.prog 129 #[.agg (arc a).toArray,.agg (arc b).toArray] w (VU r w):=by
 obtain ⟨W,hW⟩:∃ W:World,W = (w.alloc (.cells (arc a).toArray 91)).alloc (.cells (arc b).toArray 91):=⟨_,rfl⟩;have HB0:Hid (Below w.heap.size w W):=zH (by rw [hW];exact al2 w _ _);have HX0:Hid (W.heap[w.heap.size]? = some (.cells (arc a).toArray 91 (0,0))):=zH (by rw [hW];exact (Below.heap_alloc _ _ _ (by simp)).trans (heap_alloc_new w _));have HX1:Hid (W.heap[w.heap.size + 1]? = some (.cells (arc b).toArray 91 (0,0))):=zH (by rw [hW];have:=heap_alloc_new (w.alloc (.cells (arc a).toArray 91)) (.cells (arc b).toArray 91);rwa [show (w.alloc (.cells (arc a).toArray 91)).heap.size = w.heap.size + 1 by simp] at this);have HC:Hid (∀ u,Below W.heap.size W u -> u.cell? ⟨w.heap.size,0,none⟩ = some (.int .i64 a.fr) /\ u.cell? ⟨w.heap.size,1,none⟩ = some (.int .i64 a.en) /\ u.cell? ⟨w.heap.size,2,none⟩ = some (.int .i64 a.wd) /\ u.cell? ⟨w.heap.size,3,none⟩ = some (.int .i64 a.vr) /\ u.cell? ⟨w.heap.size + 1,0,none⟩ = some (.int .i64 b.fr) /\ u.cell? ⟨w.heap.size + 1,1,none⟩ = some (.int .i64 b.en) /\ u.cell? ⟨w.heap.size + 1,2,none⟩ = some (.int .i64 b.wd) /\ u.cell? ⟨w.heap.size + 1,3,none⟩ = some (.int .i64 b.vr)):=zH (fun u hu=>by
  have h0:=(hu.block _ (aE HX0.out).1).trans HX0.out;have h1:=(hu.block _ (aE HX1.out).1).trans HX1.out;exact ⟨(cR 0 h0).trans rfl,(cR 1 h0).trans rfl,(cR 2 h0).trans rfl,(cR 3 h0).trans rfl,(cR 0 h1).trans rfl,(cR 1 h1).trans rfl,(cR 2 h1).trans rfl,(cR 3 h1).trans rfl⟩)
 have HR:Hid (orL [Zp a.fr b.fr,Zp a.en b.en,Zp a.wd b.wd,Zp a.vr b.vr] = r):=hr;clear hr HX0 HX1;obtain ⟨afr,aen,awd,avr,xa⟩:=a;obtain ⟨bfr,ben,bwd,bvr,xb⟩:=b;simp only at HC HR;simp only [arc] at hW ⊢;obtain ⟨r0,h0⟩:∃ r0,r0 = Zp afr bfr:=⟨_,rfl⟩;obtain ⟨r1,h1⟩:∃ r1,r1 = Zp aen ben:=⟨_,rfl⟩;obtain ⟨r2,h2⟩:∃ r2,r2 = Zp awd bwd:=⟨_,rfl⟩;obtain ⟨r3,h3⟩:∃ r3,r3 = Zp avr bvr:=⟨_,rfl⟩;rw [<- h0,<- h1,<- h2,<- h3] at HR;have H0:=zH h0.symm;have H1:=zH h1.symm;have H2:=zH h2.symm;have H3:=zH h3.symm;clear h0 h1 h2 h3;go_enter Tryz.func129,Tryz.ntmps129;go_upto_region 1 with fail;rw [<- hW];clear hW;refine Jq 27 rfl (by kernel_rfl) (by kernel_rfl) (by kernel_rfl) (fun u=>Below W.heap.size W u) (fun u u'=>Below u.heap.size u u') (Gl [isV (.pointer (some ⟨w.heap.size,0,none⟩)),isV (.int .i64 afr),isV (.pointer (some ⟨w.heap.size + 1,0,none⟩)),isV (.int .i64 bfr),isV (.int .i64 r0),isV (.pointer (some ⟨w.heap.size,1,none⟩)),isV (.int .i64 aen),isV (.pointer (some ⟨w.heap.size + 1,1,none⟩)),isV (.int .i64 ben),isV (.int .i64 r1),isV (.pointer (some ⟨w.heap.size,2,none⟩)),isV (.int .i64 awd),isV (.pointer (some ⟨w.heap.size + 1,2,none⟩)),isV (.int .i64 bwd),isV (.int .i64 r2),isV (.pointer (some ⟨w.heap.size,3,none⟩)),isV (.int .i64 avr),isV (.pointer (some ⟨w.heap.size + 1,3,none⟩)),isV (.int .i64 bvr),isV (.int .i64 r3),isLs [r0,r1,r2,r3] W.heap.size,isV (.int .i64 r),isV (.int .i64 r)]) (Gl.keepL ⟨Keeps.isV _,Keeps.isV _,Keeps.isV _,Keeps.isV _,Keeps.isV _,Keeps.isV _,Keeps.isV _,Keeps.isV _,Keeps.isV _,Keeps.isV _,Keeps.isV _,Keeps.isV _,Keeps.isV _,Keeps.isV _,Keeps.isV _,Keeps.isV _,Keeps.isV _,Keeps.isV _,Keeps.isV _,Keeps.isV _,Keeps.isLs _ _,Keeps.isV _,Keeps.isV _,trivial⟩) ?_ ?_ ?_
 ·exact (Below.refl _ W).drew
 ·simp only [Jj];refine ⟨?_,?_,?_,?_,?_,?_,?_,?_,?_,?_,?_,?_,?_,?_,?_,?_,?_,?_,?_,?_,?_,?_,?_,trivial⟩
  ·intro bb u su dp kp K hK;have e2:bb.tmps.getD 2 undef = .pointer (some ⟨w.heap.size,0,none⟩):=kp 2 (by kernel_rfl);go_simp;exact hK _ _ su bR rfl
  ·intro bb u su dp kp K hK;have e5:bb.tmps.getD 5 undef = .pointer (some ⟨w.heap.size,0,none⟩):=dp 0 _ rfl (by kernel_rfl);obtain ⟨c0,c1,c2,c3,d0,d1,d2,d3⟩:=HC.out u su;go_simp;exact hK _ _ su bR rfl
  ·intro bb u su dp kp K hK;have e3:bb.tmps.getD 3 undef = .pointer (some ⟨w.heap.size + 1,0,none⟩):=kp 3 (by kernel_rfl);go_simp;exact hK _ _ su bR rfl
  ·intro bb u su dp kp K hK;have e7:bb.tmps.getD 7 undef = .pointer (some ⟨w.heap.size + 1,0,none⟩):=dp 2 _ rfl (by kernel_rfl);obtain ⟨c0,c1,c2,c3,d0,d1,d2,d3⟩:=HC.out u su;go_simp;exact hK _ _ su bR rfl
  ·intro bb u su dp kp K hK;have e6:bb.tmps.getD 6 undef = .int .i64 afr:=dp 1 _ rfl (by kernel_rfl);have e8:bb.tmps.getD 8 undef = .int .i64 bfr:=dp 3 _ rfl (by kernel_rfl);go_simp;refine (Zq _ _ u r0 H0).mono ?_;rintro e u' ⟨rfl,hb⟩;subst hb;go_simp;exact hK _ _ su bR rfl
  ·intro bb u su dp kp K hK;have e2:bb.tmps.getD 2 undef = .pointer (some ⟨w.heap.size,0,none⟩):=kp 2 (by kernel_rfl);go_simp;exact hK _ _ su bR rfl
  ·intro bb u su dp kp K hK;have e10:bb.tmps.getD 10 undef = .pointer (some ⟨w.heap.size,1,none⟩):=dp 5 _ rfl (by kernel_rfl);obtain ⟨c0,c1,c2,c3,d0,d1,d2,d3⟩:=HC.out u su;go_simp;exact hK _ _ su bR rfl
  ·intro bb u su dp kp K hK;have e3:bb.tmps.getD 3 undef = .pointer (some ⟨w.heap.size + 1,0,none⟩):=kp 3 (by kernel_rfl);go_simp;exact hK _ _ su bR rfl
  ·intro bb u su dp kp K hK;have e12:bb.tmps.getD 12 undef = .pointer (some ⟨w.heap.size + 1,1,none⟩):=dp 7 _ rfl (by kernel_rfl);obtain ⟨c0,c1,c2,c3,d0,d1,d2,d3⟩:=HC.out u su;go_simp;exact hK _ _ su bR rfl
  ·intro bb u su dp kp K hK;have e11:bb.tmps.getD 11 undef = .int .i64 aen:=dp 6 _ rfl (by kernel_rfl);have e13:bb.tmps.getD 13 undef = .int .i64 ben:=dp 8 _ rfl (by kernel_rfl);go_simp;refine (Zq _ _ u r1 H1).mono ?_;rintro e u' ⟨rfl,hb⟩;subst hb;go_simp;exact hK _ _ su bR rfl
  ·intro bb u su dp kp K hK;have e2:bb.tmps.getD 2 undef = .pointer (some ⟨w.heap.size,0,none⟩):=kp 2 (by kernel_rfl);go_simp;exact hK _ _ su bR rfl
  ·intro bb u su dp kp K hK;have e15:bb.tmps.getD 15 undef = .pointer (some ⟨w.heap.size,2,none⟩):=dp 10 _ rfl (by kernel_rfl);obtain ⟨c0,c1,c2,c3,d0,d1,d2,d3⟩:=HC.out u su;go_simp;exact hK _ _ su bR rfl
  ·intro bb u su dp kp K hK;have e3:bb.tmps.getD 3 undef = .pointer (some ⟨w.heap.size + 1,0,none⟩):=kp 3 (by kernel_rfl);go_simp;exact hK _ _ su bR rfl
  ·intro bb u su dp kp K hK;have e17:bb.tmps.getD 17 undef = .pointer (some ⟨w.heap.size + 1,2,none⟩):=dp 12 _ rfl (by kernel_rfl);obtain ⟨c0,c1,c2,c3,d0,d1,d2,d3⟩:=HC.out u su;go_simp;exact hK _ _ su bR rfl
  ·intro bb u su dp kp K hK;have e16:bb.tmps.getD 16 undef = .int .i64 awd:=dp 11 _ rfl (by kernel_rfl);have e18:bb.tmps.getD 18 undef = .int .i64 bwd:=dp 13 _ rfl (by kernel_rfl);go_simp;refine (Zq _ _ u r2 H2).mono ?_;rintro e u' ⟨rfl,hb⟩;subst hb;go_simp;exact hK _ _ su bR rfl
  ·intro bb u su dp kp K hK;have e2:bb.tmps.getD 2 undef = .pointer (some ⟨w.heap.size,0,none⟩):=kp 2 (by kernel_rfl);go_simp;exact hK _ _ su bR rfl
  ·intro bb u su dp kp K hK;have e20:bb.tmps.getD 20 undef = .pointer (some ⟨w.heap.size,3,none⟩):=dp 15 _ rfl (by kernel_rfl);obtain ⟨c0,c1,c2,c3,d0,d1,d2,d3⟩:=HC.out u su;go_simp;exact hK _ _ su bR rfl
  ·intro bb u su dp kp K hK;have e3:bb.tmps.getD 3 undef = .pointer (some ⟨w.heap.size + 1,0,none⟩):=kp 3 (by kernel_rfl);go_simp;exact hK _ _ su bR rfl
  ·intro bb u su dp kp K hK;have e22:bb.tmps.getD 22 undef = .pointer (some ⟨w.heap.size + 1,3,none⟩):=dp 17 _ rfl (by kernel_rfl);obtain ⟨c0,c1,c2,c3,d0,d1,d2,d3⟩:=HC.out u su;go_simp;exact hK _ _ su bR rfl
  ·intro bb u su dp kp K hK;have e21:bb.tmps.getD 21 undef = .int .i64 avr:=dp 16 _ rfl (by kernel_rfl);have e23:bb.tmps.getD 23 undef = .int .i64 bvr:=dp 18 _ rfl (by kernel_rfl);go_simp;refine (Zq _ _ u r3 H3).mono ?_;rintro e u' ⟨rfl,hb⟩;subst hb;go_simp;exact hK _ _ su bR rfl
  ·intro bb u su dp kp K hK;have e9:bb.tmps.getD 9 undef = .int .i64 r0:=dp 4 _ rfl (by kernel_rfl);have e14:bb.tmps.getD 14 undef = .int .i64 r1:=dp 9 _ rfl (by kernel_rfl);have e19:bb.tmps.getD 19 undef = .int .i64 r2:=dp 14 _ rfl (by kernel_rfl);have e24:bb.tmps.getD 24 undef = .int .i64 r3:=dp 19 _ rfl (by kernel_rfl);rw [Array.getD_eq_getD_getElem?] at e9 e14 e19 e24;go_simp;exact hK _ _ (su.alloc su.size _) (bR.alloc nR _) ⟨u.heap.size,rfl,su.size,zH (ZeX u r0 r1 r2 r3 _)⟩
  ·intro bb u su dp kp K hK;obtain ⟨k25,e25,hk25,D25⟩:∃ k,bb.tmps.getD 25 undef = .slice (some ⟨k,0,none⟩) 4 4 /\ W.heap.size <= k /\ Hid (Lies u (some ⟨k,0,none⟩) (ics [r0,r1,r2,r3])):=dp 20 _ rfl (by kernel_rfl);go_simp;refine (ZhY _ 4 [r0,r1,r2,r3] u D25.out (by simp) r HR).mono ?_;rintro e u' ⟨rfl,hb⟩;go_simp;exact hK _ _ (su.trans (hb.mono su.size)) hb rfl
  ·intro bb u su dp kp K hK;have e26:bb.tmps.getD 26 undef = .int .i64 r:=dp 21 _ rfl (by kernel_rfl);go_simp;exact hK _ _ su bR rfl
 ·intro bb u hN hdf su hG sm;have e4:bb.tmps.getD 4 undef = .int .i64 r:=hG 22 _ rfl;rw [Ju bb _ [false,false,false,false,true,true,true,true,true,true,true,true,true,true,true,true,true,true,true,true,true,true,true,true,true,true,true] _ rfl hN rfl (by kernel_rfl) hdf sm];simp only [Y2,Nat.reduceAdd,e4];clear e4 hG sm hN hdf;generalize bb.tmps.getD 5 undef = z5,bb.tmps.getD 6 undef = z6,bb.tmps.getD 7 undef = z7,bb.tmps.getD 8 undef = z8,bb.tmps.getD 9 undef = z9,bb.tmps.getD 10 undef = z10,bb.tmps.getD 11 undef = z11,bb.tmps.getD 12 undef = z12,bb.tmps.getD 13 undef = z13,bb.tmps.getD 14 undef = z14,bb.tmps.getD 15 undef = z15,bb.tmps.getD 16 undef = z16,bb.tmps.getD 17 undef = z17,bb.tmps.getD 18 undef = z18,bb.tmps.getD 19 undef = z19,bb.tmps.getD 20 undef = z20,bb.tmps.getD 21 undef = z21,bb.tmps.getD 22 undef = z22,bb.tmps.getD 23 undef = z23,bb.tmps.getD 24 undef = z24,bb.tmps.getD 25 undef = z25,bb.tmps.getD 26 undef = z26;have HS:=zH (HB0.out.trans (su.mono HB0.out.size));clear su;go_wp2_with fail;go_ret;exact ⟨rfl,HS.out⟩
end Go.Proofs.YtlgdlenoohkipaaGreat
