/- TopLearned -/
import Derived.Test.YtlgdlenoohkipaaGreatMTearn2
set_option maxRecDepth 100000
set_option maxHeartbeats 32000000
namespace Go.Proofs.YtlgdlenoohkipaaGreat
open Go.RowKit Ear

abbrev ZdW (L:List Inn):List (List Int):=L.map fun x=>x.2.2
end Go.Proofs.YtlgdlenoohkipaaGreat
namespace Go
section
variable {P:Program} {ops:Array Oper} {Q:Exit -> Act -> World -> Prop} {md:Region.Mode}
theorem Jk {S:World -> Prop} {id:Nat} {a:Act} {w:World} (n:Nat) (hn:ops.size = n) (hm:P.follows .mixedOrders = true) (hS:S w.drew)
  (h:S w.drew -> wpAnyH P .any ops Q S n (Array.replicate n false) a w.drew):(Code.region id ops true).wp P Q a w:=by
 refine wp_region_any hm ?_;rw [hn];exact wpAny_of_held _ _ _ _ (h hS)
theorem ZaK {S:World -> Prop} {i:Nat} (d:Nat) {oi:Oper} {fuel:Nat} {listed:Array Bool} {t:Array Value} {df:List Deferred} {w:World} (hi:ops[i]? = some oi) (hd:oi.dst = some d)
  (hs:Region.noSelect ops = true) (hf:Region.free md ops listed i = true) (hr:(Region.ready md ops listed).contains i = true)
  (hQ:∀ c a w,Q (.panic c) (a.put (some d) undef) w -> Q (.panic c) a w) (hw:Region.wanted oi (yielded ops t) = false) (hS:S w)
  (h:wpAnyH P md ops Q S fuel (listed.setIfInBounds i true) ⟨t.setIfInBounds d undef,df⟩ w):wpAnyH P md ops Q S (fuel + 1) listed ⟨t,df⟩ w:=
 wpAnyH_take hi hs hf hr (by rw [hd];exact hQ) (.inr ⟨hw,rfl⟩) hS (by rw [hd];exact h)
theorem Jn {S:World -> Prop} (i:Nat) {o:Oper} {fuel:Nat} {listed:Array Bool} {a:Act} {w:World} (ho:ops[i]? = some o) (hr:Region.ready md ops listed = [i]) (hw:Region.wanted o (yielded ops a.tmps) = true)
  (h:∀ K':Act -> World -> Prop,Shut (∀ a w,S w -> (S w -> wpAnyH P md ops Q S fuel (listed.setIfInBounds i true) a w) -> K' a w) -> Oper.wp P o a w K' Q):wpAnyH P md ops Q S (fuel + 1) listed a w:=
 wpAnyH_ready hr (by simp) (AllReadyH.cons ho (fun K hK=>by
  rw [if_pos hw];exact h K hK) AllReadyH.nil)
def Region.nextU:List Oper -> List Bool -> Nat -> Option (Nat × Oper × Nat)
 | o :: os,b :: bs,k=>if b = true then Region.nextU os bs (k + 1) else (match o.dst with | some d=>some (k,o,d) | none=>none)
 | _,_,_=>none
theorem Region.nextU_spec:∀ (os:List Oper) (bs:List Bool) (k:Nat) {i:Nat} {o:Oper} {d:Nat},Region.nextU os bs k = some (i,o,d) -> k <= i /\ os[i - k]? = some o /\ o.dst = some d
 | [],_,_,i,o,d,h=>by simp [Region.nextU] at h
 | _ :: _,[],_,i,o,d,h=>by simp [Region.nextU] at h
 | o' :: os,b :: bs,k,i,o,d,h=>by
  unfold Region.nextU at h;split at h
  ·obtain ⟨h1,h2,h3⟩:=Region.nextU_spec os bs (k + 1) h;refine ⟨by omega,?_,h3⟩;rw [show i - k = (i - (k + 1)) + 1 by omega,List.getElem?_cons_succ];exact h2
  ·split at h
   ·rename_i d' hd;injection h with h
    simp only [Prod.mk.injEq] at h;obtain ⟨rfl,rfl,rfl⟩:=h;exact ⟨Nat.le_refl _,by simp,hd⟩
   ·cases h
def Region.okU (md:Region.Mode) (ops:Array Oper) (listed:Array Bool) (i:Nat):Bool:=Region.noSelect ops && Region.free md ops listed i && (Region.ready md ops listed).contains i
theorem Jd {S:World -> Prop} {i d:Nat} {oi:Oper} {v:Value} {fuel:Nat} {listed:Array Bool} {t:Array Value} {df:List Deferred} {w:World} (hn:Region.nextU ops.toList listed.toList 0 = some (i,oi,d)) (hb:Region.okU md ops listed i = true)
  (hQ:∀ c a w,Q (.panic c) (a.put (some d) v) w -> Q (.panic c) a w) (hy:Region.wanted oi (yielded ops t) = true /\ ∀ w,S w -> (execOp (Act.eval ⟨t,df⟩) oi).run P w = .ok (.value v) w) (hS:S w)
  (h:wpAnyH P md ops Q S fuel (listed.setIfInBounds i true) ⟨t.setIfInBounds d v,df⟩ w):wpAnyH P md ops Q S (fuel + 1) listed ⟨t,df⟩ w:=by
 obtain ⟨_,h2,h3⟩:=Region.nextU_spec _ _ _ hn;unfold Region.okU at hb;simp only [Bool.and_eq_true] at hb;exact Jv d (by simpa using h2) h3 hb.1.1 hb.1.2 hb.2 hQ hy hS h
theorem XP {S:World -> Prop} {i d:Nat} {oi:Oper} {fuel:Nat} {listed:Array Bool} {t:Array Value} {df:List Deferred} {w:World} (hn:Region.nextU ops.toList listed.toList 0 = some (i,oi,d)) (hb:Region.okU md ops listed i = true)
  (hQ:∀ c a w,Q (.panic c) (a.put (some d) undef) w -> Q (.panic c) a w) (hw:Region.wanted oi (yielded ops t) = false) (hS:S w)
  (h:wpAnyH P md ops Q S fuel (listed.setIfInBounds i true) ⟨t.setIfInBounds d undef,df⟩ w):wpAnyH P md ops Q S (fuel + 1) listed ⟨t,df⟩ w:=by
 obtain ⟨_,h2,h3⟩:=Region.nextU_spec _ _ _ hn;unfold Region.okU at hb;simp only [Bool.and_eq_true] at hb;exact ZaK d (by simpa using h2) h3 hb.1.1 hb.1.2 hb.2 hQ hw hS h
end
end Go
namespace Go.Proofs.YtlgdlenoohkipaaGreat
open Go.RowKit Ear

structure LL (w:World) (A:Option Addr) (L:List Inn):Prop where
 lies:Lies w A (lcs L)
 inn:∀ x ∈ L,InOk w x
theorem LL.below {w w':World} {A:Option Addr} {L:List Inn} (h:LL w A L) (hb:Below w.heap.size w w'):LL w' A L:=⟨h.lies.below hb,fun x hx=>(h.inn x hx).below hb⟩
def BT (w:World) (b:Nat) (e:TypeId):Prop:=∃ cur fr,w.heap[b]? = some (.cells cur e fr)
section
variable {w w':World} {b b':Nat} {e e':TypeId}
theorem BT.lt (h:BT w b e):b < w.heap.size:=by obtain ⟨c,f,h⟩:=h;exact (aE h).1
theorem BT.ne (h:BT w b e) (h':BT w b' e') (hne:e ≠ e'):b ≠ b':=by
 rintro rfl;obtain ⟨c,f,h⟩:=h;obtain ⟨c',f',h'⟩:=h';rw [h] at h';injection h' with h'
 injection h' with _ h2 _
 exact hne h2
theorem BT.block (h:BT w b e) (he:w'.heap[b]? = w.heap[b]?):BT w' b e:=by
 obtain ⟨c,f,h⟩:=h;exact ⟨c,f,he.trans h⟩
theorem BT.below (h:BT w b e) (hb:Below w.heap.size w w'):BT w' b e:=h.block (hb.block b h.lt)
theorem BT.of_own {base size n:Nat} {v:Value} {xs:List Value} (h:w.ownsRow base e size v n xs) (hv:v.ownBlock = some b):BT w b e:=by
 rcases h.2 with ⟨rfl,_⟩ | ⟨g,cap,cur,rfl,_,hg,_⟩
 ·simp [Value.ownBlock] at hv
 ·simp [Value.ownBlock] at hv;subst hv;exact ⟨cur,_,hg⟩
end
def ZjV (w:World) (A:Option Addr) (e:TypeId):Prop:=∀ b off,A = some ⟨b,off,none⟩ -> BT w b e
def InT (w:World) (x:Inn):Prop:=InOk w x /\ ZjV w x.1 3
theorem InT.below {w w':World} {x:Inn} (h:InT w x) (hb:Below w.heap.size w w'):InT w' x:=⟨h.1.below hb,fun b off e=>(h.2 b off e).below hb⟩
theorem InT.block {w w':World} {x:Inn} (h:InT w x) (hs:w.heap.size <= w'.heap.size) (hk:∀ b,BT w b 3 -> w'.heap[b]? = w.heap[b]?):InT w' x:=by
 refine ⟨⟨fun h0=>?_,h.1.2⟩,fun b off e=>(h.2 b off e).block (hk b (h.2 b off e))⟩;obtain ⟨b,off,e,hb,hc⟩:=h.1.1 h0;exact ⟨b,off,e,Nat.lt_of_lt_of_le hb hs,fun k u hu=>(World.cell?_of_block (a:=⟨b,off + k,none⟩) (hk b (h.2 b off e))).trans (hc k u hu)⟩
theorem InT.grown {w w':World} {x:Inn} (h:InT w x) {row:Option Nat} (hg:w.grownBy w' row) {e:TypeId} (hr:∀ k,row = some k -> k < w.heap.size -> BT w k e) (he:e ≠ 3):InT w' x:=
 h.block hg.size fun b hb=>hg.block b hb.lt fun e'=>(hr b e'.symm hb.lt).ne hb he rfl
theorem InT.set {w:World} {x:Inn} (h:InT w x) {p:Addr} {e:TypeId} (hp:BT w p.block e) (he:e ≠ 3) (u:Value):InT (w.setCell p u) x:=
 h.block (by simp [World.setCell]) fun b hb=>Below.heap_setCell w p u b (fun e'=>hp.ne hb he e'.symm)
theorem InT.of_own {w:World} {base n c:Nat} {A:Option Addr} {l:List Int} (h:w.ownsRow base 3 1 (.slice A n c) n (ics l)) (hn:n = l.length) (hl:n <= 9223372036854775807) (hB:∀ y ∈ l,-9223372036854775808 <= y /\ y <= 9223372036854775807):InT w (A,c,l):=by
 subst hn;refine ⟨⟨Lies.of_own h,fun e=>?_,hl,Zaa h,hB⟩,fun b off e=>BT.of_own h (by simp only at e;subst e;rfl)⟩;simp only at e;subst e;rcases h.2 with ⟨e1,e2⟩ | ⟨g,cap,cur,e1,_⟩
 ·injection e1 with _ _ e3
  exact ⟨e3,List.length_eq_zero_iff.1 e2⟩
 ·injection e1 with e3;cases e3
theorem InT.nil (w:World):InT w (none,0,[]):=⟨⟨Lies.nil _ _,fun _=>⟨rfl,rfl⟩,by simp,by simp,by simp⟩,fun b off e=>by cases e⟩
structure LLo (w:World) (base:Nat) (A:Option Addr) (c:Nat) (L:List Inn):Prop where
 row:w.ownsRow base 35 1 (.slice A L.length c) L.length (lcs L)
 inn:∀ x ∈ L,InT w x
theorem LLo.lies {w:World} {base c:Nat} {A:Option Addr} {L:List Inn} (h:LLo w base A c L):Lies w A (lcs L):=Lies.of_own h.row
theorem LLo.nil (w:World) (base:Nat):LLo w base none 0 []:=⟨World.ownsRow_nil _ _ _ _,fun x h=>by simp at h⟩
theorem LLo.below {w w':World} {base c:Nat} {A:Option Addr} {L:List Inn} (h:LLo w base A c L) (hb:Below w.heap.size w w'):LLo w' base A c L:=⟨Jr h.row hb,fun x hx=>(h.inn x hx).below hb⟩
theorem LLo.le {w:World} {base base' c:Nat} {A:Option Addr} {L:List Inn} (h:LLo w base A c L) (hb:base' <= base):LLo w base' A c L:=⟨J9 h.row hb,h.inn⟩
theorem LLo.snoc {w w':World} {base base' c c' n:Nat} {A A':Option Addr} {L:List Inn} {x:Inn} (h:LLo w base A c L) (hx:InT w x) (hg:w.grownBy w' (Value.slice A n c).ownBlock)
  (hr:w'.ownsRow base' 35 1 (.slice A' (L.length + 1) c') (L.length + 1) (lcs L ++ [Value.slice x.1 x.2.2.length x.2.1])):LLo w' base' A' c' (L ++ [x]):=by
 have key:∀ y,InT w y -> InT w' y:=fun y hy=>hy.grown hg (e:=35) (fun k e _=>BT.of_own (v:=.slice A L.length c) h.row (by rw [<- e];cases A <;> rfl)) (by decide);refine ⟨by simpa using hr,fun y hy=>?_⟩;rcases List.mem_append.1 hy with hy | hy
 ·exact key y (h.inn y hy)
 ·simp at hy;subst hy;exact key y hx
def ZjZ (out:List (List Int)) (w:World) (e:Ending) (w':World):Prop:=
 ∃ A c L,e = .returned (.slice A (L:List Inn).length c) /\ Hid (ZdW L = out) /\ LLo w' w.heap.size A c L /\ Below w.heap.size w w'
theorem ZfV {L:List Inn} {k:Nat} (hk:k < L.length):(ZdW L)[k]?.getD [] = L[k].2.2:=by
 rw [List.getElem?_map,gE hk];rfl

theorem Ze7:(Tryz.prog.info? 35).map (fun i=>(i.zero,i.size,i.bytes)) = some (some (.slice none 0 0),1,24):=by kernel_rfl
end Go.Proofs.YtlgdlenoohkipaaGreat
namespace Go.Proofs.YtlgdlenoohkipaaGreat
open Go.RowKit Ear

theorem Ve (w:World) (u:Value) (t:TypeId):Lies (w.alloc (.cells #[u] t)) (some ⟨w.heap.size,0,none⟩) [u]:=fun _=>
 ⟨w.heap.size,0,rfl,by simp,fun k v hv=>by rw [Nat.zero_add,cell_of_row _ _ k _ _ _ (heap_alloc_new w _)];simpa using hv⟩
theorem Led.make {w0 w:World} {F:List (Option Addr × List Value)} (h:Led w0 w F) (cs:Array Value) (t:TypeId) (k:Nat) (hk:w.heap.size = k):Led w0 (w.alloc (.cells cs t)) (F ++ [(some ⟨k,0,none⟩,cs.toList)]):=
 (h.alloc _).row (by subst hk;exact heap_alloc_new w _)
theorem Zf {W:World} {k:Nat} {u0 u1 u2:Value} (v0 v1 v2:Value) (h0:W.cell? ⟨k,0,none⟩ = some u0) (h1:W.cell? ⟨k,1,none⟩ = some u1) (h2:W.cell? ⟨k,2,none⟩ = some u2) :
  (((W.setCell ⟨k,0,none⟩ v0).setCell ⟨k,1,none⟩ v1).setCell ⟨k,2,none⟩ v2).cell? ⟨k,0,none⟩ = some v0 /\ (((W.setCell ⟨k,0,none⟩ v0).setCell ⟨k,1,none⟩ v1).setCell ⟨k,2,none⟩ v2).cell? ⟨k,1,none⟩ = some v1 /\ (((W.setCell ⟨k,0,none⟩ v0).setCell ⟨k,1,none⟩ v1).setCell ⟨k,2,none⟩ v2).cell? ⟨k,2,none⟩ = some v2:=by
 simp [go_sem,h0,h1,h2]
theorem QN {W:World} {k:Nat} {u0 u1 u2:Value} (v0 v1 v2:Value) (o:Obj) (h0:W.cell? ⟨k,0,none⟩ = some u0) (h1:W.cell? ⟨k,1,none⟩ = some u1) (h2:W.cell? ⟨k,2,none⟩ = some u2) (hk:k < W.heap.size) :
  ((((W.setCell ⟨k,0,none⟩ v0).setCell ⟨k,1,none⟩ v1).setCell ⟨k,2,none⟩ v2).alloc o).cell? ⟨k,0,none⟩ = some v0 /\ ((((W.setCell ⟨k,0,none⟩ v0).setCell ⟨k,1,none⟩ v1).setCell ⟨k,2,none⟩ v2).alloc o).cell? ⟨k,1,none⟩ = some v1 /\ ((((W.setCell ⟨k,0,none⟩ v0).setCell ⟨k,1,none⟩ v1).setCell ⟨k,2,none⟩ v2).alloc o).cell? ⟨k,2,none⟩ = some v2:=by
 obtain ⟨e0,e1,e2⟩:=Zf v0 v1 v2 h0 h1 h2;have hs:k < (((W.setCell ⟨k,0,none⟩ v0).setCell ⟨k,1,none⟩ v1).setCell ⟨k,2,none⟩ v2).heap.size:=by simpa using hk
 exact ⟨(World.cell?_alloc_lt _ o ⟨k,0,none⟩ hs).trans e0,(World.cell?_alloc_lt _ o ⟨k,1,none⟩ hs).trans e1,(World.cell?_alloc_lt _ o ⟨k,2,none⟩ hs).trans e2⟩
theorem VL (A:Option Addr) (c:Nat) (w:World) (h:Lies w A (ucs [1])):Calls Tryz.prog 98 #[.slice A 1 c] w fun e w'=>e = .returned (.bool true) /\ w = w':=by
 have h1:=VM A c 1 w (by rw [Yy];exact h) (by rw [Yy];simp) true (zH (by simp));rw [Yy] at h1;simpa using h1
theorem ZY {w:World} {base c:Nat} {A:Option Addr} {l:List Int} (h:w.ownsRow base 170 1 (.slice A l.length c) l.length (ucs l)) (hd:dgs l):Dg w A c l:=
 ⟨Lies.of_own h,hd,(Xj h).1,(Xj h).2⟩
theorem QF (neg:Bool) (A B:Option Addr) (c d:Nat) (a b:List Int) (w:World) (hA:Dg w A c a) (hB:Dg w B d b) (hn:a.length <= 1000000) (hm:b.length <= 1000000) (hx:Hid (vl a = 0)) :
  Calls Tryz.prog 45 #[.bool neg,.slice A a.length c,.slice B b.length d] w (RetFr false 0 1 w):=by
 have DA:=zH hA.dig;have DB:=zH hB.dig;have ca:=hA.cap;have cb:=hB.cap;have LA:=zH (fun o=>hA.lies.alloc (w:=w) o);have LB:=zH (fun o=>hB.lies.alloc (w:=w) o);have hvb:=Jw DB.out;have HV:Hid (vl b = ((vl b).toNat:Nat)):=zH (by omega);have HX:Hid (vl a = (0:Nat)):=zH (by rw [hx.out];rfl);have HZ:Hid ((nd 0).length = 0):=zH (by rw [JE];rfl);clear hvb hA hB;generalize (vl b).toNat = v at *
 go_enter Tryz.func45,Tryz.ntmps45;go_wp2_with fail;refine (JL A c a _ (LA.out _) DA ca (by omega) 0 HX).mono ?_;rintro e w' ⟨rfl,rfl⟩;rw [HZ.out];go_wp2_with fail;refine (JL B d b _ (LB.out _) DB cb (by omega) v HV).mono ?_;rintro e w' ⟨rfl,rfl⟩;go_wp2_with fail;refine bodyPost_ret (v:=.agg #[.bool false,.slice none 0 0,.slice none 0 0]) (by simp [results,Tryz.results45,go_sem]) rfl ?_;refine ⟨⟨false,none,0,[],none,0,[]⟩,rfl,⟨Dg.none _,Dg.none _⟩,rfl,JE.symm,rfl,?_⟩
 first
  | exact bR.alloc nR _
  | exact (((bR.alloc nR _).setCell (by simp) _).setCell (by simp) _).setCell (by simp) _
theorem Zgw (neg:Bool) (A B:Option Addr) (c d:Nat) (a b:List Int) (w:World) (hA:Dg w A c a) (hB:Dg w B d b) (hn:a.length <= 1000000) (hm:b.length <= 1000000) (x:Nat) (hx:Hid (vl a = x)) (h0:x ≠ 0) (hb0:Hid (vl b = 0)) :
  Calls Tryz.prog 45 #[.bool neg,.slice A a.length c,.slice B b.length d] w (RetFr neg x 1 w):=by
 obtain ⟨j0,hj0,ky0,ky1,ky2⟩:=info_parts XJ;have KI:=zH hj0;have KZ0:=zH ky0;have KZ1:=zH ky1;have KZ2:=zH ky2;clear hj0 ky0 ky1 ky2;have DA:=zH hA.dig;have DB:=zH hB.dig;have ca:=hA.cap;have cb:=hB.cap;have NA:=zH hA.nil;have LA:=zH (fun o=>hA.lies.alloc (w:=w) o);have LB:=zH (fun o=>hB.lies.alloc (w:=w) o);have hB0:Hid (vl b = (0:Nat)):=zH (by rw [hb0.out];rfl);have HZ:Hid ((nd 0).length = 0):=zH (by rw [JE];rfl);have DX:=zH (hA.nd hx.out);have hlx:=JD DA.out hx.out;have hne:(nd x).length ≠ 0:=fun h=>h0 (Js.1 h);have q0:(((nd x).length:Int) == 0) = false:=beq_eq_false_iff_ne.2 (by omega);clear hA hB;go_enter Tryz.func45,Tryz.ntmps45;go_wp2_with fail;refine (JL A c a _ (LA.out _) DA ca (by omega) x hx).mono ?_;rintro e w' ⟨rfl,rfl⟩;go_wp2_with fail;refine (JL B d b _ (LB.out _) DB cb (by omega) 0 hB0).mono ?_;rintro e w' ⟨rfl,rfl⟩;rw [HZ.out];go_wp2_with fail;obtain ⟨W2,hW2⟩:∃ W2:World,W2 = (((w.alloc (.cells #[.bool false,.slice none 0 0,.slice none 0 0] 31)).alloc (.cells #[.int .u32 1] 170)).alloc (.cells #[.int .u32 1] 170)):=⟨_,rfl⟩;have D2:=zH ((((Led.nil w).make #[.bool false,.slice none 0 0,.slice none 0 0] 31 w.heap.size rfl).make #[.int .u32 1] 170 (w.heap.size + 1) (by simp)).make #[.int .u32 1] 170 (w.heap.size + 2) (by simp));rw [<- hW2] at D2 ⊢;have L2:Hid (Dg W2 A c (nd x)):=zH (by rw [hW2];exact (DX.out.below (((bR.alloc nR _).alloc (by simp) _).alloc (by simp;omega) _)));have hs2:w.heap.size + 3 = W2.heap.size:=by rw [hW2];simp
 have f2:W2.frozen? ⟨w.heap.size,0,none⟩ = false /\ W2.frozen? ⟨w.heap.size,1,none⟩ = false /\ W2.frozen? ⟨w.heap.size,2,none⟩ = false:=by rw [hW2];simp [go_sem]
 have HF2:=zH f2;clear hW2 f2 LA LB DX;refine (VL (some ⟨w.heap.size + 1,0,none⟩) 1 W2 (D2.out.lies 1 _ _ rfl)).mono ?_;rintro e w' ⟨rfl,rfl⟩;go_wp2_with fail;refine (VL (some ⟨w.heap.size + 2,0,none⟩) 1 W2 (D2.out.lies 2 _ _ rfl)).mono ?_;rintro e w' ⟨rfl,rfl⟩;generalize hxs:nd x = xs at *
 have HXS:=zH hxs;clear hxs;have L2':=L2.out;go_wp2_with (at_builtin;refine Jg _ rfl (.const (.slice none 0 0)) (.tmp 49) _ rfl W2.heap.size 170 j0 _ 1 4 Tryz.underlying29 KI.out KZ0.out KZ1.out KZ2.out rfl (by omega) (.slice none 0 0) 0 [] rfl (World.ownsRow_nil _ _ _ _) A xs.length c (ucs xs) rfl NA.out L2'.lies (by simp) (ZC _) (by unfold maxLen;omega) (by omega) nR xs.length (Nat.zero_add _) ?_;intro A4 c4 w4 ho4 hg4 _);have hb4:Below W2.heap.size W2 w4:=Xa hg4;have D4:=zH (D2.out.below hb4);obtain ⟨-,hf4⟩:=Zhp hb4;have r0:=D4.out.cell 0 rfl 0 rfl;have r1:=D4.out.cell 0 rfl 1 rfl;have r2:=D4.out.cell 0 rfl 2 rfl;have s0:w4.frozen? ⟨w.heap.size,0,none⟩ = false:=by rw [hf4 _ _ (by omega)];exact HF2.out.1
 have s1:w4.frozen? ⟨w.heap.size,1,none⟩ = false:=by rw [hf4 _ _ (by omega)];exact HF2.out.2.1
 have s2:w4.frozen? ⟨w.heap.size,2,none⟩ = false:=by rw [hf4 _ _ (by omega)];exact HF2.out.2.2
 have hs4:w.heap.size + 3 <= w4.heap.size:=by have:=hb4.size;omega
 have hlt4:w.heap.size < w4.heap.size:=by omega
 have L4:=zH (D4.out.lies 1 _ _ rfl);have HO4:=zH ho4;simp only [Nat.add_zero,Nat.zero_add] at r0 r1 r2;clear hb4 hf4 ho4 hg4 L2';go_wp2_with fail;refine (VL (some ⟨w.heap.size + 1,0,none⟩) 1 _ (L4.out.alloc _)).mono ?_;rintro e w' ⟨rfl,rfl⟩;go_wp2_with fail;obtain ⟨e0,e1,e2⟩:=QN (.bool neg) (.slice A4 xs.length c4) (.slice none 0 0) (.cells #[.bool neg,.slice A4 xs.length c4,.slice none 0 0] 31) r0 r1 r2 hlt4;refine bodyPost_ret (v:=.agg #[.bool neg,.slice A4 xs.length c4,.slice none 0 0]) (by simp [results,Tryz.results45,go_sem,e0,e1,e2]) rfl ?_;refine ⟨⟨neg,A4,c4,xs,none,0,[]⟩,rfl,⟨ZY ((J1 (J1 (J1 HO4.out (by simp;omega) _) (by simp;omega) _) (by simp;omega) _).alloc _) (by rw [<- HXS.out];exact Jy _),Dg.none _⟩,rfl,HXS.out.symm,rfl,?_⟩;exact ((((D4.out.bel).setCell nR _).setCell nR _).setCell nR _).alloc (by simp;omega) _
theorem Zgv (neg:Bool) (A B:Option Addr) (c d:Nat) (a b:List Int) (w:World) (hA:Dg w A c a) (hB:Dg w B d b) (hn:a.length <= 1000000) (hm:b.length <= 1000000) (x:Nat) (hx:Hid (vl a = x)) (h0:x ≠ 0) (hb0:Hid (vl b = 1)) :
  Calls Tryz.prog 45 #[.bool neg,.slice A a.length c,.slice B b.length d] w (RetFr neg x 1 w):=by
 obtain ⟨j0,hj0,ky0,ky1,ky2⟩:=info_parts XJ;have KI:=zH hj0;have KZ0:=zH ky0;have KZ1:=zH ky1;have KZ2:=zH ky2;clear hj0 ky0 ky1 ky2;have DA:=zH hA.dig;have DB:=zH hB.dig;have ca:=hA.cap;have cb:=hB.cap;have NA:=zH hA.nil;have LA:=zH (fun o=>hA.lies.alloc (w:=w) o);have LB:=zH (fun o=>hB.lies.alloc (w:=w) o);have hB0:Hid (vl b = (1:Nat)):=zH (by rw [hb0.out];rfl);have HZ:Hid ((nd 1).length = 1):=zH (by rw [Yy];rfl);have LB1:Hid (Dg w B d [1]):=zH (by have:=hB.nd hB0.out;rwa [Yy] at this);have DX:=zH (hA.nd hx.out);have hlx:=JD DA.out hx.out;have hne:(nd x).length ≠ 0:=fun h=>h0 (Js.1 h);have q0:(((nd x).length:Int) == 0) = false:=beq_eq_false_iff_ne.2 (by omega);clear hA hB;go_enter Tryz.func45,Tryz.ntmps45;go_wp2_with fail;refine (JL A c a _ (LA.out _) DA ca (by omega) x hx).mono ?_;rintro e w' ⟨rfl,rfl⟩;go_wp2_with fail;refine (JL B d b _ (LB.out _) DB cb (by omega) 1 hB0).mono ?_;rintro e w' ⟨rfl,rfl⟩;rw [HZ.out];go_wp2_with fail;obtain ⟨W2,hW2⟩:∃ W2:World,W2 = ((w.alloc (.cells #[.bool false,.slice none 0 0,.slice none 0 0] 31)).alloc (.cells #[.int .u32 1] 170)):=⟨_,rfl⟩;have D2:=zH ((((Led.nil w).add LB1.out.lies).make #[.bool false,.slice none 0 0,.slice none 0 0] 31 w.heap.size rfl).make #[.int .u32 1] 170 (w.heap.size + 1) (by simp));rw [<- hW2] at D2 ⊢;have L2:Hid (Dg W2 A c (nd x)):=zH (by rw [hW2];exact (DX.out.below ((bR.alloc nR _).alloc (by simp) _)));have hs2:w.heap.size + 2 = W2.heap.size:=by rw [hW2];simp
 have f2:W2.frozen? ⟨w.heap.size,0,none⟩ = false /\ W2.frozen? ⟨w.heap.size,1,none⟩ = false /\ W2.frozen? ⟨w.heap.size,2,none⟩ = false:=by rw [hW2];simp [go_sem]
 have HF2:=zH f2;clear hW2 f2 LA LB DX;refine (VL B d W2 (D2.out.lies 0 _ _ rfl)).mono ?_;rintro e w' ⟨rfl,rfl⟩;go_wp2_with fail;refine (VL (some ⟨w.heap.size + 1,0,none⟩) 1 W2 (D2.out.lies 2 _ _ rfl)).mono ?_;rintro e w' ⟨rfl,rfl⟩;generalize hxs:nd x = xs at *
 have HXS:=zH hxs;clear hxs;have L2':=L2.out;go_wp2_with (at_builtin;refine Jg _ rfl (.const (.slice none 0 0)) (.tmp 49) _ rfl W2.heap.size 170 j0 _ 1 4 Tryz.underlying29 KI.out KZ0.out KZ1.out KZ2.out rfl (by omega) (.slice none 0 0) 0 [] rfl (World.ownsRow_nil _ _ _ _) A xs.length c (ucs xs) rfl NA.out L2'.lies (by simp) (ZC _) (by unfold maxLen;omega) (by omega) nR xs.length (Nat.zero_add _) ?_;intro A4 c4 w4 ho4 hg4 _);have hb4:Below W2.heap.size W2 w4:=Xa hg4;have D4:=zH (D2.out.below hb4);obtain ⟨-,hf4⟩:=Zhp hb4;have r0:=D4.out.cell 1 rfl 0 rfl;have r1:=D4.out.cell 1 rfl 1 rfl;have r2:=D4.out.cell 1 rfl 2 rfl;have s0:w4.frozen? ⟨w.heap.size,0,none⟩ = false:=by rw [hf4 _ _ (by omega)];exact HF2.out.1
 have s1:w4.frozen? ⟨w.heap.size,1,none⟩ = false:=by rw [hf4 _ _ (by omega)];exact HF2.out.2.1
 have s2:w4.frozen? ⟨w.heap.size,2,none⟩ = false:=by rw [hf4 _ _ (by omega)];exact HF2.out.2.2
 have hs4:w.heap.size + 2 <= w4.heap.size:=by have:=hb4.size;omega
 have hlt4:w.heap.size < w4.heap.size:=by omega
 have L4:=zH (D4.out.lies 0 _ _ rfl);have HO4:=zH ho4;simp only [Nat.add_zero,Nat.zero_add] at r0 r1 r2;clear hb4 hf4 ho4 hg4 L2';go_wp2_with fail;refine (VL B d _ (L4.out.alloc _)).mono ?_;rintro e w' ⟨rfl,rfl⟩;go_wp2_with fail;obtain ⟨e0,e1,e2⟩:=QN (.bool neg) (.slice A4 xs.length c4) (.slice none 0 0) (.cells #[.bool neg,.slice A4 xs.length c4,.slice none 0 0] 31) r0 r1 r2 hlt4;refine bodyPost_ret (v:=.agg #[.bool neg,.slice A4 xs.length c4,.slice none 0 0]) (by simp [results,Tryz.results45,go_sem,e0,e1,e2]) rfl ?_;refine ⟨⟨neg,A4,c4,xs,none,0,[]⟩,rfl,⟨ZY ((J1 (J1 (J1 HO4.out (by simp;omega) _) (by simp;omega) _) (by simp;omega) _).alloc _) (by rw [<- HXS.out];exact Jy _),Dg.none _⟩,rfl,HXS.out.symm,rfl,?_⟩;exact ((((D4.out.bel).setCell nR _).setCell nR _).setCell nR _).alloc (by simp;omega) _
theorem Za5 (neg:Bool) (A B:Option Addr) (c d:Nat) (a b:List Int) (w:World) (hA:Dg w A c a) (hB:Dg w B d b) (hn:a.length <= 1000000) (hm:b.length <= 1000000) (x:Nat) (hx:Hid (vl a = x)) (hb0:Hid (vl b = 0 ∨ vl b = 1)) :
  Calls Tryz.prog 45 #[.bool neg,.slice A a.length c,.slice B b.length d] w (RetFr (neg && decide (x ≠ 0)) x 1 w):=by
 by_cases h0:x = 0
 ·subst h0;simpa using QF neg A B c d a b w hA hB hn hm (zH (by rw [hx.out];rfl))
 ·have e:(neg && decide (x ≠ 0)) = neg:=by simp [h0]
  rw [e];rcases hb0.out with h | h
  ·exact Zgw neg A B c d a b w hA hB hn hm x hx h0 (zH h)
  ·exact Zgv neg A B c d a b w hA hB hn hm x hx h0 (zH h)
theorem ZbQ {out l:List Int} {i:Nat} (ho:out.length = i) (hi:i < l.length) (t:Int):(out ++ l.drop i).set i t = (out ++ [t]) ++ l.drop (i + 1):=by
 rw [List.set_append_right _ _ (by omega),ho,Nat.sub_self,List.drop_eq_getElem_cons hi,List.set_cons_zero,List.append_assoc];rfl
theorem Zfk {out l:List Int} {i:Nat} (ho:out.length = i) (k:Nat) (hk:i <= k):(out ++ l.drop i)[k]?.getD 0 = l[k]?.getD 0:=by
 rw [List.getElem?_append_right (by omega),ho,List.getElem?_drop];congr 2;omega
theorem UK {out l:List Int} {i:Nat} (ho:out.length = i) (hi:i <= l.length):(out ++ l.drop i).length = l.length:=by simp;omega
theorem J5 {w:World} {base g n c:Nat} {l:List Int} (h:w.ownsRow base 170 1 (.slice (some ⟨g,0,none⟩) n c) n (ucs l)) (hl:l.length = n) {k:Nat} (hk:k < n):w.cell? ⟨g,k,none⟩ = some (.int .u32 (l[k]?.getD 0)) /\ w.frozen? ⟨g,k,none⟩ = false:=
 ⟨by rw [h.cellAt k (by omega)];simp only [List.getElem?_map,gE (show k < l.length by omega)];rfl,h.frozenAt k⟩
theorem Xi {w:World} {base g n c:Nat} {l:List Int} (h:w.ownsRow base 170 1 (.slice (some ⟨g,0,none⟩) n c) n (ucs l)) (k:Nat) (v:Int):(w.setCell ⟨g,k,none⟩ (.int .u32 v)).ownsRow base 170 1 (.slice (some ⟨g,0,none⟩) n c) n (ucs (l.set k v)):=by
 have hst:=h.stored k (.int .u32 v);rw [<- List.map_set] at hst;exact hst.1
theorem ZaY {w:World} {base n c:Nat} {A:Option Addr} {l:List Int} (h:w.ownsRow base 170 1 (.slice A n c) n (ucs l)) (hl:l.length = n) (hd:dgs l) (hn:n <= 1000000) {v:Nat} (hv:vl l = v):Calls Tryz.prog 155 #[.slice A n c] w (URet (nd v) w):=by
 subst hl;exact ZaH A c l w (ZY h hd) hn v (zH hv)
theorem ZX {w:World} {base n c:Nat} {A:Option Addr} {l:List Int} (h:w.ownsRow base 170 1 (.slice A n c) n (ucs l)) (hl:l.length = n) (hd:dgs l) (hn:n <= 1000000) {v:Nat} (hv:vl l = v):Calls Tryz.prog 155 #[.slice A n c] w (Yo v w):=by
 subst hl;exact Y4 A c l w (ZY h hd) hn v (zH hv)
theorem ZfR (A B:Option Addr) (c d:Nat) (a b:List Int) (w:World) (hA:Dg w A c a) (hB:Dg w B d b) (hn:a.length <= 900000) (hm:b.length <= 900000)
  (v:Nat) (hv:Hid (vl a + vl b = v)) :
  Calls Tryz.prog 187 #[.slice A a.length c,.slice B b.length d] w (Yo v w):=by
 obtain ⟨N,hN⟩:∃ N:Nat,N = max a.length b.length:=⟨_,rfl⟩;obtain ⟨w1,hmk,ho1,hb1⟩:=XN w (N + 1) (by omega) w.heap.size nR;have hmx:max (a.length:Int) (b.length:Int) = (N:Int):=by omega
 have e2:((N + 1:Nat):Int) = (N:Int) + 1:=by simp
 rw [e2] at hmk;obtain ⟨g,hg⟩:∃ g,g = w.heap.size:=⟨_,rfl⟩;rw [<- hg] at ho1 hmk;have HG:Hid (w.heap.size <= g):=by show _ <= _;omega
 have HST:=zH (PlusAt.start a b);have la:a.length <= N:=by omega
 have lb:b.length <= N:=by omega
 have da:=zH hA.dig;have db:=zH hB.dig;have LA:=zH hA.lies;have LB:=zH hB.lies;have NB:N <= 900000:=by omega
 clear hg e2 hA hB hN;go_enter Tryz.func187,Tryz.ntmps187;go_wp2_with fail;clear hmk hmx;go_loopw [6,7,17] (fun cy _ i wr=>∃ k:Nat,k <= N + 1 /\ i = .int .i64 k /\ ∃ out q,Hid (PlusAt a b out k q) /\ cy = .int .u64 q /\ wr.ownsRow g 170 1 (.slice (some ⟨g,0,none⟩) (N + 1) (N + 1)) (N + 1) (ucs (out ++ (List.replicate (N + 1) 0).drop k)) /\ Below w.heap.size w wr) (fun _ _ i _=>N + 1 - (intOf i).toNat)
 case atStart=>exact ⟨0,by omega,rfl,[],0,HST,rfl,by simpa using ho1,hb1⟩
 case round=>
  obtain ⟨k,hk,rfl,out,q,HM,rfl,r1,r2⟩:=hrel;clear HST ho1;have h0:=HM.out.c0;have h1:=HM.out.c1;have hol:=HM.out.len;by_cases hlt:k < N + 1
  ·have HA:=zH (LA.out.below r2);have HB:=zH (LB.out.below r2);have d1:=JH da.out k;have d2:=JH db.out k;have HN:=zH (fun t ht=>HM.out.next da.out db.out (t:=t) ht);have hq:=J5 r1 (by rw [UK hol (by simp;omega)];simp) hlt;rw [Zfk hol k nR] at hq;have hz:(List.replicate (N + 1) (0:Int))[k]?.getD 0 = 0:=(by rw [List.getElem?_replicate];split <;> rfl);rw [hz] at hq;obtain ⟨q1,q2⟩:=hq;have HS:Hid (∀ t,(out ++ (List.replicate (N + 1) 0).drop k).set k t = (out ++ [t]) ++ (List.replicate (N + 1) 0).drop (k + 1)):=zH (fun t=>ZbQ hol (by simp;omega) t);have HO:=zH r1;have HR2:=zH r2;clear r1 r2 hz hol;have fin:∀ t,t = q + a[k]?.getD 0 + b[k]?.getD 0 -> ∀ W,(wr.setCell ⟨g,k,none⟩ (.int .u32 (t % 4294967296))) = W -> (∃ k':Nat,k' <= N + 1 /\ Value.int .i64 (k + 1:Int) = .int .i64 k' /\ ∃ out q,Hid (PlusAt a b out k' q) /\ Value.int .u64 (t / 4294967296) = .int .u64 q /\ W.ownsRow g 170 1 (.slice (some ⟨g,0,none⟩) (N + 1) (N + 1)) (N + 1) (ucs (out ++ (List.replicate (N + 1) 0).drop k')) /\ Below w.heap.size w W):=by
    rintro t ht W rfl;refine ⟨k + 1,by omega,by simp,_,_,zH (HN.out t ht),rfl,?_,HR2.out.setCell HG.out _⟩;rw [<- HS.out];exact Xi HO.out k _
   have FIN:=zH fin;clear fin;by_cases hka:k < a.length
   ·obtain ⟨b1,o1,rfl,hb1,hc1⟩:=HA.out.uat hka;by_cases hkb:k < b.length
    ·obtain ⟨b2,o2,rfl,hb2,hc2⟩:=HB.out.uat hkb;have F:=zH (FIN.out _ rfl _ rfl);clear FIN;generalize a[k]?.getD 0 = x at *
     generalize b[k]?.getD 0 = y at *
     go_wp2_with fail;exact ⟨F.out,by simp [intOf];omega⟩
    ·have hy:b[k]?.getD 0 = 0:=(by rw [List.getElem?_eq_none (by omega)];rfl);have F:=zH (FIN.out _ rfl _ rfl);rw [hy,Int.add_zero] at F;clear FIN hy;generalize a[k]?.getD 0 = x at *
     go_wp2_with fail;exact ⟨F.out,by simp [intOf];omega⟩
   ·have hx:a[k]?.getD 0 = 0:=(by rw [List.getElem?_eq_none (by omega)];rfl);by_cases hkb:k < b.length
    ·obtain ⟨b2,o2,rfl,hb2,hc2⟩:=HB.out.uat hkb;have F:=zH (FIN.out _ rfl _ rfl);rw [hx,Int.add_zero] at F;clear FIN hx;generalize b[k]?.getD 0 = y at *
     go_wp2_with fail;exact ⟨F.out,by simp [intOf];omega⟩
    ·have hy:b[k]?.getD 0 = 0:=(by rw [List.getElem?_eq_none (by omega)];rfl);have F:=zH (FIN.out _ rfl _ rfl);rw [hx,hy,Int.add_zero,Int.add_zero,show q % 4294967296 = q by omega] at F;clear FIN hx hy;go_wp2_with fail;exact ⟨F.out,by simp [intOf];omega⟩
  ·obtain rfl:k = N + 1:=by omega
   have VV:Hid (vl out = v):=zH (by
    have hval:=HM.out.val;rw [List.take_of_length_le (show a.length <= N + 1 by omega),List.take_of_length_le (show b.length <= N + 1 by omega)] at hval;have e1:=Xx (vl a).toNat (vl b).toNat N (tR (JD da.out (by have:=Jw da.out;omega)) la) (tR (JD db.out (by have:=Jw db.out;omega)) lb);have e2:v < 4294967296 ^ (N + 1):=by
     have a0:=Jw da.out;have b0:=Jw db.out;have e3:(vl a).toNat + (vl b).toNat = v:=(by have:=hv.out;omega);rw [e3] at e1;exact Nat.lt_of_lt_of_le (ZE v) (Nat.pow_le_pow_right (by decide) e1)
    have e4:=Jw HM.out.dig;rw [Qa] at hval;have:=hv.out;rcases (show q = 0 ∨ q = 1 by omega) with rfl | rfl
    ·simp at hval;omega
    ·exfalso;rw [Int.mul_one] at hval;omega)
   have HT:=zH (ZX r1 (by rw [UK hol (by simp)];simp) (by rw [List.drop_eq_nil_of_le (by simp),List.append_nil];exact HM.out.dig) (by omega) (v:=v) (by rw [List.drop_eq_nil_of_le (by simp),List.append_nil];exact VV.out));have HR2:=zH r2;clear r1 r2 hol;go_wp2_with fail;refine HT.out.mono ?_;rintro e w' ⟨A2,c2,rfl,t1,t2,t3,t4⟩;go_wp2_with fail;go_ret;exact ⟨A2,c2,rfl,t1,t2,t3,HR2.out.trans (t4.mono HR2.out.size)⟩
end Go.Proofs.YtlgdlenoohkipaaGreat
