/- TalkHears -/
import Derived.Test.YtcjicjfbippmnaaGreatMTHear18
set_option maxRecDepth 100000
set_option maxHeartbeats 32000000
namespace Ear
def noR (f:PFl):PFl:=⟨1,⟨#[]⟩,if f.val ∈ f.ref then f.ref else f.ref ++ [f.val]⟩
end Ear
namespace Go.Proofs.YtcjicjfbippmnaaGreat
open Go.RowKit Ear

theorem DlA.put_put (a:DlA) (k:Nat) (X Y:FlM):(a.put k X).put k Y = a.put k Y:=by
 unfold DlA.put;simp only [List.set_set]
theorem _root_.Ear.PDl.put_put (D:PDl) (k:Nat) (X Y:PFl):(D.put k X).put k Y = D.put k Y:=by
 unfold PDl.put;simp only [List.set_set]
theorem DlA.put_at {a:DlA} {k:Nat} {X:FlM} (hk:k < (a.put k X).Fm.length):(a.put k X).Fm[k] = X:=List.getElem_set_self _
theorem DlA.put_len (a:DlA) (k:Nat) (X:FlM):(a.put k X).Fm.length = a.Fm.length:=WaP
theorem DlM.two {w:World} {bs:Nat} {a:DlA} {D:PDl} (h:DlM w bs a D) {k:Nat} (hk:k < a.Fm.length) (n:Int) (s:BA):DlM ((w.setCell ⟨a.gF,k * 3,none⟩ (.int .i64 n)).setCell ⟨a.gF,k * 3 + 1,none⟩ (.string s)) bs (a.put k { a.Fm[k] with st:=n,val:=s }) (D.put k { a.Fm[k].pure with st:=n,val:=s }) /\ Chg w ((w.setCell ⟨a.gF,k * 3,none⟩ (.int .i64 n)).setCell ⟨a.gF,k * 3 + 1,none⟩ (.string s)) a (a.put k { a.Fm[k] with st:=n,val:=s }):=by
 obtain ⟨h1,h2⟩:=h.setSt hk n;have hk2:k < (a.put k { a.Fm[k] with st:=n }).Fm.length:=by rw [DlA.put_len];exact hk
 obtain ⟨h3,h4⟩:=h1.setVal hk2 s;have h5:=h2.trans h4;rw [DlA.put_at hk2] at h3 h5;rw [DlA.put_put,PDl.put_put] at h3;rw [DlA.put_put] at h5;exact ⟨h3,h5⟩
theorem DlM.refs {w w1:World} {bs:Nat} {a:DlA} {D:PDl} (h:DlM w bs a D) {k:Nat} (hk:k < a.Fm.length) {n:Nat} {A:Option Addr} {c:Nat} {l:List BA} (hn:n = l.length) (hr:w1.ownsRow bs 9 1 (.slice A n c) n (sbs l)) (hg:w.grownBy w1 (blk a.Fm[k].A)) (hA:∀ b,blk A = some b -> blk a.Fm[k].A = some b ∨ w.heap.size <= b) :
  DlM (w1.setCell ⟨a.gF,k * 3 + 2,none⟩ (.slice A n c)) bs (a.put k { a.Fm[k] with A:=A,c:=c,ref:=l }) (D.put k { a.Fm[k].pure with ref:=l }) /\ Chg w (w1.setCell ⟨a.gF,k * 3 + 2,none⟩ (.slice A n c)) a (a.put k { a.Fm[k] with A:=A,c:=c,ref:=l }):=by
 subst hn;have hbF:BT w a.gF 76:=BT.of_own h.row rfl;have hne:blk a.Fm[k].A ≠ some a.gF:=fun e=>(BT.of_own (h.ref _ (gM hk)) (by rw [Jm];exact e)).ne hbF (by decide) rfl;have hrow1:w1.ownsRow 0 76 3 (.slice (some ⟨a.gF,0,none⟩) a.Fm.length a.fc) a.Fm.length (Xy a.Fm):=Jr h.row hg (fun b hb e=>by injection hb with hb;subst hb;exact hne e);obtain ⟨O,R,e1,e2,e3⟩:=ZaD a.Fm hk;have hst:=hrow1.stored (k * 3 + 2) (.slice A l.length c);have hset:(Xy a.Fm).set (k * 3 + 2) (.slice A l.length c) = Xy (a.Fm.set k { a.Fm[k] with A:=A,c:=c,ref:=l }):=by
  have hl:(Xy O).length = k * 3:=by rw [JN,e2]
  rw [e3]
  conv=>lhs;rw [e1]
  rw [Ya,Ya,WaJ _ _ (by omega),hl,show k * 3 + 2 - k * 3 = 2 by omega];rfl
 rw [hset] at hst;refine h.put hk { a.Fm[k] with A:=A,c:=c,ref:=l } (tR hg.size hst.2.size) (hst.2.os.trans hg.os) (hst.2.tape.trans hg.tape) (hst.2.output.trans hg.output) hst.1 (fun b h1 h2 h3=>(hst.2.block b (Wk h1 hg.size) (by intro e;injection e with e;exact h2 e)).trans (hg.block b h1 (fun e=>h3 e.symm))) ?_ hA;have hbF1:BT w1 a.gF 76:=BT.of_own hrow1 rfl;exact Jr hr hst.2 (fun b hb e=>by injection e with e;subst e;exact (BT.of_own hr hb).ne hbF1 (by decide) rfl)
theorem Zit (bs:Nat) (a:DlA) (D:PDl) (E:EvM) (q:Rat) (w:World) (h:DlM w bs a D) (hE:Fv w E.W q) (fE:Few E.W 90000) (k:Nat) (f:PFl) (ps:PSl) (hk:D.F[k]? = some f) (hs:D.S[k]? = some ps) (ha:Vb D.F = k) (hn:a.Fm.length <= 1000000) (hp : 0 <= D.prompt /\ D.prompt <= 2199023255552) (hd : 0 <= D.need /\ D.need <= 10000) (hrl:f.ref.length <= 1000000) (r:Bool) (hr:Hid (ZdU D f ps q E.at_ = r)) (D':PDl) (hD':Hid ((if r = true then D.put k (noR f) else D) = D')) :
  Calls Tryz.prog 140 #[.pointer (some ⟨a.q,0,none⟩),E.v] w (ZR bs a r D' w):=by
 obtain ⟨W0,hW0⟩:∃ W0:World,W0 = w.alloc (.cells (eB E) 61):=⟨_,rfl⟩;have HB0:Hid (Below w.heap.size w W0):=zH (by rw [hW0];exact bR.alloc nR _);have HX0:Hid (W0.heap[w.heap.size]? = some (.cells (eB E) 61 (0,0))):=zH (by rw [hW0];exact Wg w _);have HD0:=zH (h.below HB0.out);have HAN:=zH (Qm bs a D E q W0 HD0.out (hE.below HB0.out) fE k f ps hk hs ha hn hp hd r hr);have hkF:k < a.Fm.length:=by
  have h1:=(Wl.1 hk).1;have h2:=WaF List.length h.pure;simp at h2;omega
 have efm:a.Fm[k].pure = f:=by
  have h1:(a.Fm.map FlM.pure)[k]? = some f:=by rw [h.pure];exact hk
  rw [WL,gE hkF] at h1;injection h1
 have EFM:=zH efm;have HRL:=zH hrl;have c0:=(cR 0 HX0.out).trans rfl;have c1:=(cR 1 HX0.out).trans rfl;have c2:=(cR 2 HX0.out).trans rfl;have c3:=(cR 3 HX0.out).trans rfl;have c4:=(cR 4 HX0.out).trans rfl;have c5:=(cR 5 HX0.out).trans rfl;clear h hE ha hp hd hr efm hk hs hrl;unfold EvM.v at *
 obtain ⟨i0,hi0,hz0,hz1,hz2⟩:=WaI Yt;have HI:=zH hi0;have HZ0:=zH hz0;have HZ1:=zH hz1;have HZ2:=zH hz2;clear hi0 hz0 hz1 hz2;go_enter Tryz.func140,Tryz.ntmps140;go_wp2_with fail;rw [<- hW0];clear hW0;go_wp2_with fail;refine HAN.out.mono ?_;rintro e W1 ⟨rfl,hb1⟩;have HD1:=zH (HD0.out.below hb1);have HB1:=zH (HB0.out.trans (hb1.mono HB0.out.size));clear hb1 c0 c1 c2 c3 c4 c5 HAN;cases r with
 | false=>
  go_wp2_with fail;go_ret;have e:=hD'.out;rw [Ww (by decide)] at e;exact ⟨a,rfl,e ▸ HD1.out,Chg.of_below HB1.out⟩
 | true=>
  have e:=hD'.out;rw [WA rfl] at e;have HDD:=zH e;clear e hD';obtain ⟨-,-,-,-,c4,-,-,-,-,-⟩:=HD1.out.cells;obtain ⟨k0,k1,k2,f0,f1,f2⟩:=Zg HD1.out.row rfl hkF;have hki:(k:Int) < (a.Fm.length:Int):=by omega
  have HRX:=zH (HD1.out.ref _ (gM hkF));have erf:a.Fm[k].ref = f.ref:=by have:=EFM.out;rw [<- this];rfl
  have evl:a.Fm[k].val = f.val:=by have:=EFM.out;rw [<- this];rfl
  have ERF:=zH erf;have EVL:=zH evl;have hrl9:a.Fm[k].ref.length <= 1000000:=by rw [erf];exact HRL.out
  clear erf evl;obtain ⟨X,hX⟩:∃ X,X = a.Fm[k]:=⟨_,rfl⟩;rw [<- hX] at k0 k1 k2 hrl9;have HX:=zH hX;have HRXX:Hid (W1.ownsRow bs 9 1 (.slice X.A X.ref.length X.c) X.ref.length (sbs X.ref)):=zH (by rw [HX.out];exact HRX.out);clear hX;cases hc:decide (X.val ∈ X.ref) with
  | true=>
   have HC:=zH hc;have HQ:=zH (fun m=>(Xh X.A X.c X.ref X.val (W1.drewN m) ((Lies.of_own HRXX.out).drewN m) (by omega) true HC).mono (fun (_:Ending) (w':World) ⟨h1,h2⟩=>⟨h1,⟨0,h2.symm⟩⟩:∀ e w',_ -> e = Ending.returned (.bool true) /\ ∃ k,w' = (W1.drewN m).drewN k));clear hc;go_wp2_with fail;go_quiet ((go_at_call 173;exact WeD (HQ.out _)));go_wp2_with fail;go_ret;obtain ⟨h1,h2⟩:=(HD1.out.below ((Wp _ W1).drw nq)).two hkF 1 ⟨#[]⟩;have e9:noR f = { a.Fm[k].pure with st:=1,val:=⟨#[]⟩ }:=by
    have h3:=WaB HC.out;rw [HX.out,EVL.out,ERF.out] at h3;unfold noR;rw [WA h3,<- ERF.out];rfl
   have e8:=HDD.out;rw [e9] at e8;subst e8;exact ⟨_,rfl,h1,((Chg.of_below HB1.out).trans (Chg.of_below ((Wp _ W1).drw nq))).trans h2⟩
  | false=>
   have HC:=zH hc;have HQ:=zH (fun m=>(Xh X.A X.c X.ref X.val (W1.drewN m) ((Lies.of_own HRXX.out).drewN m) (by omega) false HC).mono (fun (_:Ending) (w':World) ⟨h1,h2⟩=>⟨h1,⟨0,h2.symm⟩⟩:∀ e w',_ -> e = Ending.returned (.bool false) /\ ∃ k,w' = (W1.drewN m).drewN k));clear hc;go_wp2_with fail;go_quiet ((go_at_call 173;exact WeD (HQ.out _)));have HDV:=zH (HD1.out.below ((Wp _ W1).drw nq));have HBV:=zH (HB1.out.drw nq);have HRV:Hid ((W1.drewN nq).ownsRow bs 9 1 (.slice X.A X.ref.length X.c) X.ref.length (sbs X.ref)):=zH (Jh HRXX.out ((Wp _ W1).drw nq));have k1':(W1.drewN nq).cell? ⟨a.gF,k * 3 + 1,none⟩ = some (.string X.val):=k1;have k2':(W1.drewN nq).cell? ⟨a.gF,k * 3 + 2,none⟩ = some (.slice X.A X.ref.length X.c):=k2;clear k0 k1 k2 f0 f1 f2 c4 HQ HRXX HRX;generalize W1.drewN nq = V at *
   go_upto_region 6 with fail;refine J4 (S:=fun w'=>w'.cell? ⟨a.gF,k * 3 + 1,none⟩ = some (.string X.val) /\ w'.cell? ⟨a.gF,k * 3 + 2,none⟩ = some (.slice X.A X.ref.length X.c)) 13 (by kernel_rfl) (by kernel_rfl) ⟨k1',k2'⟩ (fun hHeld=>?_);simp only [List.pop_toArray,List.dropLast_cons_cons,List.dropLast_singleton];iterate 9 (((refine Ja (v:=?_) rfl (by kernel_rfl) (fun _ _ _ h=>h) ⟨by rfl,?_⟩ hHeld ?_;rotate_left;· intro w' sw;obtain ⟨hS1,hS2⟩:=sw;go_simp;try with_reducible rfl);simp only [zA,zB,zC]))
   refine Je 9 rfl (by kernel_rfl) rfl (fun K hK=>?_);go_simp;have hgV:a.gF < V.heap.size:=Wk HDV.out.lt.2.1 HDV.out.lt.2.2;refine hK.out _ _ ⟨(Ws (a:=⟨a.gF,k * 3 + 1,none⟩) (w:=V) (WaZ V _ a.gF hgV)).trans hHeld.1,(Ws (a:=⟨a.gF,k * 3 + 2,none⟩) (w:=V) (WaZ V _ a.gF hgV)).trans hHeld.2⟩ (fun hHeld=>?_);clear hK K;refine Je 10 rfl (by kernel_rfl) rfl (fun K hK=>?_);refine Zn _ 42 rfl (.tmp 36) (.tmp 41) 74 rfl bs 9 i0 _ 1 16 Tryz.underlying74 HI.out HZ0.out HZ1.out HZ2.out rfl (by omega) (.slice X.A X.ref.length X.c) X.ref.length (sbs X.ref) rfl ((HRV.out.drew).alloc _)
    ⟨V.heap.size,0,none⟩ 1 1 [.string X.val] rfl rfl (World.news_of_block (cs:=#[.string X.val]) (t:=9) (fr:=(0,0)) (Wg V _)) (by simp [Value.oneCell']) (by omega) (by unfold maxLen;omega) (by omega) (by simp;have:=HDV.out.lt.2.2;omega) (V.heap.size + 1) (by simp) ?_
   intro gg cap' w1 hown1 hgrow1 hat1 hlt1;have hU:(V.alloc (.cells #[.string X.val] 9)).heap.size = V.heap.size + 1:=(by simp);have hbX:blk a.Fm[k].A = blk X.A:=(by rw [HX.out]);rw [Jm] at hgrow1 hat1;have hgr:V.grownBy w1 (blk a.Fm[k].A):=by
    rw [hbX];exact ⟨hgrow1.os,hgrow1.tape,hgrow1.output,tR (by show V.heap.size <= (V.alloc (.cells #[.string X.val] 9)).heap.size;simp) hgrow1.size,fun b h1 h2=>(hgrow1.block b (Nat.lt_trans h1 (by show V.heap.size < (V.alloc (.cells #[.string X.val] 9)).heap.size;simp)) h2).trans (WaZ V _ b h1)⟩
   have hBF:BT V a.gF 76:=BT.of_own HDV.out.row rfl;have hneF:some a.gF ≠ blk a.Fm[k].A:=fun e=>(BT.of_own HRV.out (by rw [Jm,<- hbX];exact e.symm)).ne hBF (by decide) rfl;have hbF1:w1.heap[a.gF]? = V.heap[a.gF]?:=hgr.block a.gF hgV hneF;obtain ⟨-,-,-,f0,f1,f2⟩:=Zg HDV.out.row rfl hkF;have f2':w1.frozen? ⟨a.gF,k * 3 + 2,none⟩ = false:=(WbY (a:=⟨a.gF,k * 3 + 2,none⟩) hbF1).trans f2;have hA9:∀ b,blk (some ⟨gg,0,none⟩) = some b -> blk a.Fm[k].A = some b ∨ V.heap.size <= b:=fun b hb=>by
    injection hb with hb
    subst hb;rw [hbX];rcases hat1 with e | e
    ·exact .inl e
    ·exact .inr (by show V.heap.size <= gg;omega)
   obtain ⟨hd2,hc2⟩:=HDV.out.refs hkF (n:=X.ref.length + 1) (A:=some ⟨gg,0,none⟩) (c:=cap') (l:=X.ref ++ [X.val]) (by simp) (by have:=hown1;rwa [show sbs X.ref ++ [Value.string X.val] = sbs (X.ref ++ [X.val]) by simp [sbs]] at this) hgr hA9;obtain ⟨Y,hY⟩:∃ Y:FlM,Y = { a.Fm[k] with A:=some ⟨gg,0,none⟩,c:=cap',ref:=X.ref ++ [X.val] }:=⟨_,rfl⟩;rw [<- hY] at hd2 hc2;have ep:({ a.Fm[k].pure with ref:=X.ref ++ [X.val] }:PFl) = Y.pure:=(by rw [hY];rfl);rw [ep] at hd2;have HY:=zH hY;clear hY ep;have HD2:=zH hd2;have HC2:=zH hc2;have HF2:=zH f2';refine hK.out _ _ ⟨(Ws (a:=⟨a.gF,k * 3 + 1,none⟩) hbF1).trans k1',(Ws (a:=⟨a.gF,k * 3 + 2,none⟩) hbF1).trans k2'⟩ (fun hHeld=>?_);clear hK K hgrow1 hat1 hown1 hgr hBF hneF hbF1 f0 f1 f2 hA9 hd2 hc2 k1' k2';simp only [zA,zB,zC];iterate 2 (((refine Ja (v:=?_) rfl (by kernel_rfl) (fun _ _ _ h=>h) ⟨by rfl,?_⟩ hHeld ?_;rotate_left;· intro w' sw;obtain ⟨hS1,hS2⟩:=sw;go_simp;try with_reducible rfl);simp only [zA,zB,zC]))
   refine WC (by kernel_rfl) ?_ _;refine PopQ.last rfl rfl (fun K hK=>?_);have hc0:=hHeld.2;have f2:=HF2.out;go_simp;refine hK _ _ ?_;clear hK K f2 hc0;generalize w1.setCell ⟨a.gF,k * 3 + 2,none⟩ (.slice (some ⟨gg,0,none⟩) (X.ref.length + 1) cap') = W2 at *
   have hk2:k < (a.put k Y).Fm.length:=(by rw [DlA.put_len];exact hkF);obtain ⟨k0,k1,-,f0,f1,-⟩:=Zg HD2.out.row rfl hk2;rw [DlA.put_at hk2] at k0 k1;have k0':W2.cell? ⟨a.gF,k * 3,none⟩ = some (.int .i64 Y.st):=k0;have k1':W2.cell? ⟨a.gF,k * 3 + 1,none⟩ = some (.string Y.val):=k1;have f0':W2.frozen? ⟨a.gF,k * 3,none⟩ = false:=f0;have f1':W2.frozen? ⟨a.gF,k * 3 + 1,none⟩ = false:=f1;clear k0 k1 f0 f1;go_wp2_with fail;go_ret;obtain ⟨h1,h2⟩:=HD2.out.two hk2 1 ⟨#[]⟩;have h5:=((Chg.of_below (a:=a) HBV.out).trans HC2.out).trans h2;rw [DlA.put_at hk2] at h1 h5;rw [DlA.put_put,PDl.put_put] at h1;rw [DlA.put_put] at h5;have e9:noR f = { Y.pure with st:=1,val:=⟨#[]⟩ }:=by
    have h3:=Wa7 HC.out;rw [HX.out,EVL.out,ERF.out] at h3;unfold noR;rw [Ww h3,HY.out,HX.out,<- ERF.out,<- EVL.out];rfl
   have e8:=HDD.out;rw [e9] at e8;subst e8;exact ⟨_,rfl,h1,h5⟩
theorem VZ {x y:BA} (h:¬ x = y):(ByteArray.toList x == ByteArray.toList y) = false:=by
 rw [Wz,Wa2,Wa2];exact fun e=>h (by cases x;cases y;simpa using e)
theorem QM (x y:BA) (eb:Nat) (r:Bool) (hr:decide (y = x) = r) (w:World) (h:w.cell? ⟨eb,1,none⟩ = some (.string x)) :
  Calls Tryz.prog 177 #[.string y,.pointer (some ⟨eb,0,none⟩)] w fun e w'=>e = .returned (.bool r) /\ w = w':=by
 cases r with
 | true=>
  have e:=WaB hr;subst e;clear hr;go_enter Tryz.func177,Tryz.ntmps177;go_wp2_with fail;go_ret;exact ⟨rfl,rfl⟩
 | false=>
  have e:=VZ (Wa7 hr);clear hr;go_enter Tryz.func177,Tryz.ntmps177;go_wp2_with fail;go_ret;exact ⟨rfl,rfl⟩
theorem ZaK {w:World} {b o:Nat} {v:Value} (h:w.cell? ⟨b,o,none⟩ = some v):b < w.heap.size:=by
 rcases WaS b w.heap.size with h' | h'
 ·exact h'
 ·simp [World.cell?,Array.getElem?_eq_none h'] at h
def Zi2 (x:BA) (l:List BA) (w:World) (e:Ending) (w':World):Prop:=∃ r:Int,e = .returned (.int .i64 r) /\ w = w' /\ ((x ∉ l /\ r = -1) ∨ ∃ k:Nat,k < l.length /\ r = k /\ l[k]? = some x /\ x ∉ l.take k)
theorem ZaN (A:Option Addr) (c:Nat) (l:List BA) (x:BA) (eb:Nat) (w:World) (h:Lies w A (sbs l)) (hn:l.length <= 1000000) (hx:w.cell? ⟨eb,1,none⟩ = some (.string x)) :
  Calls Tryz.prog 198 #[.slice A l.length c,.func (.func 177) #[] #[.pointer (some ⟨eb,0,none⟩)]] w (Zi2 x l w):=by
 have heg:=WcL Tryz.func177 (by kernel_rfl) rfl;have HP2:=zH (fun (y:BA) (r:Bool) (hr:decide (y = x) = r)=>QM x y eb r hr w hx);clear hx;go_enter Tryz.func198,Tryz.ntmps198;go_wp2;go_loop [5,8] (fun _ i=>∃ k:Nat,k <= l.length /\ i = .int .i64 k /\ x ∉ l.take k) (fun _ i=>l.length - (intOf i).toNat)
 case atStart=>exact ⟨0,WaU _,rfl,by simp⟩
 case round=>
  obtain ⟨k,hk,rfl,hp'⟩:=hrel;have HP:=zH hp';clear hp';by_cases hlt:k < l.length
  ·obtain ⟨bk,off,rfl,hb,hc⟩:=h
    (by simpa using Wa9 (WaU k) hlt)
   have hc0:=hc k (.string l[k]) (by simp [gE hlt]);clear hc;cases hx:decide (l[k] = x) with
   | true=>
    have HX:=zH hx;clear hx;go_wp2_with fail;refine (HP2.out _ _ HX.out).mono ?_;rintro e w' ⟨rfl,rfl⟩;go_wp2_with fail;go_ret;exact ⟨k,rfl,rfl,.inr ⟨k,hlt,rfl,by rw [gE hlt,WaB HX.out],HP.out⟩⟩
   | false=>
    have HX:=zH hx;clear hx;go_wp2_with fail;refine (HP2.out _ _ HX.out).mono ?_;rintro e w' ⟨rfl,rfl⟩;go_wp2_with fail;exact ⟨⟨k + 1,by omega,by go_num,Zaq hlt HP.out (fun e=>Wa7 HX.out e.symm)⟩,by simp [intOf];omega⟩
  ·go_wp2;go_ret;exact ⟨-1,rfl,rfl,.inl ⟨by have hh:=HP.out;rwa [Wm (by omega)] at hh,rfl⟩⟩
def _root_.Ear.wo (x:BA) (l:List BA):List BA:=l.filter fun y=>decide (¬ y = x)
theorem Zib {x:BA} {l:List BA} (h:x ∉ l):wo x l = l:=List.filter_eq_self.2 fun _ hy=>Wi fun e=>h (e ▸ hy)
theorem UH (x y:BA) (l:List BA):wo x (l ++ [y]) = wo x l ++ if y = x then [] else [y]:=by
 unfold wo;rw [List.filter_append];congr 1;by_cases h:y = x
 ·simp [h]
 ·simp [h]
theorem ZB (a b:List BA):sbs (a ++ b) = sbs a ++ sbs b:=by simp [sbs]
theorem Zhl (O:List BA) (m y:BA) (R:List BA):(sbs (O ++ m :: R)).set O.length (.string y) = sbs (O ++ y :: R):=by
 rw [ZB,ZB,WaJ _ _ (by simp),show O.length - (sbs O).length = 0 by simp];rfl
theorem VQ (base c:Nat) (A:Option Addr) (l:List BA) (x:BA) (eb:Nat) (w:World) (h:w.ownsRow base 9 1 (.slice A l.length c) l.length (sbs l)) (hn:l.length <= 1000000) (hx:w.cell? ⟨eb,1,none⟩ = some (.string x)) (hne:blk A ≠ some eb) :
  Calls Tryz.prog 176 #[.slice A l.length c,.func (.func 177) #[] #[.pointer (some ⟨eb,0,none⟩)]] w fun e w'=>e = .returned (.slice A (wo x l).length c) /\ w'.ownsRow base 9 1 (.slice A (wo x l).length c) (wo x l).length (sbs (wo x l)) /\ w.grownBy w' (blk A):=by
 have heg:=WcL Tryz.func177 (by kernel_rfl) rfl;have HI:=zH (ZaN A c l x eb w (Lies.of_own h) hn hx);by_cases hm:x ∈ l
 ·have hl0 : 0 < l.length:=List.length_pos_of_mem hm;obtain ⟨g,cap0,hA⟩:∃ g cap,Value.slice A l.length c = .slice (some ⟨g,0,none⟩) l.length cap:=by
   rcases h.2 with ⟨h1,h2⟩ | ⟨g,cap,cur,h1,_⟩
   ·injection h1 with e1 e2 e3
    omega
   ·exact ⟨g,cap,h1⟩
  injection hA with e1 e2 e3
  subst e1;clear e3 cap0 e2;have hcap:l.length <= c /\ c <= maxLen:=by
   rcases h.2 with ⟨h',_⟩ | ⟨_,_,_,h',_,_,h3,h4,_⟩
   ·cases h'
   ·injection h' with e1 e2 e3
    subst e3;exact ⟨h3,h4⟩
  unfold maxLen at hcap;have HM:=zH hm;have HH:=zH h;have HX:=zH hx;have HP2:=zH (fun (W:World) (hW:W.cell? ⟨eb,1,none⟩ = some (.string x)) (y:BA) (r:Bool) (hr:decide (y = x) = r)=>QM x y eb r hr W hW);have hge:g ≠ eb:=fun e=>hne (by rw [e];rfl);clear hm h hx hne;go_enter Tryz.func176,Tryz.ntmps176;go_wp2_with fail;refine HI.out.mono ?_;rintro e w' ⟨r,rfl,rfl,hr⟩;obtain ⟨k,hk,rfl,hkx,hkn⟩:∃ k:Nat,k < l.length /\ r = k /\ l[k]? = some x /\ x ∉ l.take k:=by
   rcases hr with ⟨h1,_⟩ | h1
   ·exact absurd HM.out h1
   ·exact h1
  clear hr;have hk1:((k:Int) == -1) = false:=by rw [Wz];omega
  have HKX:=zH hkx;have HKN:=zH hkn;clear hkx hkn;go_wp2_with fail;go_loopw [5,6,7] (fun i j _ wr=>∃ (O M:List BA) (j0:Nat),i = .int .i64 O.length /\ j = .int .i64 j0 /\ j0 <= l.length /\ 0 < M.length /\ O.length + M.length = j0 /\ Hid (O = wo x (l.take j0)) /\ Hid (wr.ownsRow base 9 1 (.slice (some ⟨g,0,none⟩) l.length c) l.length (sbs (O ++ M ++ l.drop j0))) /\ Hid (w.grownBy wr (some g))) (fun _ j _ _=>l.length - (intOf j).toNat)
  case atStart=>
   refine ⟨l.take k,[x],k + 1,by go_num,by go_num,by omega,by simp,by simp;omega,zH ?_,zH ?_,zH ⟨rfl,rfl,rfl,WK _,fun _ _ _=>rfl⟩⟩
   ·rw [List.take_add_one,HKX.out];show _ = wo x (l.take k ++ [x]);rw [UH,WA rfl,Wa1,Zib HKN.out]
   ·have e:l.take k ++ [x] ++ l.drop (k + 1) = l:=by
     have h1:=WaE k l;rw [Wv hk] at h1;have h2:=HKX.out;rw [gE hk] at h2;injection h2 with h2
     rw [h2] at h1;simpa using h1
    rw [e];exact HH.out
  case round=>
   obtain ⟨O,M,j0,rfl,rfl,hj,hM,hOM,HO,HR,HG⟩:=hrel;by_cases hlt:j0 < l.length
   ·have hjI:(j0:Int) < (l.length:Int):=(by omega);have hcj:wr.cell? ⟨g,j0,none⟩ = some (.string l[j0]):=by
     rw [HR.out.cellAt j0 (by omega),ZB,WaL (by simp;omega),Wv hlt];simp [hOM]
    have hxe:wr.cell? ⟨eb,1,none⟩ = some (.string x):=(Ws (a:=⟨eb,1,none⟩) (HG.out.block eb ((by have:=HX.out;exact ZaK this)) (by intro e;injection e with e;exact hge e.symm))).trans HX.out;have htk:l.take (j0 + 1) = l.take j0 ++ [l[j0]]:=Wo hlt;have HTK:=zH htk;have hdr:l.drop j0 = l[j0] :: l.drop (j0 + 1):=Wv hlt;have HDR:=zH hdr;clear htk hdr;cases hq:decide (l[j0] = x) with
    | true=>
     have HQ:=zH hq;clear hq;go_wp2_with fail;refine (HP2.out _ hxe _ _ HQ.out).mono ?_;rintro e w' ⟨rfl,rfl⟩;go_wp2_with fail;refine ⟨⟨O,M ++ [l[j0]],j0 + 1,rfl,by go_num,by omega,by simp,by simp;omega,zH ?_,zH ?_,HG⟩,by simp [intOf];omega⟩
     ·rw [HTK.out,UH,WA (WaB HQ.out),Wa1];exact HO.out
     ·have:=HR.out;rw [HDR.out] at this;simpa using this
    | false=>
     have HQ:=zH hq;clear hq;obtain ⟨m,M',rfl⟩:∃ m M',M = m :: M':=by
      cases M with
      | nil=>simp at hM
      | cons m M'=>exact ⟨m,M',rfl⟩
     have hOI:(O.length:Int) < (l.length:Int):=(by simp at hOM;omega);have hco:wr.cell? ⟨g,O.length,none⟩ = some (.string m):=by
      rw [HR.out.cellAt O.length (by simp at hOM;omega)];simp
     have hfo:wr.frozen? ⟨g,O.length,none⟩ = false:=HR.out.frozenAt _;go_wp2_with fail;refine (HP2.out _ hxe _ _ HQ.out).mono ?_;rintro e w' ⟨rfl,rfl⟩;go_wp2_with fail;have hst:=HR.out.stored O.length (.string l[j0]);refine ⟨⟨O ++ [l[j0]],M' ++ [l[j0]],j0 + 1,by simp,by go_num,by omega,by simp,by simp at hOM ⊢;omega,zH ?_,zH ?_,zH ⟨hst.2.os.trans HG.out.os,hst.2.tape.trans HG.out.tape,hst.2.output.trans HG.out.output,tR HG.out.size hst.2.size,fun b h1 h2=>(hst.2.block b (Wk h1 HG.out.size) h2).trans (HG.out.block b h1 h2)⟩⟩,by simp [intOf];omega⟩
     ·rw [HTK.out,UH,Ww (Wa7 HQ.out),<- HO.out]
     ·have h1:=hst.1;rw [Wa6,WeO,Zhl,HDR.out] at h1;simpa using h1
   ·have hjl:j0 = l.length:=(by omega);subst hjl;have hjI:¬ (l.length:Int) < (l.length:Int):=(by omega);have hr0:=HR.out;rw [WcD nR,Wa1] at hr0;have HR0:=zH hr0;obtain ⟨W2,hW2⟩:∃ W2,W2 = wr.setCells g O.length (List.replicate (l.length - O.length) (.string ByteArray.empty)):=⟨_,rfl⟩;have hcl:∀ ty,(Builtin.clear_ #[74] ty #[.slice (some ⟨g,O.length,none⟩) (l.length - O.length) (c - O.length)]).run Tryz.prog wr = .ok (.tuple #[]) W2:=fun ty=>by
     rw [hW2];refine Lib.run_clear_slice wr 74 9 ty (.string ByteArray.empty) Tryz.underlying74 (fun w=>by kernel_rfl) rfl rfl g O.length (l.length - O.length) _ (by omega) (fun j hj=>?_) (fun j _=>HR0.out.frozenAt _);have hlt9:O.length + j < (sbs (O ++ M)).length:=(by simp;omega);rw [HR0.out.cellAt (O.length + j) (by omega),gE hlt9];rfl
    have h2:=J8 (List.replicate (l.length - O.length) (.string ByteArray.empty)) O.length _ _ hr0;rw [<- hW2,UO _ _ _ (by simp;omega)] at h2;have H2:=zH h2;have hol:O.length <= c:=(by omega);have hne9:¬ c = O.length:=(by omega);clear h2 hW2 hr0;go_wp2_with fail;go_ret;have hO:=HO.out;rw [Wm nR] at hO;rw [<- hO];refine ⟨rfl,?_,⟨H2.out.2.os.trans HG.out.os,H2.out.2.tape.trans HG.out.tape,H2.out.2.output.trans HG.out.output,tR HG.out.size H2.out.2.size,fun b h1 h2=>(H2.out.2.block b (Wk h1 HG.out.size) h2).trans (HG.out.block b h1 h2)⟩⟩;have h2:=H2.out.1;rw [ZB,List.take_left' (by simp),Wa6] at h2;exact Vo h2 (by simp) (by omega)
 ·have hno:=Zib hm;have HN:=zH hno;have HH:=zH h;have HM:=zH hm;clear h hno hm hx hne;go_enter Tryz.func176,Tryz.ntmps176;go_wp2_with fail;refine HI.out.mono ?_;rintro e w' ⟨r,rfl,rfl,hr⟩;obtain rfl:r = -1:=by
   rcases hr with ⟨_,h1⟩ | ⟨k,h1,h2,h3,h4⟩
   ·exact h1
   ·exact absurd (WO h3) HM.out
  clear hr;go_wp2_with fail;go_ret;rw [HN.out];exact ⟨rfl,HH.out,rfl,rfl,rfl,WK _,fun _ _ _=>rfl⟩
end Go.Proofs.YtcjicjfbippmnaaGreat
namespace Ear
def Zi (S:List PSl) (x:BA):Nat:=S.findIdx fun s=>decide (x ∈ s.vs)
def ZbR (S:List PSl) (x:BA):Int:=if Zi S x < S.length then (Zi S x:Int) else -1
theorem Zd3 {S:List PSl} {x:BA} {k:Nat} (hk:k < S.length) (h:x ∈ S[k].vs) (h2:∀ (j:Nat) (hj:j < S.length),j < k -> x ∉ S[j].vs):ZbR S x = k:=by
 have e:Zi S x = k:=by
  unfold Zi;rw [List.findIdx_eq hk];exact ⟨by simpa using h,fun j hj=>by simpa using h2 j (by omega) hj⟩
 unfold ZbR;rw [e,WA hk]
theorem Za6 {S:List PSl} {x:BA} (h2:∀ (j:Nat) (hj:j < S.length),x ∉ S[j].vs):ZbR S x = -1:=by
 have e:Zi S x = S.length:=by
  unfold Zi;refine WfJ fun y hy=>?_;obtain ⟨j,hj,rfl⟩:=Wb0 hy;simpa using h2 j hj
 unfold ZbR;rw [e,Ww (by omega)]
end Ear
namespace Go.Proofs.YtcjicjfbippmnaaGreat
open Go.RowKit Ear

theorem Zdb (s:SlM) (x:BA) (eb:Nat) (w:World) (h:Lies w s.A (sbs s.vs)) (hn:s.vs.length <= 1000000) (hx:w.cell? ⟨eb,1,none⟩ = some (.string x)) (r:Bool) (hr:Hid (decide (x ∈ s.vs) = r)) :
  Calls Tryz.prog 175 #[.agg #[.string s.nm,.slice s.A s.vs.length s.c,.bool s.L.neg,.slice s.L.A s.L.N.length s.L.c,.slice s.L.B s.L.D.length s.L.d,.bool s.S.neg,.slice s.S.A s.S.N.length s.S.c,.slice s.S.B s.S.D.length s.S.d],.pointer (some ⟨eb,0,none⟩)] w fun e w'=>e = .returned (.bool r) /\ Below w.heap.size w w':=by
 obtain ⟨W0,hW0⟩:∃ W0:World,W0 = w.alloc (.cells #[.string s.nm,.slice s.A s.vs.length s.c,.bool s.L.neg,.slice s.L.A s.L.N.length s.L.c,.slice s.L.B s.L.D.length s.L.d,.bool s.S.neg,.slice s.S.A s.S.N.length s.S.c,.slice s.S.B s.S.D.length s.S.d] 79):=⟨_,rfl⟩;have HB0:Hid (Below w.heap.size w W0):=zH (by rw [hW0];exact bR.alloc nR _);have HX0:Hid (W0.heap[w.heap.size]? = some (.cells #[.string s.nm,.slice s.A s.vs.length s.c,.bool s.L.neg,.slice s.L.A s.L.N.length s.L.c,.slice s.L.B s.L.D.length s.L.d,.bool s.S.neg,.slice s.S.A s.S.N.length s.S.c,.slice s.S.B s.S.D.length s.S.d] 79 (0,0))):=zH (by rw [hW0];exact Wg w _);have c1:W0.cell? ⟨w.heap.size,1,none⟩ = some (.slice s.A s.vs.length s.c):=(cR 1 HX0.out).trans rfl;have hx0:W0.cell? ⟨eb,1,none⟩ = some (.string x):=(HB0.out.cell (p:=⟨eb,1,none⟩) (ZaK hx)).trans hx;have hxa:=hx0;rw [hW0] at hxa;have HC:=zH (Xh s.A s.c s.vs x W0 (h.below HB0.out) (by omega) r hr);clear h hx hr;go_enter Tryz.func175,Tryz.ntmps175;go_wp2_with fail;rw [<- hW0];clear hW0 hxa;refine HC.out.mono ?_;rintro e w' ⟨rfl,rfl⟩;go_wp2_with fail;go_ret;exact ⟨rfl,HB0.out⟩
theorem Qq (A:Option Addr) (pc:Nat) (Ss:List SlM) (Ps:List PSl) (x:BA) (eb:Nat) (w:World) (h:PlM w A Ss Ps) (hn:Ss.length <= 1000000) (hv:∀ p ∈ Ps,p.vs.length <= 1000000) (hx:w.cell? ⟨eb,1,none⟩ = some (.string x)) (r:Int) (hr:Hid (ZbR Ps x = r)) :
  Calls Tryz.prog 174 #[.slice A Ss.length pc,.func (.func 175) #[] #[.pointer (some ⟨eb,0,none⟩)]] w fun e w'=>e = .returned (.int .i64 r) /\ Below w.heap.size w w':=by
 have heg:=WcL Tryz.func175 (by kernel_rfl) rfl;have HO:=zH h;have HX:=zH hx;clear h hx;go_enter Tryz.func174,Tryz.ntmps174;go_wp2_with fail;go_loopw [5,8] (fun _ i wr=>∃ k:Nat,k <= Ss.length /\ i = .int .i64 k /\ Hid (∀ (j:Nat) (hj:j < Ps.length),j < k -> x ∉ Ps[j].vs) /\ Hid (Below w.heap.size w wr)) (fun _ i _=>Ss.length - (intOf i).toNat)
 case atStart=>exact ⟨0,WaU _,rfl,zH (fun j _ h=>by omega),zH bR⟩
 case round=>
  obtain ⟨k,hk,rfl,HN,HB⟩:=hrel;by_cases hlt:k < Ss.length
  ·have hltP:k < Ps.length:=by rw [<- HO.out.len];exact hlt
   obtain ⟨gb,go,eA,hgb,hcell⟩:=(HO.out.below HB.out).at_ hlt;have hok:=(HO.out.below HB.out).ok k _ _ (gE hlt) (gE hltP);have HL:=zH hok.lies;have HVS:Hid (Ss[k].vs = Ps[k].vs):=zH hok.vs;have hvl:Ss[k].vs.length <= 1000000:=(by rw [hok.vs];exact hv _ (gM hltP));have hxr:wr.cell? ⟨eb,1,none⟩ = some (.string x):=(HB.out.cell (p:=⟨eb,1,none⟩) (ZaK HX.out)).trans HX.out;have HXR:=zH hxr;clear hok hxr;subst eA;generalize Ss[k] = s at *
   have c0:wr.cell? ⟨gb,go + k * 8,none⟩ = some (.string s.nm):=hcell 0 _ rfl;have c1:=hcell 1 _ rfl;have c2:=hcell 2 _ rfl;have c3:=hcell 3 _ rfl;have c4:=hcell 4 _ rfl;have c5:=hcell 5 _ rfl;have c6:=hcell 6 _ rfl;have c7:=hcell 7 _ rfl;clear hcell;obtain ⟨b,hb⟩:∃ b,decide (x ∈ s.vs) = b:=⟨_,rfl⟩;have HBB:=zH hb;clear hb;go_wp2_with fail;refine (Zdb s x eb wr HL.out hvl HXR.out b HBB).mono ?_;rintro e w1 ⟨rfl,hb1⟩;have HB1:=zH (HB.out.trans (hb1.mono HB.out.size));clear hb1 c0 c1 c2 c3 c4 c5 c6 c7;cases b with
   | true=>
    have hin:=WaB HBB.out;rw [HVS.out] at hin;have HR:Hid (r = (k:Int)):=zH (hr.out.symm.trans (Zd3 hltP hin (fun j hj hjk=>HN.out j hj hjk)));clear hin;go_wp2_with fail;go_ret;exact ⟨by rw [HR.out];rfl,HB1.out⟩
   | false=>
    have hin:=Wa7 HBB.out;rw [HVS.out] at hin;have HN1:Hid (∀ (j:Nat) (hj:j < Ps.length),j < k + 1 -> x ∉ Ps[j].vs):=zH (fun j hj hjk=>by
     by_cases e:j = k
     ·subst e;exact hin
     ·exact HN.out j hj (by omega))
    clear hin;go_wp2_with fail;exact ⟨⟨k + 1,by omega,by go_num,HN1,HB1⟩,by simp [intOf];omega⟩
  ·have HR:Hid (r = -1):=zH (by
    rw [<- hr.out];exact Za6 (fun j hj=>HN.out j hj (by have:=HO.out.len;omega)))
   have hlt':¬ (k:Int) < (Ss.length:Int):=(by omega);go_wp2_with fail;go_ret;exact ⟨by rw [HR.out];rfl,HB.out⟩
end Go.Proofs.YtcjicjfbippmnaaGreat
