/- TopLearned -/
import Derived.Test.YtlgdlenoohkipaaGreatMTearn51
set_option maxRecDepth 100000
set_option maxHeartbeats 32000000
namespace Go.Proofs.YtlgdlenoohkipaaGreat
open Go.RowKit Go.WideShapes Ear

section
variable {H:Type} {enc:TypeId × Value -> H} {P:Program} {w:World} {t e eg:TypeId} {cs:List Value} {v:Value} {d:DataW H} {p:List MemPlace} {r:Reach} {b0:Nat}
theorem Rd.gm {f0 f1:Field} (ht:P.underlying t = some (.struct #[f0,f1])) (hC:P.cellsOf t = 2) (o0:f0.offset = 0) (o1:f1.offset = 1) (u0:P.underlying f0.type = some (.slice e)) (k0:P.cellsOf f0.type = 1) (he:P.underlying e = some (.int .i64)) (ke:P.cellsOf e = 1)
  (u1:P.underlying f1.type = some (.int .i64)) (k1:P.cellsOf f1.type = 1) (h:Rd enc P w t cs) :
  ∃ g:Gm,cs = [Value.slice g.1.1 g.1.2.2.length g.1.2.1,Value.int .i64 g.2] /\ (InOk w g.1 /\ -9223372036854775808 <= g.2 /\ g.2 <= 9223372036854775807):=by
 obtain ⟨hl,hf⟩:=h.struct ht;rw [hC] at hl
 match cs,hl with
 | [a,b],_=>
  have g0:=hf 0 f0 rfl;have g1:=hf 1 f1 rfl;rw [o0,k0] at g0;rw [o1,k1] at g1;obtain ⟨A,c,l,e0,hr⟩:=g0.ints u0 he ke;obtain ⟨n,e1,hn⟩:=g1.int u1;simp at e0 e1;subst e0 e1;exact ⟨((A,c,l),n),rfl,hr,hn⟩
end
end Go.Proofs.YtlgdlenoohkipaaGreat
namespace Go.Proofs.YtlgdlenoohkipaaGreat
open Go.RowKit Go.WideShapes Ear

section
variable {H:Type} {enc:TypeId × Value -> H} {P:Program} {w:World} {t e:TypeId} {cs:List Value} {v:Value} {d:DataW H} {p:List MemPlace} {r:Reach} {b0:Nat}
theorem Rd.dg (ht:P.underlying t = some (.slice e)) (he:P.underlying e = some (.int .u32)) (hc:P.cellsOf e = 1) (h:Rd enc P w t cs) :
  ∃ A c,∃ l:List Int,cs = [.slice A l.length c] /\ Dg w A c l /\ l.length <= 9223372036854775807:=by
 obtain ⟨A,c,l,h1,h2,h3,h4,h5,h6⟩:=h.slice ht hc (fun n=>[Value.int .u32 n]) (fun n=>0 <= n /\ n <= 4294967295) (fun cs hcs=>hcs.int he);rw [ZgM] at h2;exact ⟨A,c,l,h1,⟨h2,h6,h5,fun hA=>(h3 hA).1⟩,h4⟩
end
end Go.Proofs.YtlgdlenoohkipaaGreat
namespace Go.Proofs.YtlgdlenoohkipaaGreat
open Go.RowKit Go.WideShapes Ear

structure FcTy (P:Program) (t tb ts tu:TypeId):Prop where
 u:∃ f0 f1 f2:Field,P.underlying t = some (.struct #[f0,f1,f2]) /\ f0.offset = 0 /\ f1.offset = 1 /\ f2.offset = 2 /\ f0.type = tb /\ f1.type = ts /\ f2.type = ts
 c:P.cellsOf t = 3
 ub:P.underlying tb = some .bool
 cb:P.cellsOf tb = 1
 us:P.underlying ts = some (.slice tu)
 cs:P.cellsOf ts = 1
 uu:P.underlying tu = some (.int .u32)
 cu:P.cellsOf tu = 1
structure ArTy (P:Program) (t ti tf tb ts tu:TypeId):Prop where
 u:∃ f0 f1 f2 f3 f4:Field,P.underlying t = some (.struct #[f0,f1,f2,f3,f4]) /\ f0.offset = 0 /\ f1.offset = 1 /\ f2.offset = 2 /\ f3.offset = 3 /\ f4.offset = 4 /\ f0.type = ti /\ f1.type = ti /\ f2.type = ti /\ f3.type = ti /\ f4.type = tf
 c:P.cellsOf t = 7
 ui:P.underlying ti = some (.int .i64)
 ci:P.cellsOf ti = 1
 f:FcTy P tf tb ts tu
structure LtTy (P:Program) (t tA ta ti tf tb ts tu:TypeId):Prop where
 u:∃ f0 f1:Field,P.underlying t = some (.struct #[f0,f1]) /\ f0.offset = 0 /\ f1.offset = 1 /\ f0.type = ti /\ f1.type = tA
 c:P.cellsOf t = 2
 uA:P.underlying tA = some (.slice ta)
 cA:P.cellsOf tA = 1
 a:ArTy P ta ti tf tb ts tu
structure TaTy (P:Program) (t tG tg tI ti:TypeId):Prop where
 u:∃ f0 f1 f2:Field,P.underlying t = some (.struct #[f0,f1,f2]) /\ f0.offset = 0 /\ f1.offset = 1 /\ f2.offset = 2 /\ f0.type = ti /\ f1.type = ti /\ f2.type = tG
 c:P.cellsOf t = 3
 uG:P.underlying tG = some (.slice tg)
 cG:P.cellsOf tG = 1
 ug:∃ g0 g1:Field,P.underlying tg = some (.struct #[g0,g1]) /\ g0.offset = 0 /\ g1.offset = 1 /\ g0.type = tI /\ g1.type = ti
 cg:P.cellsOf tg = 2
 uI:P.underlying tI = some (.slice ti)
 cI:P.cellsOf tI = 1
 ui:P.underlying ti = some (.int .i64)
 ci:P.cellsOf ti = 1
structure LgTy (P:Program) (t tt tk tf tF tG tg tI ti tb ts tu:TypeId):Prop where
 u:∃ f0 f1 f2 f3:Field,P.underlying t = some (.struct #[f0,f1,f2,f3]) /\ f0.offset = 0 /\ f1.offset = 3 /\ f2.offset = 4 /\ f3.offset = 7 /\ f0.type = tt /\ f1.type = tk /\ f2.type = tf /\ f3.type = tF
 c:P.cellsOf t = 8
 t:TaTy P tt tG tg tI ti
 uk:P.underlying tk = some (.int .i64)
 ck:P.cellsOf tk = 1
 f:FcTy P tf tb ts tu
 uF:P.underlying tF = some (.slice tf)
 cF:P.cellsOf tF = 1
section
variable {H:Type} {enc:TypeId × Value -> H} {P:Program} {w:World} {t tA ta tt tk tf tF tG tg tI ti tb ts tu:TypeId} {cs:List Value} {v:Value} {d:DataW H} {p:List MemPlace} {r:Reach} {b0:Nat}
theorem Rd.fcT (T:FcTy P t tb ts tu) (h:Rd enc P w t cs):∃ x:Fr,cs = fic x /\ FrOk w x /\ x.N.length <= 9223372036854775807 /\ x.D.length <= 9223372036854775807:=by
 obtain ⟨f0,f1,f2,hu,o0,o1,o2,rfl,rfl,e2⟩:=T.u;obtain ⟨hl,hf⟩:=h.struct hu;rw [T.c] at hl
 match cs,hl with
 | [a,b,c],_=>
  have q0:=hf 0 f0 rfl;have q1:=hf 1 f1 rfl;have q2:=hf 2 f2 rfl;rw [o0,T.cb] at q0;rw [o1,T.cs] at q1;rw [o2,e2,T.cs] at q2;obtain ⟨n,e0⟩:=q0.bool T.ub;obtain ⟨A,cA,N,e1,h1,l1⟩:=q1.dg T.us T.uu T.cu;obtain ⟨B,cB,D,e2,h2,l2⟩:=q2.dg T.us T.uu T.cu;simp at e0 e1 e2;subst e0 e1 e2;exact ⟨⟨n,A,cA,N,B,cB,D⟩,rfl,⟨h1,h2⟩,l1,l2⟩
theorem Rd.arT (T:ArTy P t ti tf tb ts tu) (h:Rd enc P w t cs):∃ a:Ar,cs = arc a /\ ArR w a:=by
 obtain ⟨f0,f1,f2,f3,f4,hu,o0,o1,o2,o3,o4,rfl,e1',e2',e3',rfl⟩:=T.u;obtain ⟨hl,hf⟩:=h.struct hu;rw [T.c] at hl
 match cs,hl with
 | [a,b,c,d,e,f,g],_=>
  have q0:=hf 0 f0 rfl;have q1:=hf 1 f1 rfl;have q2:=hf 2 f2 rfl;have q3:=hf 3 f3 rfl;have q4:=hf 4 f4 rfl;rw [o0,T.ci] at q0;rw [o1,e1',T.ci] at q1;rw [o2,e2',T.ci] at q2;rw [o3,e3',T.ci] at q3;rw [o4,T.f.c] at q4;obtain ⟨n0,e0,g0⟩:=q0.int T.ui;obtain ⟨n1,e1,g1⟩:=q1.int T.ui;obtain ⟨n2,e2,g2⟩:=q2.int T.ui;obtain ⟨n3,e3,g3⟩:=q3.int T.ui;obtain ⟨x,e4,hx,x1,x2⟩:=q4.fcT T.f;simp [fic] at e0 e1 e2 e3 e4;obtain ⟨rfl,rfl,rfl⟩:=e4;subst e0 e1 e2 e3;exact ⟨⟨n0,n1,n2,n3,x⟩,rfl,⟨g0,g1,g2,g3,hx,x1,x2⟩⟩
theorem Rd.taT (T:TaTy P t tG tg tI ti) (h:Rd enc P w t cs):∃ o n A c,∃ L:List Gm,cs = [.int .i64 o,.int .i64 n,.slice A L.length c] /\ (-9223372036854775808 <= o /\ o <= 9223372036854775807) /\ (-9223372036854775808 <= n /\ n <= 9223372036854775807) /\ Tb w A L /\ (A = none -> c = 0 /\ L = []) /\ L.length <= 9223372036854775807:=by
 obtain ⟨f0,f1,f2,hu,o0,o1,o2,rfl,e1',rfl⟩:=T.u;obtain ⟨g0,g1,hg,p0,p1,rfl,e4'⟩:=T.ug;obtain ⟨hl,hf⟩:=h.struct hu;rw [T.c] at hl
 match cs,hl with
 | [a,b,c],_=>
  have q0:=hf 0 f0 rfl;have q1:=hf 1 f1 rfl;have q2:=hf 2 f2 rfl;rw [o0,T.ci] at q0;rw [o1,e1',T.ci] at q1;rw [o2,T.cG] at q2;obtain ⟨o,e0,ho⟩:=q0.int T.ui;obtain ⟨n,e1,hn⟩:=q1.int T.ui;obtain ⟨A,c',L,e2,hL,hA,hm,_,hx⟩:=q2.slice T.uG T.cg (fun g:Gm=>[Value.slice g.1.1 g.1.2.2.length g.1.2.1,Value.int .i64 g.2]) (fun g=>InOk w g.1 /\ -9223372036854775808 <= g.2 /\ g.2 <= 9223372036854775807) (fun cs hcs=>hcs.gm hg T.cg p0 p1 T.uI T.cI T.ui T.ci (by rw [e4'];exact T.ui) (by rw [e4'];exact T.ci));simp at e0 e1 e2;subst e0 e1 e2;exact ⟨o,n,A,c',L,rfl,ho,hn,⟨hL,fun g hg=>(hx g hg).1,fun g hg=>(hx g hg).2⟩,hA,hm⟩
theorem Zh0 (T:LtTy P t tA ta ti tf tb ts tu) (hv:Value.okWide P w r b0 t v) (h:DataW.Trod enc P w 0 (fun _=>true) true t v d p) :
  ∃ F A c,∃ L:List Ar,v = .agg #[.int .i64 F,.slice A L.length c] /\ (-9223372036854775808 <= F /\ F <= 9223372036854775807) /\ ArL w A L /\ (A = none -> c = 0 /\ L = []) /\ L.length <= 9223372036854775807:=by
 obtain ⟨f0,f1,hu,o0,o1,rfl,rfl⟩:=T.u;obtain ⟨cs,rfl,hl,hf⟩:=Za0 hu T.c hv h
 match cs,hl with
 | [a,b],_=>
  have q0:=hf 0 f0 rfl;have q1:=hf 1 f1 rfl;rw [o0,T.a.ci] at q0;rw [o1,T.cA] at q1;obtain ⟨n,e0,hn⟩:=q0.int T.a.ui;obtain ⟨A,c',L,e1,h1,h2,h3,h4,h5⟩:=q1.slice T.uA T.a.c arc (ArR w) (fun cs hcs=>hcs.arT T.a);simp at e0 e1;subst e0 e1;exact ⟨n,A,c',L,rfl,hn,⟨h1,h5⟩,h2,h3⟩
theorem Zgm (T:LgTy P t tt tk tf tF tG tg tI ti tb ts tu) (hv:Value.okWide P w r b0 t v) (h:DataW.Trod enc P w 0 (fun _=>true) true t v d p) :
  ∃ o n A c,∃ L:List Gm,∃ kd x M mc,∃ X:List Fr,v = .agg (lgv o n A L.length c kd x M X.length mc) /\ (-9223372036854775808 <= o /\ o <= 9223372036854775807) /\ (-9223372036854775808 <= n /\ n <= 9223372036854775807) /\ Tb w A L /\ (A = none -> c = 0 /\ L = []) /\ L.length <= 9223372036854775807 /\
   (-9223372036854775808 <= kd /\ kd <= 9223372036854775807) /\ (FrOk w x /\ x.N.length <= 9223372036854775807 /\ x.D.length <= 9223372036854775807) /\ FsL w M X /\ (M = none -> mc = 0 /\ X = []) /\ X.length <= 9223372036854775807:=by
 obtain ⟨f0,f1,f2,f3,hu,o0,o1,o2,o3,rfl,rfl,rfl,rfl⟩:=T.u;obtain ⟨cs,rfl,hl,hf⟩:=Za0 hu T.c hv h
 match cs,hl with
 | [a,b,c,d,e,f,g,i],_=>
  have q0:=hf 0 f0 rfl;have q1:=hf 1 f1 rfl;have q2:=hf 2 f2 rfl;have q3:=hf 3 f3 rfl;rw [o0,T.t.c] at q0;rw [o1,T.ck] at q1;rw [o2,T.f.c] at q2;rw [o3,T.cF] at q3;obtain ⟨o,n,A,c',L,e0,h1,h2,h3,h4,h5⟩:=q0.taT T.t;obtain ⟨kd,e1,hk⟩:=q1.int T.uk;obtain ⟨x,e2,hx,x1,x2⟩:=q2.fcT T.f;obtain ⟨M,mc,X,e3,m1,m2,m3,m4,m5⟩:=q3.slice T.uF T.f.c fic (fun x=>FrOk w x /\ x.N.length <= 9223372036854775807 /\ x.D.length <= 9223372036854775807) (fun cs hcs=>hcs.fcT T.f);simp [fic] at e0 e1 e2 e3;obtain ⟨rfl,rfl,rfl⟩:=e0;obtain ⟨rfl,rfl,rfl⟩:=e2;subst e1 e3;exact ⟨o,n,A,c',L,kd,x,M,mc,X,rfl,h1,h2,h3,h4,h5,hk,⟨hx,x1,x2⟩,⟨m1,m5⟩,m2,m3⟩
end
theorem Zj3:FcTy Tryz.prog 31 4 29 170:=⟨⟨_,_,_,Tryz.underlying31,rfl,rfl,rfl,rfl,rfl,rfl⟩,by kernel_rfl,Tryz.underlying4,by kernel_rfl,Tryz.underlying29,by kernel_rfl,Tryz.underlying170,by kernel_rfl⟩
theorem Zke:ArTy Tryz.prog 91 3 31 4 29 170:=⟨⟨_,_,_,_,_,Tryz.underlying91,rfl,rfl,rfl,rfl,rfl,rfl,rfl,rfl,rfl,rfl⟩,by kernel_rfl,Tryz.underlying3,by kernel_rfl,Zj3⟩
theorem Zj8:LtTy Tryz.prog 24 22 91 3 31 4 29 170:=⟨⟨_,_,Tryz.underlying24,rfl,rfl,rfl,rfl⟩,by kernel_rfl,Tryz.underlying22,by kernel_rfl,Zke⟩
theorem Zj6:TaTy Tryz.prog 27 25 93 35 3:=⟨⟨_,_,_,Tryz.underlying27,rfl,rfl,rfl,rfl,rfl,rfl⟩,by kernel_rfl,Tryz.underlying25,by kernel_rfl,⟨_,_,Tryz.underlying93,rfl,rfl,rfl,rfl⟩,by kernel_rfl,Tryz.underlying35,by kernel_rfl,Tryz.underlying3,by kernel_rfl⟩
theorem Zj9:LgTy Tryz.prog 34 27 28 31 32 25 93 35 3 4 29 170:=⟨⟨_,_,_,_,Tryz.underlying34,rfl,rfl,rfl,rfl,rfl,rfl,rfl,rfl⟩,by kernel_rfl,Zj6,Tryz.underlying28,by kernel_rfl,Zj3,Tryz.underlying32,by kernel_rfl⟩
end Go.Proofs.YtlgdlenoohkipaaGreat
