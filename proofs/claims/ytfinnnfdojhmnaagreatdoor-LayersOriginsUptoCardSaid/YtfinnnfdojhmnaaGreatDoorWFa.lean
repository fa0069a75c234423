/-
  What the Go functions compute, as Lean functions, and that a call returns just that. Printed by a program.
-/
import Derived.Test.YtfinnnfdojhmnaaGreatDoorRows
import Derived.Test.YtfinnnfdojhmnaaGreatDoorX
import Derived.Test.YtfinnnfdojhmnaaGreatDoorQ2
set_option linter.unusedVariables false
set_option maxRecDepth 20000
set_option maxHeartbeats 4000000
namespace Go.Proofs.YtfinnnfdojhmnaaGreatDoor
open Go.V Go.RowKit Go.Proofs.Tryz

abbrev tC(k:Int)(w:a7)(n:Int):List Value:=[.int .u8 k,.string ⟨⟨w⟩⟩,.int .i64 n,.int .u8 0,.int .u8 0,.int .u8 0,.int .u8 0]
abbrev Rd(L:List a8)(w:World):Prop:=S0 F0 L w∧ay L=[]
abbrev Rb(f:FuncId)(l:List Value)(v:Value)(w:World):Prop:=kP prog f ⟨l⟩ v w
abbrev Rt(f:FuncId)(l:List Value)(v:Value):Prop:=AQ prog f ⟨l⟩ v
abbrev Dm{γ:Type}(f:FuncId)(l:List Value)(L:List a8)(F:γ→Value)(E:γ→List a8):Prop:=N6 prog f ⟨l⟩ L F E
abbrev vS(l:a7):Value:=.string ⟨⟨l⟩⟩
abbrev vN:Value:=.string ⟨⟨[]⟩⟩
abbrev vI(n:Int):Value:=.int .i64 n
abbrev vU(n:Int):Value:=.int .u8 n
abbrev vT:Value:=.bool true
abbrev vF:Value:=.bool false
abbrev vP(b:Nat):Value:=.pointer (some ⟨b,0,none⟩)
abbrev vA(b o:Nat):Value:=.pointer (some ⟨b,o,none⟩)
abbrev vQ:Value:=.pointer none
abbrev vO:Value:=.slice none 0 0
abbrev vB(b:Bool):Value:=.bool b
abbrev vG(l:List Value):Value:=.agg ⟨l⟩
abbrev vW(l:List Value):Value:=.tuple ⟨l⟩
abbrev vJ(n:Int):Value:=.int .i32 n
abbrev vL{α:Type}(g:Gh)(l:List α):Value:=.slice g.a l.length g.c
theorem n5{α β:Type}{g g':Gh}{v:List α}{v':List β}(h:g'.a=g.a∧g'.c=g.c∧v'.length=v.length):vL g v=vL g' v':=by unfold vL;rw[h.1,h.2.1,h.2.2]
abbrev eO{α:Type}(E:TypeId)(T:Ty α)(l:List α)(g:Gh):a8:=.own E T l g
abbrev eI{α:Type}(T:Ty α)(l:List α)(g:Gh):a8:=.im T l g
abbrev eB(b:Nat)(cs:List Value):a8:=.lU b cs
def fS:List Nat→List Value→SF
 |k::ks,v::vs=>(k,[],v)::fS ks vs
 |_,_=>[]
abbrev vK(g:Gh)(n:Nat):Value:=.slice g.a n g.c
abbrev xS:List a7:=[[97,117,116,111]]
abbrev Bc:List Int:=[2,3,4,0]
abbrev Bd:List a7:=[[116,111,112],[114,105,103,104,116],[98,111,116,116,111,109],[108,101,102,116]]
abbrev Be:List Int:=[0,0,1]
abbrev Jg:List Int:=[2,3,4]
abbrev kL5:List a7:=[[],[97,110,100],[111,114],[110,111,116],[111,110,108,121]]
abbrev kL6:List a7:=[[109,97,114,103,105,110],[98,111,114,100,101,114],[111,117,116,108,105,110,101],[98,97,99,107,103,114,111,117,110,100]]
abbrev kL7:List a7:=[[105,110,105,116,105,97,108],[105,110,104,101,114,105,116],[117,110,115,101,116],[114,101,118,101,114,116]]
abbrev kL8:List a7:=[[98],[97,47,120],[97]]
abbrev rB(f:FuncId)(l:List Value)(v:Value):World→Prop:=λwz=>kP prog f ⟨l⟩ v wz
abbrev rN(b o:Nat)(l:List Value):World→Prop:=λwz=>V.bV b o l 0 wz
abbrev rA(b o:Nat)(v:Value):World→Prop:=λwz=>V.cd ⟨b,o,none⟩ v wz
theorem eL{α β γ:Type}{e:α}{g:α→β}{f:α→β→γ}{r:γ}(h:lt e (λx=>lt (g x) (f x))=r):∃x,x=e∧∃y,y=g x∧f x y=r:=⟨e,rfl,_,rfl,h⟩
theorem sB{α β γ:Type}{e:α}{g:α→Option β}{f:α→β→Option γ}{r:γ}(h:lt e (λx=>(g x).bind (f x))=some r):∃x,x=e∧∃y,g x=some y∧f x y=some r:=⟨e,rfl,ah h⟩
theorem mA{α γ:Type}{e:α}{p:α→Prop}[∀x,Decidable (p x)]{f:α→Option γ}{r:γ}(h:lt e (λx=>aH (p x) (f x))=some r):∃x,x=e∧p x∧f x=some r:=⟨e,rfl,bW h⟩
theorem iL{α β γ:Type}{e:Option α}{g:α→β}{f:α→β→Option γ}{r:γ}(h:e.bind (λx=>lt (g x) (f x))=some r):∃x,e=some x∧∃y,y=g x∧f x y=some r:=(ah h).imp λ_ h=>⟨h.1,bl h.2⟩
theorem pr{α β γ:Type}{e:Option α}{g:α→Option β}{f:α→β→Option γ}{r:γ}(h:e.bind (λx=>(g x).bind (f x))=some r):∃x,e=some x∧∃y,g x=some y∧f x y=some r:=(ah h).imp λ_ h=>⟨h.1,ah h.2⟩
theorem Bf{α γ:Type}{e:Option α}{p:α→Prop}[∀x,Decidable (p x)]{f:α→Option γ}{r:γ}(h:e.bind (λx=>aH (p x) (f x))=some r):∃x,e=some x∧p x∧f x=some r:=(ah h).imp λ_ h=>⟨h.1,bW h.2⟩
theorem cv{β γ:Type}{p:Prop}[Decidable p]{g:β}{f:β→Option γ}{r:γ}(h:aH p (lt g f)=some r):p∧∃y,y=g∧f y=some r:=⟨(bW h).1,bl (bW h).2⟩
theorem kv{β γ:Type}{p:Prop}[Decidable p]{g:Option β}{f:β→Option γ}{r:γ}(h:aH p (g.bind f)=some r):p∧∃y,g=some y∧f y=some r:=⟨(bW h).1,ah (bW h).2⟩
theorem fM{γ:Type}{p q:Prop}[Decidable p][Decidable q]{f:Option γ}{r:γ}(h:aH p (aH q f)=some r):p∧q∧f=some r:=⟨(bW h).1,bW (bW h).2⟩
def a0l:List Int:=[0,1,28,2,29,14,24,3,30,22,20,15,25,17,4,8,31,27,13,23,21,19,16,7,26,12,18,6,11,5,10,9]
def a0m:List Int:=[0,1,56,2,57,49,28,3,61,58,42,50,38,29,17,4,62,47,59,36,45,43,51,22,53,39,33,30,24,18,12,5,63,55,48,27,60,41,37,16,46,35,44,21,52,32,23,11,54,26,40,15,34,20,31,10,25,14,19,9,13,8,7,6]
def Du:List Int:=[0,0,0,0,0,0,0,0,0,1,1,1,1,1,0,0,0,0,0,0,0,0,0,0,0,0,0,0,0,0,0,0,1,0,0,0,0,0,0,0,0,0,0,0,0,0,0,0,0,0,0,0,0,0,0,0,0,0,0,0,0,0,0,0,0,0,0,0,0,0,0,0,0,0,0,0,0,0,0,0,0,0,0,0,0,0,0,0,0,0,0,0,0,0,0,0,0,0,0,0,0,0,0,0,0,0,0,0,0,0,0,0,0,0,0,0,0,0,0,0,0,0,0,0,0,0,0,0,0,0,0,0,0,0,0,0,0,0,0,0,0,0,0,0,0,0,0,0,0,0,0,0,0,0,0,0,0,0,0,0,0,0,0,0,0,0,0,0,0,0,0,0,0,0,0,0,0,0,0,0,0,0,0,0,0,0,0,0,0,0,0,0,0,0,0,0,0,0,0,0,0,0,0,0,0,0,0,0,0,0,0,0,0,0,0,0,0,0,0,0,0,0,0,0,0,0,0,0,0,0,0,0,0,0,0,0,0,0,0,0,0,0,0,0,0,0,0,0,0,0,0,0,0,0,0,0]
structure zj where
  A:Int
  B:Int
instance:Inhabited zj:=⟨⟨default,default⟩⟩
def a6Q:Ty zj where
  z:=2
  enc:=λx g=>[vI x.A,vI x.B]
  bK:=λ_ _ _ _=>True
  len:=λ_ _=>rfl
  one:=λ_ _=>rfl
  kp:=λ_ _ _=>trivial
  bS:=λ_ _=>trivial
  fresh:=λ_=>trivial
mutual
inductive bM where
  |mk (Jh:Int) (bt:List fZ) (iM:List Int)
inductive fZ where
  |mk (Tag:a7) (bC:List fA)
inductive fA where
  |mk (an:Int) (bm:a7) (Op:Int) (Value:a7) (Bg:Bool) (mB:zj) (Of:Bool) (ae:List bM)
end
def bM.Jh:bM→Int
 | .mk x _ _=>x
def bM.bt:bM→List fZ
 | .mk _ x _=>x
def bM.iM:bM→List Int
 | .mk _ _ x=>x
def fZ.Tag:fZ→a7
 | .mk x _=>x
def fZ.bC:fZ→List fA
 | .mk _ x=>x
def fA.an:fA→Int
 | .mk x _ _ _ _ _ _ _=>x
def fA.bm:fA→a7
 | .mk _ x _ _ _ _ _ _=>x
def fA.Op:fA→Int
 | .mk _ _ x _ _ _ _ _=>x
def fA.Value:fA→a7
 | .mk _ _ _ x _ _ _ _=>x
def fA.Bg:fA→Bool
 | .mk _ _ _ _ x _ _ _=>x
def fA.mB:fA→zj
 | .mk _ _ _ _ _ x _ _=>x
def fA.Of:fA→Bool
 | .mk _ _ _ _ _ _ x _=>x
def fA.ae:fA→List bM
 | .mk _ _ _ _ _ _ _ x=>x
instance:Inhabited bM:=⟨.mk default default default⟩
instance:Inhabited fZ:=⟨.mk default default⟩
instance:Inhabited fA:=⟨.mk default default default default default default default default⟩
def Sn(x:bM)(g:Nat→Gh):List Value:=[vU x.Jh,.slice (g 0).a x.bt.length (g 0).c,.slice (g 1).a x.iM.length (g 1).c]
def e0(x:bM)(g:Nat→Gh):List Value:=Sn x g
def a0n(x:fZ)(g:Nat→Gh):List Value:=[vS x.Tag,.slice (g 0).a x.bC.length (g 0).c]
def So(x:fA)(g:Nat→Gh):List Value:=[vU x.an,vS x.bm,vU x.Op,vS x.Value,vB x.Bg,vI x.mB.A,vI x.mB.B,vB x.Of,.slice (g 0).a x.ae.length (g 0).c]
def e2(x:fA)(g:Nat→Gh):List Value:=So x g
mutual
inductive lp (M:Av) (w:World):bM→(Nat→Gh)→Prop
  |mk (x:bM) (g:Nat→Gh) (h0:oD 2 a0n M w x.bt (g 0)) (h1:∀i (h:i<x.bt.length),lW M w x.bt[i] ((g 0).s i)) (h2:aP (tI .u8) M w x.iM (g 1)):lp M w x g
inductive lW (M:Av) (w:World):fZ→(Nat→Gh)→Prop
  |mk (x:fZ) (g:Nat→Gh) (h0:oD 9 So M w x.bC (g 0)) (h1:∀i (h:i<x.bC.length),lX M w x.bC[i] ((g 0).s i)):lW M w x g
inductive lX (M:Av) (w:World):fA→(Nat→Gh)→Prop
  |mk (x:fA) (g:Nat→Gh) (h0:oD 3 Sn M w x.ae (g 0)) (h1:∀i (h:i<x.ae.length),lp M w x.ae[i] ((g 0).s i)):lX M w x g
end
theorem a6R{M:Av}{w w':World}{X:List Nat}{x:bM}{g:Nat→Gh}(h:lp M w x g)(k:Kp X w w')(hX:∀b∈X,M b):lp M w' x g:=
  lp.rec (motive_1:=λx g _=>lp M w' x g) (motive_2:=λx g _=>lW M w' x g) (motive_3:=λx g _=>lX M w' x g) (λx g h0 _ h2 dS=>.mk x g (h0.kp k hX) dS (h2.kp k hX)) (λx g h0 _ dS=>.mk x g (h0.kp k hX) dS) (λx g h0 _ dS=>.mk x g (h0.kp k hX) dS) h
theorem a6S{M:Av}{w w':World}{X:List Nat}{x:fZ}{g:Nat→Gh}(h:lW M w x g)(k:Kp X w w')(hX:∀b∈X,M b):lW M w' x g:=
  lW.rec (motive_1:=λx g _=>lp M w' x g) (motive_2:=λx g _=>lW M w' x g) (motive_3:=λx g _=>lX M w' x g) (λx g h0 _ h2 dS=>.mk x g (h0.kp k hX) dS (h2.kp k hX)) (λx g h0 _ dS=>.mk x g (h0.kp k hX) dS) (λx g h0 _ dS=>.mk x g (h0.kp k hX) dS) h
theorem a6T{M:Av}{w w':World}{X:List Nat}{x:fA}{g:Nat→Gh}(h:lX M w x g)(k:Kp X w w')(hX:∀b∈X,M b):lX M w' x g:=
  lX.rec (motive_1:=λx g _=>lp M w' x g) (motive_2:=λx g _=>lW M w' x g) (motive_3:=λx g _=>lX M w' x g) (λx g h0 _ h2 dS=>.mk x g (h0.kp k hX) dS (h2.kp k hX)) (λx g h0 _ dS=>.mk x g (h0.kp k hX) dS) (λx g h0 _ dS=>.mk x g (h0.kp k hX) dS) h
theorem a6U{M M':Av}{w:World}{x:bM}{g:Nat→Gh}(h:lp M w x g)(hM:∀b,M' b→M b):lp M' w x g:=
  lp.rec (motive_1:=λx g _=>lp M' w x g) (motive_2:=λx g _=>lW M' w x g) (motive_3:=λx g _=>lX M' w x g) (λx g h0 _ h2 dS=>.mk x g (h0.bS hM) dS (h2.bS hM)) (λx g h0 _ dS=>.mk x g (h0.bS hM) dS) (λx g h0 _ dS=>.mk x g (h0.bS hM) dS) h
theorem a6V{M M':Av}{w:World}{x:fZ}{g:Nat→Gh}(h:lW M w x g)(hM:∀b,M' b→M b):lW M' w x g:=
  lW.rec (motive_1:=λx g _=>lp M' w x g) (motive_2:=λx g _=>lW M' w x g) (motive_3:=λx g _=>lX M' w x g) (λx g h0 _ h2 dS=>.mk x g (h0.bS hM) dS (h2.bS hM)) (λx g h0 _ dS=>.mk x g (h0.bS hM) dS) (λx g h0 _ dS=>.mk x g (h0.bS hM) dS) h
theorem a6W{M M':Av}{w:World}{x:fA}{g:Nat→Gh}(h:lX M w x g)(hM:∀b,M' b→M b):lX M' w x g:=
  lX.rec (motive_1:=λx g _=>lp M' w x g) (motive_2:=λx g _=>lW M' w x g) (motive_3:=λx g _=>lX M' w x g) (λx g h0 _ h2 dS=>.mk x g (h0.bS hM) dS (h2.bS hM)) (λx g h0 _ dS=>.mk x g (h0.bS hM) dS) (λx g h0 _ dS=>.mk x g (h0.bS hM) dS) h
theorem a6X{M:Av}{w:World}{x:bM}{g:Nat→Gh}(h:lp M w x g):lp (λb=>M b∨w.heap.size≤b) w x g:=
  lp.rec (motive_1:=λx g _=>lp (λb=>M b∨w.heap.size≤b) w x g) (motive_2:=λx g _=>lW (λb=>M b∨w.heap.size≤b) w x g) (motive_3:=λx g _=>lX (λb=>M b∨w.heap.size≤b) w x g) (λx g h0 _ h2 dS=>.mk x g h0.fresh dS h2.fresh) (λx g h0 _ dS=>.mk x g h0.fresh dS) (λx g h0 _ dS=>.mk x g h0.fresh dS) h
theorem a6Y{M:Av}{w:World}{x:fZ}{g:Nat→Gh}(h:lW M w x g):lW (λb=>M b∨w.heap.size≤b) w x g:=
  lW.rec (motive_1:=λx g _=>lp (λb=>M b∨w.heap.size≤b) w x g) (motive_2:=λx g _=>lW (λb=>M b∨w.heap.size≤b) w x g) (motive_3:=λx g _=>lX (λb=>M b∨w.heap.size≤b) w x g) (λx g h0 _ h2 dS=>.mk x g h0.fresh dS h2.fresh) (λx g h0 _ dS=>.mk x g h0.fresh dS) (λx g h0 _ dS=>.mk x g h0.fresh dS) h
theorem a6Z{M:Av}{w:World}{x:fA}{g:Nat→Gh}(h:lX M w x g):lX (λb=>M b∨w.heap.size≤b) w x g:=
  lX.rec (motive_1:=λx g _=>lp (λb=>M b∨w.heap.size≤b) w x g) (motive_2:=λx g _=>lW (λb=>M b∨w.heap.size≤b) w x g) (motive_3:=λx g _=>lX (λb=>M b∨w.heap.size≤b) w x g) (λx g h0 _ h2 dS=>.mk x g h0.fresh dS h2.fresh) (λx g h0 _ dS=>.mk x g h0.fresh dS) (λx g h0 _ dS=>.mk x g h0.fresh dS) h
def bH:Ty bM where
  z:=3
  enc:=Sn
  bK:=lp
  len:=λ_ _=>rfl
  one:=λ_ _=>rfl
  kp:=λh k hX=>a6R h k hX
  bS:=λh hM=>a6U h hM
  fresh:=λh=>a6X h
def k6:Ty fZ where
  z:=2
  enc:=a0n
  bK:=lW
  len:=λ_ _=>rfl
  one:=λ_ _=>rfl
  kp:=λh k hX=>a6S h k hX
  bS:=λh hM=>a6V h hM
  fresh:=λh=>a6Y h
def rh:Ty fA where
  z:=9
  enc:=So
  bK:=lX
  len:=λ_ _=>rfl
  one:=λ_ _=>rfl
  kp:=λh k hX=>a6T h k hX
  bS:=λh hM=>a6W h hM
  fresh:=λh=>a6Z h
theorem lq{M:Av}{w:World}{x:bM}{g:Nat→Gh}(h:bH.bK M w x g):aP k6 M w x.bt (g 0):=by
  have h:lp M w x g:=h;cases h with
  |mk _ _ h0 h1 h2=>exact⟨h0,h1⟩
theorem a0o{M:Av}{w:World}{x:bM}{g:Nat→Gh}(h:bH.bK M w x g):aP (tI .u8) M w x.iM (g 1):=by
  have h:lp M w x g:=h;cases h with
  |mk _ _ h0 h1 h2=>exact h2
theorem a0p{M:Av}{w:World}{x:bM}{g:Nat→Gh}(k0:aP k6 M w x.bt (g 0))(k1:aP (tI .u8) M w x.iM (g 1)):bH.bK M w x g:=(lp.mk x g k0.1 k0.2 k1:lp M w x g)
theorem sC{M:Av}{w:World}{x:fZ}{g:Nat→Gh}(h:k6.bK M w x g):aP rh M w x.bC (g 0):=by
  have h:lW M w x g:=h;cases h with
  |mk _ _ h0 h1=>exact⟨h0,h1⟩
theorem a0q{M:Av}{w:World}{x:fZ}{g:Nat→Gh}(k0:aP rh M w x.bC (g 0)):k6.bK M w x g:=(lW.mk x g k0.1 k0.2:lW M w x g)
theorem Ng{M:Av}{w:World}{x:fA}{g:Nat→Gh}(h:rh.bK M w x g):aP bH M w x.ae (g 0):=by
  have h:lX M w x g:=h;cases h with
  |mk _ _ h0 h1=>exact⟨h0,h1⟩
theorem a71{M:Av}{w:World}{x:fA}{g:Nat→Gh}(k0:aP bH M w x.ae (g 0)):rh.bK M w x g:=(lX.mk x g k0.1 k0.2:lX M w x g)
structure ct where
  an:Int
  db:a7
  cU:Int
  Unit:a7
  mE:Bool
instance:Inhabited ct:=⟨⟨default,default,default,default,default⟩⟩
def dN:Ty ct where
  z:=5
  enc:=λx g=>[vU x.an,vS x.db,vI x.cU,vS x.Unit,vB x.mE]
  bK:=λ_ _ _ _=>True
  len:=λ_ _=>rfl
  one:=λ_ _=>rfl
  kp:=λ_ _ _=>trivial
  bS:=λ_ _=>trivial
  fresh:=λ_=>trivial
def e7(x:ct):List Value:=dN.enc x (gL [])
inductive ax where
  |mk (aY:ct) (ae:List ax)
def ax.aY:ax→ct
 | .mk x _=>x
def ax.ae:ax→List ax
 | .mk _ x=>x
instance:Inhabited ax:=⟨.mk default default⟩
def Sp(x:ax)(g:Nat→Gh):List Value:=[vU x.aY.an,vS x.aY.db,vI x.aY.cU,vS x.aY.Unit,vB x.aY.mE,.slice (g 0).a x.ae.length (g 0).c]
def e3(x:ax)(g:Nat→Gh):List Value:=Sp x g
inductive vd (M:Av) (w:World):ax→(Nat→Gh)→Prop
  |mk (x:ax) (g:Nat→Gh) (h0:oD 6 Sp M w x.ae (g 0)) (h1:∀i (h:i<x.ae.length),vd M w x.ae[i] ((g 0).s i)):vd M w x g
theorem a73{M:Av}{w w':World}{X:List Nat}{x:ax}{g:Nat→Gh}(h:vd M w x g)(k:Kp X w w')(hX:∀b∈X,M b):vd M w' x g:=by
  induction h with
  |mk x g h0 _h1 dS=>exact .mk x g (h0.kp k hX) dS
theorem a74{M M':Av}{w:World}{x:ax}{g:Nat→Gh}(h:vd M w x g)(hM:∀b,M' b→M b):vd M' w x g:=by
  induction h with
  |mk x g h0 _h1 dS=>exact .mk x g (h0.bS hM) dS
theorem a77{M:Av}{w:World}{x:ax}{g:Nat→Gh}(h:vd M w x g):vd (λb=>M b∨w.heap.size≤b) w x g:=by
  induction h with
  |mk x g h0 _h1 dS=>exact .mk x g h0.fresh dS
def aa:Ty ax where
  z:=6
  enc:=Sp
  bK:=vd
  len:=λ_ _=>rfl
  one:=λ_ _=>rfl
  kp:=λh k hX=>a73 h k hX
  bS:=λh hM=>a74 h hM
  fresh:=λh=>a77 h
theorem sD{M:Av}{w:World}{x:ax}{g:Nat→Gh}(h:aa.bK M w x g):aP aa M w x.ae (g 0):=by
  have h:vd M w x g:=h;cases h with
  |mk _ _ h0 h1=>exact⟨h0,h1⟩
theorem Ji{M:Av}{w:World}{x:ax}{g:Nat→Gh}(k0:aP aa M w x.ae (g 0)):aa.bK M w x g:=(vd.mk x g k0.1 k0.2:vd M w x g)
structure cT where
  bm:a7
  Value:List ax
  lY:Bool
instance:Inhabited cT:=⟨⟨default,default,default⟩⟩
def dE:Ty cT where
  z:=3
  enc:=λx g=>[vS x.bm,.slice (g 0).a x.Value.length (g 0).c,vB x.lY]
  bK:=λM w x g=>aP aa M w x.Value (g 0)∧True
  len:=λ_ _=>rfl
  one:=λ_ _=>rfl
  kp:=λh k hX=>⟨h.1.kp k hX,trivial⟩
  bS:=λh hM=>⟨h.1.bS hM,trivial⟩
  fresh:=λh=>⟨h.1.fresh,trivial⟩
def e8(x:cT)(g:Nat→Gh):List Value:=dE.enc x g
theorem FV{M:Av}{w:World}{x:cT}{g:Nat→Gh}(h:dE.bK M w x g):aP aa M w x.Value (g 0):=(show aP aa M w x.Value (g 0)∧True from h).1
theorem Sq{M:Av}{w:World}{x:cT}{g:Nat→Gh}(h0:aP aa M w x.Value (g 0)):dE.bK M w x g:=show aP aa M w x.Value (g 0)∧True from⟨h0,trivial⟩
inductive bu where
  |mk (an:Int) (bm:a7) (cU:Int) (aS:cT) (ae:List bu)
def bu.an:bu→Int
 | .mk x _ _ _ _=>x
def bu.bm:bu→a7
 | .mk _ x _ _ _=>x
def bu.cU:bu→Int
 | .mk _ _ x _ _=>x
def bu.aS:bu→cT
 | .mk _ _ _ x _=>x
def bu.ae:bu→List bu
 | .mk _ _ _ _ x=>x
instance:Inhabited bu:=⟨.mk default default default default default⟩
def Sr(x:bu)(g:Nat→Gh):List Value:=[vU x.an,vS x.bm,vI x.cU,vS x.aS.bm,.slice (g 0).a x.aS.Value.length (g 0).c,vB x.aS.lY,.slice (g 1).a x.ae.length (g 1).c]
def e4(x:bu)(g:Nat→Gh):List Value:=Sr x g
inductive tR (M:Av) (w:World):bu→(Nat→Gh)→Prop
  |mk (x:bu) (g:Nat→Gh) (h0:aP aa M w x.aS.Value (g 0)) (h1:oD 7 Sr M w x.ae (g 1)) (h2:∀i (h:i<x.ae.length),tR M w x.ae[i] ((g 1).s i)):tR M w x g
theorem a78{M:Av}{w w':World}{X:List Nat}{x:bu}{g:Nat→Gh}(h:tR M w x g)(k:Kp X w w')(hX:∀b∈X,M b):tR M w' x g:=by
  induction h with
  |mk x g h0 h1 _h2 Dv=>exact .mk x g (h0.kp k hX) (h1.kp k hX) Dv
theorem a79{M M':Av}{w:World}{x:bu}{g:Nat→Gh}(h:tR M w x g)(hM:∀b,M' b→M b):tR M' w x g:=by
  induction h with
  |mk x g h0 h1 _h2 Dv=>exact .mk x g (h0.bS hM) (h1.bS hM) Dv
theorem a7a{M:Av}{w:World}{x:bu}{g:Nat→Gh}(h:tR M w x g):tR (λb=>M b∨w.heap.size≤b) w x g:=by
  induction h with
  |mk x g h0 h1 _h2 Dv=>exact .mk x g h0.fresh h1.fresh Dv
def bq:Ty bu where
  z:=7
  enc:=Sr
  bK:=tR
  len:=λ_ _=>rfl
  one:=λ_ _=>rfl
  kp:=λh k hX=>a78 h k hX
  bS:=λh hM=>a79 h hM
  fresh:=λh=>a7a h
theorem tT{M:Av}{w:World}{x:bu}{g:Nat→Gh}(h:bq.bK M w x g):aP aa M w x.aS.Value (g 0):=by
  have h:tR M w x g:=h;cases h with
  |mk _ _ h0 h1 h2=>exact h0
theorem tU{M:Av}{w:World}{x:bu}{g:Nat→Gh}(h:bq.bK M w x g):aP bq M w x.ae (g 1):=by
  have h:tR M w x g:=h;cases h with
  |mk _ _ h0 h1 h2=>exact⟨h1,h2⟩
theorem Ss{M:Av}{w:World}{x:bu}{g:Nat→Gh}(k0:aP aa M w x.aS.Value (g 0))(k1:aP bq M w x.ae (g 1)):bq.bK M w x g:=(tR.mk x g k0 k1.1 k1.2:tR M w x g)
inductive bA where
  |mk (an:Int) (dF:List bM) (cP:List cT) (aT:bu) (bI:List (List a7)) (bo:List bA)
def bA.an:bA→Int
 | .mk x _ _ _ _ _=>x
def bA.dF:bA→List bM
 | .mk _ x _ _ _ _=>x
def bA.cP:bA→List cT
 | .mk _ _ x _ _ _=>x
def bA.aT:bA→bu
 | .mk _ _ _ x _ _=>x
def bA.bI:bA→List (List a7)
 | .mk _ _ _ _ x _=>x
def bA.bo:bA→List bA
 | .mk _ _ _ _ _ x=>x
instance:Inhabited bA:=⟨.mk default default default default default default⟩
def St(x:bA)(g:Nat→Gh):List Value:=[vU x.an,.slice (g 0).a x.dF.length (g 0).c,.slice (g 1).a x.cP.length (g 1).c,vU x.aT.an,vS x.aT.bm,vI x.aT.cU,vS x.aT.aS.bm,.slice (g 2).a x.aT.aS.Value.length (g 2).c,vB x.aT.aS.lY,.slice (g 3).a x.aT.ae.length (g 3).c,.slice (g 4).a x.bI.length (g 4).c,.slice (g 5).a x.bo.length (g 5).c]
def e5(x:bA)(g:Nat→Gh):List Value:=St x g
inductive pR (M:Av) (w:World):bA→(Nat→Gh)→Prop
  |mk (x:bA) (g:Nat→Gh) (h0:aP bH M w x.dF (g 0)) (h1:aP dE M w x.cP (g 1)) (h2:aP aa M w x.aT.aS.Value (g 2)) (h3:aP bq M w x.aT.ae (g 3)) (h4:aP (Ty.sl tS) M w x.bI (g 4)) (h5:oD 12 St M w x.bo (g 5)) (h6:∀i (h:i<x.bo.length),pR M w x.bo[i] ((g 5).s i)):pR M w x g
theorem a7b{M:Av}{w w':World}{X:List Nat}{x:bA}{g:Nat→Gh}(h:pR M w x g)(k:Kp X w w')(hX:∀b∈X,M b):pR M w' x g:=by
  induction h with
  |mk x g h0 h1 h2 h3 h4 h5 _h6 Jj=>exact .mk x g (h0.kp k hX) (h1.kp k hX) (h2.kp k hX) (h3.kp k hX) (h4.kp k hX) (h5.kp k hX) Jj
theorem a7c{M M':Av}{w:World}{x:bA}{g:Nat→Gh}(h:pR M w x g)(hM:∀b,M' b→M b):pR M' w x g:=by
  induction h with
  |mk x g h0 h1 h2 h3 h4 h5 _h6 Jj=>exact .mk x g (h0.bS hM) (h1.bS hM) (h2.bS hM) (h3.bS hM) (h4.bS hM) (h5.bS hM) Jj
theorem a7d{M:Av}{w:World}{x:bA}{g:Nat→Gh}(h:pR M w x g):pR (λb=>M b∨w.heap.size≤b) w x g:=by
  induction h with
  |mk x g h0 h1 h2 h3 h4 h5 _h6 Jj=>exact .mk x g h0.fresh h1.fresh h2.fresh h3.fresh h4.fresh h5.fresh Jj
def bD:Ty bA where
  z:=12
  enc:=St
  bK:=pR
  len:=λ_ _=>rfl
  one:=λ_ _=>rfl
  kp:=λh k hX=>a7b h k hX
  bS:=λh hM=>a7c h hM
  fresh:=λh=>a7d h
theorem Jk{M:Av}{w:World}{x:bA}{g:Nat→Gh}(h:bD.bK M w x g):aP bH M w x.dF (g 0):=by
  have h:pR M w x g:=h;cases h with
  |mk _ _ h0 h1 h2 h3 h4 h5 h6=>exact h0
theorem Dw{M:Av}{w:World}{x:bA}{g:Nat→Gh}(h:bD.bK M w x g):aP dE M w x.cP (g 1):=by
  have h:pR M w x g:=h;cases h with
  |mk _ _ h0 h1 h2 h3 h4 h5 h6=>exact h1
theorem xT{M:Av}{w:World}{x:bA}{g:Nat→Gh}(h:bD.bK M w x g):aP aa M w x.aT.aS.Value (g 2):=by
  have h:pR M w x g:=h;cases h with
  |mk _ _ h0 h1 h2 h3 h4 h5 h6=>exact h2
theorem xU{M:Av}{w:World}{x:bA}{g:Nat→Gh}(h:bD.bK M w x g):aP bq M w x.aT.ae (g 3):=by
  have h:pR M w x g:=h;cases h with
  |mk _ _ h0 h1 h2 h3 h4 h5 h6=>exact h3
theorem wA{M:Av}{w:World}{x:bA}{g:Nat→Gh}(h:bD.bK M w x g):aP (Ty.sl tS) M w x.bI (g 4):=by
  have h:pR M w x g:=h;cases h with
  |mk _ _ h0 h1 h2 h3 h4 h5 h6=>exact h4
theorem FW{M:Av}{w:World}{x:bA}{g:Nat→Gh}(h:bD.bK M w x g):aP bD M w x.bo (g 5):=by
  have h:pR M w x g:=h;cases h with
  |mk _ _ h0 h1 h2 h3 h4 h5 h6=>exact⟨h5,h6⟩
theorem a0r{M:Av}{w:World}{x:bA}{g:Nat→Gh}(k0:aP bH M w x.dF (g 0))(k1:aP dE M w x.cP (g 1))(k2:aP aa M w x.aT.aS.Value (g 2))(k3:aP bq M w x.aT.ae (g 3))(k4:aP (Ty.sl tS) M w x.bI (g 4))(k5:aP bD M w x.bo (g 5)):bD.bK M w x g:=(pR.mk x g k0 k1 k2 k3 k4 k5.1 k5.2:pR M w x g)
structure sE where
  bo:List bA
instance:Inhabited sE:=⟨⟨default⟩⟩
def Su:Ty sE where
  z:=1
  enc:=λx g=>[.slice (g 0).a x.bo.length (g 0).c]
  bK:=λM w x g=>aP bD M w x.bo (g 0)∧True
  len:=λ_ _=>rfl
  one:=λ_ _=>rfl
  kp:=λh k hX=>⟨h.1.kp k hX,trivial⟩
  bS:=λh hM=>⟨h.1.bS hM,trivial⟩
  fresh:=λh=>⟨h.1.fresh,trivial⟩
theorem a7e{M:Av}{w:World}{x:sE}{g:Nat→Gh}(h:Su.bK M w x g):aP bD M w x.bo (g 0):=(show aP bD M w x.bo (g 0)∧True from h).1
theorem a7f{M:Av}{w:World}{x:sE}{g:Nat→Gh}(h0:aP bD M w x.bo (g 0)):Su.bK M w x g:=show aP bD M w x.bo (g 0)∧True from⟨h0,trivial⟩
structure cQ where
  dZ:Int
  dm:sE
instance:Inhabited cQ:=⟨⟨default,default⟩⟩
def dG:Ty cQ where
  z:=2
  enc:=λx g=>[vU x.dZ,.slice (g 0).a x.dm.bo.length (g 0).c]
  bK:=λM w x g=>aP bD M w x.dm.bo (g 0)∧True
  len:=λ_ _=>rfl
  one:=λ_ _=>rfl
  kp:=λh k hX=>⟨h.1.kp k hX,trivial⟩
  bS:=λh hM=>⟨h.1.bS hM,trivial⟩
  fresh:=λh=>⟨h.1.fresh,trivial⟩
theorem FX{M:Av}{w:World}{x:cQ}{g:Nat→Gh}(h:dG.bK M w x g):aP bD M w x.dm.bo (g 0):=(show aP bD M w x.dm.bo (g 0)∧True from h).1
theorem Jl{M:Av}{w:World}{x:cQ}{g:Nat→Gh}(h0:aP bD M w x.dm.bo (g 0)):dG.bK M w x g:=show aP bD M w x.dm.bo (g 0)∧True from⟨h0,trivial⟩
structure jm where
  cI:Int
instance:Inhabited jm:=⟨⟨default⟩⟩
def a0s:Ty jm where
  z:=1
  enc:=λx g=>[vI x.cI]
  bK:=λ_ _ _ _=>True
  len:=λ_ _=>rfl
  one:=λ_ _=>rfl
  kp:=λ_ _ _=>trivial
  bS:=λ_ _=>trivial
  fresh:=λ_=>trivial
def Sv(m:Nat)(s:a7):Nat→a7→Int→Option a7
 |0,_,_=>none
 |kk+1,v8,v9=>cond (decide (v9<ln s)) (Option.bind (aH (0≤v9∧v9<ln s)<|lt (cond (bR s v9==10) (decide (0<v9)) false) λoG=>aH (oG=true→0≤J (v9-1)∧J (v9-1)<ln s)<|lt (cond oG (bR s (J (v9-1))==13) false) λnE=>cond nE (some v8) (lt (cond (bR s v9==13) true (bR s v9==12)) λlr=>cond lr (none) (cond (bR s v9==0) (none) (aH (ln v8+ln (jx ([bR s v9]:List Int))≤9223372036854775807)<|some (v8++(jx ([bR s v9]:List Int))))))) λ(z12:a7)=>Sv m s kk z12 (J (v9+1))) (some v8)
def Sw(m:Nat)(s:a7):Option a7:=Option.bind (Sv m s m [] 0) λ(z5:a7)=>some z5
theorem a7g(m)(s)(r)(hm:Sw m s=some r):Rt 166 [vS s] (vS r):=by
 rw[Sw]at hm;refine dh (call166 _) func166 ntmps166 λM X w=>?_;refine uO [] ?_;refine uA 3 vN [] ?_;obtain⟨z5,hz,hm⟩:=ah hm;refine uK [0] [3] [vS z5] [] ?_ ?_;replace hm:=hz;refine uA 4 (vI 0) [] (aL ?_);refine iX [] [3,4] (λv8 v9=>[vS v8,vI v9]) (λ_ _=>[]) hm (λkk v8 v9 hm=>?_);rw[Sv]at hm;refine az (uI [] hm ?_ ?_);intro hm;refine aq ?_;obtain⟨z12,hz,hm⟩:=ah hm;refine uK [] [3] [vS z12] [] ?_ ?_;replace hm:=hz;refine aL ?_;obtain⟨cH,hm⟩:=bW hm;refine uA 5 (vU (bR s v9)) [kh cH] (az ?_);obtain⟨oG,zk,fw,hm⟩:=mA hm;obtain⟨nE,zl,hm⟩:=bl hm;refine uI [o1 (gT oG) λhg=>fw hg.1] hm ?_ ?_ (he:=by subst zk zl;kernel_rfl);intro hm;refine bn ?_;cases hm;exact te;intro hm;refine aq (az ?_);obtain⟨lr,Dx,hm⟩:=bl hm;refine gu [] hm ?_ (he:=by subst Dx;kernel_rfl);intro hm;refine aq (gu [] hm ?_);intro hm;refine dB (uB 2 [3,5] [0,4,40,41] [vS s,vI v9,vS v8,vU (bR s v9)] [] ?_);refine uM [] [] [41] (oL (tI .u8) 5 (vU 0) [bR s v9] [gL []] (λ_=>bd.cons trivial bd.nil) rfl) λri=>?_;obtain⟨Jm,hm⟩:=bW hm;intro _ _ wB hS;refine Rc 3 6 [vS (jx ([bR s v9]:List Int))] [0,3,4] (fS [0,3,4] [vS s,vS (v8++(jx ([bR s v9]:List Int))),vI v9]) [λwz=>∀w',Below wz.heap.size wz w'→(convert 150 9 (vK ri 1)).run prog w'=.ok (vS (jx ([bR s v9]:List Int))) w',λ_=>ln v8+ln (jx ([bR s v9]:List Int))≤9223372036854775807] wB (by decide) (by kernel_rfl) ⟨a5m (E:=5) (by kernel_rfl) (by kernel_rfl) (by kernel_rfl) (hS.cD 0 rfl),Jm,trivial⟩ λ_ _ k7 hb=>?_;replace hS:=hS.below hb;refine aN k7 hS (aC (aB [] ?_));cases hm;exact te;exact jz [] hm;intro hm;refine bn ?_;cases hm;exact te;cases hm;exact uZ [] []

def Sx(m:Nat)(s:a7):Option (a7×Int):=cond (decide (4000<ln s)) (none) (Option.bind (Sw m s) λy5=>some (y5,0))
theorem a7h(m)(s)(r)(hm:Sx m s=some r):Rt 116 [vS s] (vW [vS r.1,vI r.2]):=by
 rw[Sx]at hm;refine dh (call116 _) func116 ntmps116 λM X w=>?_;refine uO [] (az ?_);refine gu [] hm ?_;intro hm;refine aq ?_;obtain⟨y5,iN,hm⟩:=ah hm;cases hm;exact uY [] [kc (a7g m _ _ iN)]

def Jn(s:a7)(i:Int)(x_:a7):Option Bool:=aH (decide (ln x_≤J (ln s-i))=true→0≤i∧i≤J (i+ln x_)∧J (i+ln x_)≤ln s)<|lt (cond (decide (ln x_≤J (ln s-i))) (sub s i (J (i+ln x_))==x_) false) λx4=>some x4
theorem Sy(s)(i)(x_)(r)(hm:Jn s i x_=some r):Rt 209 [vS s,vI i,vS x_] (vB r):=by
 rw[Jn]at hm;refine dh (call209 _) func209 ntmps209 λM X w=>?_;refine uO [] ?_;obtain⟨lv,x4,mF,hm⟩:=cv hm;refine uR [0,1,2] [6] [vB x4] [o1 (gT (decide (ln x_≤J (ln s-i)))) λhg=>lv hg.1] ?_ (he:=by subst mF;kernel_rfl);refine aQ ?_;cases hm;exact bi [] bp

def a0t(m:Nat)(s:a7):Nat→Int→Option Int
 |0,_=>none
 |kk+1,v4=>Option.bind (Jn s v4 [47,42]) λy5=>cond y5 (none) (some v4)
def Nh(m:Nat)(s:a7)(i:Int):Option Int:=Option.bind (a0t m s m i) λ(z3:Int)=>some z3
theorem a0u(m)(s)(i)(r)(hm:Nh m s i=some r):Rt 167 [vS s,vI i] (vI r):=by
 rw[Nh]at hm;refine dh (call167 _) func167 ntmps167 λM X w=>?_;refine uO [] ?_;obtain⟨z3,hz,hm⟩:=ah hm;refine uK [0] [1] [vI z3] [] ?_ ?_;replace hm:=hz;refine aL (eQ [] [1] (λv4=>[vI v4]) (λ_=>[]) hm (λkk v4 hm=>?_));rw[a0t]at hm;refine az ?_;obtain⟨y5,iN,hm⟩:=ah hm;refine uI [kc (Sy _ _ _ _ iN)] hm ?_ ?_;intro hm;refine aq (aL ?_);intro _ _ H7 hS;exact cN hm;intro hm;refine bn ?_;cases hm;exact te;cases hm;exact uZ [] []

def Jo(c_:Int):Bool:=lt (cond (cond (c_==10) true (c_==9)) true (c_==32)) λx3=>x3
theorem a0v(c_:Int):Rt 210 [vU c_] (vB (Jo c_)):=by
 generalize hm:Jo c_=r;rw[Jo]at hm;refine dh (call210 _) func210 ntmps210 λM X w=>?_;refine uO [] ?_;obtain⟨x3,iD,hm⟩:=bl hm;refine uR [0] [2] [vB x3] [] ?_ (he:=by subst iD;kernel_rfl);refine aQ ?_;subst hm;exact bi [] bp

def wC(s:a7)(i:Int):Option Int:=cond (decide (i<ln s)) (aH (0≤i∧i<ln s)<|some (bR s i)) (none)
theorem zm(s)(i)(r)(hm:wC s i=some r):Rt 254 [vS s,vI i] (vU r):=by
 rw[wC]at hm;refine dh (call254 _) func254 ntmps254 λM X w=>?_;refine uO [] (az ?_);refine uI [] hm ?_ ?_;intro hm;obtain⟨Dy,hm⟩:=bW hm;cases hm;exact uZ [] [kh Dy];intro hm;refine aq ?_;intro _ _ H4 hS;exact cN hm

def Sz(m:Nat)(s:a7):Nat→Int→Option Int
 |0,_=>none
 |kk+1,v4=>Option.bind (wC s v4) λy5=>cond (Jo y5) (Sz m s kk (J (v4+1))) (some v4)
def SA(m:Nat)(s:a7)(i:Int):Option Int:=Option.bind (Sz m s m i) λ(z3:Int)=>some z3
theorem a7i(m)(s)(i)(r)(hm:SA m s i=some r):Rt 211 [vS s,vI i] (vI r):=by
 rw[SA]at hm;refine dh (call211 _) func211 ntmps211 λM X w=>?_;refine uO [] ?_;obtain⟨z3,hz,hm⟩:=ah hm;refine uK [0] [1] [vI z3] [] ?_ ?_;replace hm:=hz;refine aL (eQ [] [1] (λv4=>[vI v4]) (λ_=>[]) hm (λkk v4 hm=>?_));rw[Sz]at hm;refine az ?_;obtain⟨y5,iN,hm⟩:=ah hm;refine uI [kc (zm _ _ _ iN),kc (a0v y5)] hm ?_ ?_;intro hm;exact aq (aL (gw [] hm));intro hm;refine bn ?_;cases hm;exact te;cases hm;exact uZ [] []

def Ni(c_:Int):Option Int:=lt (cond (decide (65≤c_)) (decide (c_≤90)) false) λx3=>cond x3 (none) (some c_)
theorem a0w(c_)(r)(hm:Ni c_=some r):Rt 224 [vU c_] (vU r):=by
 rw[Ni]at hm;refine dh (call224 _) func224 ntmps224 λM X w=>?_;refine uO [] (az ?_);obtain⟨x3,iD,hm⟩:=bl hm;refine gu [] hm ?_ (he:=by subst iD;kernel_rfl);intro hm;refine aq ?_;cases hm;exact uZ [] []

def Nj(c_:Int):Option Bool:=Option.bind (Ni c_) λy3=>lt (cond (decide (97≤y3)) (decide (y3≤122)) false) λx6=>lt (cond (cond x6 true (c_==95)) true (decide (128≤c_))) λx7=>some x7
theorem a0x(c_)(r)(hm:Nj c_=some r):Rt 256 [vU c_] (vB r):=by
 rw[Nj]at hm;refine dh (call256 _) func256 ntmps256 λM X w=>?_;refine uO [] ?_;obtain⟨y3,cg,hm⟩:=ah hm;refine uA 3 (vU y3) [kc (a0w _ _ cg)] ?_;obtain⟨x6,oH,x7,wD,hm⟩:=eL hm;refine uR [0,3] [2] [vB x7] [] ?_ (he:=by subst oH wD;kernel_rfl);refine aQ ?_;cases hm;exact bi [] bp

def Jp(c_:Int):Bool:=lt (cond (decide (48≤c_)) (decide (c_≤57)) false) λx3=>x3
theorem a0y(c_:Int):Rt 257 [vU c_] (vB (Jp c_)):=by
 generalize hm:Jp c_=r;rw[Jp]at hm;refine dh (call257 _) func257 ntmps257 λM X w=>?_;refine uO [] ?_;obtain⟨x3,iD,hm⟩:=bl hm;refine uR [0] [2] [vB x3] [] ?_ (he:=by subst iD;kernel_rfl);refine aQ ?_;subst hm;exact bi [] bp

def Nk(c_:Int):Option Bool:=Option.bind (Nj c_) λy3=>lt (cond (cond y3 true (Jp c_)) true (c_==45)) λx4=>some x4
theorem a0z(c_)(r)(hm:Nk c_=some r):Rt 213 [vU c_] (vB r):=by
 rw[Nk]at hm;refine dh (call213 _) func213 ntmps213 λM X w=>?_;refine uO [] ?_;obtain⟨y3,cg,x4,mF,hm⟩:=iL hm;refine uR [0] [2] [vB x4] [kc (a0x _ _ cg),fF (gF y3) λhg=>a0y c_] ?_ (he:=by subst mF;kernel_rfl);refine aQ ?_;cases hm;exact bi [] bp

def Jq(s:a7)(i:Int):Option Bool:=Option.bind (wC s i) λy3=>Option.bind (cond (y3==92) (wC s (J (i+1))) (some default)) λy4=>some (cond (y3==92) (y4 !=10) false)
theorem SB(s)(i)(r)(hm:Jq s i=some r):Rt 214 [vS s,vI i] (vB r):=by
 rw[Jq]at hm;refine dh (call214 _) func214 ntmps214 λM X w=>?_;refine uO [] ?_;obtain⟨y3,cg,y4,qC,hm⟩:=pr hm;cases hm;exact uZ [] [kc (zm _ _ _ cg),fF (gT (y3==92)) λhg=>zm _ _ _ (bT (hg.1) qC)]

def SC(s:a7)(i:Int):Option Bool:=Option.bind (wC s i) λy3=>cond (cond (y3==43) true (y3==45)) (none) (Option.bind (wC s i) λy8=>cond (y8==46) (none) (Option.bind (wC s i) λlZ=>some (Jp lZ)))
theorem a7j(s)(i)(r)(hm:SC s i=some r):Rt 217 [vS s,vI i] (vB r):=by
 rw[SC]at hm;refine dh (call217 _) func217 ntmps217 λM X w=>?_;refine uO [] (az ?_);obtain⟨y3,cg,hm⟩:=ah hm;refine uA 5 (vU y3) [kc (zm _ _ _ cg)] ?_;refine su [5] [] hm ?_;intro hm;refine aq (az ?_);obtain⟨y8,kw,hm⟩:=ah hm;refine gu [kc (zm _ _ _ kw)] hm ?_;intro hm;refine aq ?_;obtain⟨lZ,Dz,hm⟩:=ah hm;cases hm;exact uZ [] [kc (zm _ _ _ Dz),kc (a0y lZ)]

def Nl(s:a7)(i:Int):Option Bool:=Option.bind (wC s i) λy3=>cond (y3==45) (none) (Option.bind (wC s i) λy6=>Option.bind (Nj y6) λy7=>Option.bind (cond y7 (some default) (Jq s i)) λy8=>some (cond y7 true y8))
theorem a0A(s)(i)(r)(hm:Nl s i=some r):Rt 216 [vS s,vI i] (vB r):=by
 rw[Nl]at hm;refine dh (call216 _) func216 ntmps216 λM X w=>?_;refine uO [] (az ?_);obtain⟨y3,cg,hm⟩:=ah hm;refine gu [kc (zm _ _ _ cg)] hm ?_;intro hm;refine aq ?_;obtain⟨y6,gK,y7,rj,hm⟩:=pr hm;obtain⟨y8,kw,hm⟩:=ah hm;cases hm;exact uZ [] [kc (zm _ _ _ gK),kc (a0x _ _ rj),fF (gF y7) λhg=>SB _ _ _ (bF (hg.1) kw)]

def SD(m:Nat)(s:a7):Nat→Int→a7→Option (a7×Int)
 |0,_,_=>none
 |kk+1,v5,v6=>aH (decide (v5<ln s)=true→0≤v5∧v5<ln s)<|Option.bind (cond (decide (v5<ln s)) (Nk (bR s v5)) (some default)) λy8=>cond (cond (decide (v5<ln s)) y8 false) (aH (0≤v5∧v5≤J (v5+1)∧J (v5+1)≤ln s)<|aH (ln v6+ln (sub s v5 (J (v5+1)))≤9223372036854775807)<|SD m s kk (J (v5+1)) (v6++(sub s v5 (J (v5+1))))) (Option.bind (cond (decide (v5<ln s)) (Jq s v5) (some default)) λgf=>cond (cond (decide (v5<ln s)) gf false) (none) (some (v6,v5)))
def Nn(m:Nat)(s:a7)(i:Int):Option (a7×Int):=SD m s m i []
theorem a0B(m)(s)(i)(r)(hm:Nn m s i=some r):Rt 215 [vS s,vI i] (vW [vS r.1,vI r.2]):=by
 rw[Nn]at hm;refine dh (call215 _) func215 ntmps215 λM X w=>?_;refine uO [] ?_;refine uA 6 vN [] (aL ?_);refine iX [] [1,6] (λv5 v6=>[vI v5,vS v6]) (λ_ _=>[]) hm (λkk v5 v6 hm=>?_);rw[SD]at hm;refine aL ?_;obtain⟨DA,y8,kw,hm⟩:=kv hm;refine uI [o1 (gT (decide (v5<ln s))) λhg=>DA hg.1,fF (gT (decide (v5<ln s))) λhg=>a0z _ _ (bT (hg.1) kw)] hm ?_ ?_;intro hm;obtain⟨dq,mG,hm⟩:=fM hm;refine uA 6 (vS (v6++(sub s v5 (J (v5+1))))) [kh dq,kh mG] ?_;exact jz [] hm;intro hm;obtain⟨gf,rk,hm⟩:=ah hm;refine gu [fF (gT (decide (v5<ln s))) λhg=>SB _ _ _ (bT (hg.1) rk)] hm ?_;intro hm;cases hm;exact uY [] []

def SE(m:Nat)(s:a7)(i:Int):Option (ct×Int):=Option.bind (Nn m s i) λy6=>Option.bind (wC s y6.2) λy9=>cond (y9 !=40) (some (ct.mk 1 y6.1 0 [] false,y6.2)) (none)
theorem a7k(m)(s)(i)(r)(hm:SE m s i=some r):Rt 219 [vS s,vI i] (.tuple ⟨[.agg ⟨e7 r.1⟩,vI r.2]⟩):=by
 rw[SE]at hm;refine dh (call219 _) func219 ntmps219 λM X w=>(aM ?_);refine uM [] [] [] (oA [vU 0,vN,vI 0,vN,vF]) λb1=>?_;refine uP 2 [] (aC ?_);obtain⟨y6,gK,hm⟩:=ah hm;refine uR [1] [6,7] [vS y6.1,vI y6.2] [kc (a0B m _ _ _ gK)] (az ?_);obtain⟨y9,oI,hm⟩:=ah hm;refine uI [kc (zm _ _ _ oI)] hm ?_ ?_;intro hm;refine aM (uB 3 [0,6,7] [20,21] [vG [vU 1,vS y6.1,vI 0,vN,vF],vI y6.2] [] ?_);refine uL [0] [] [20] (oS [vU 1,vS y6.1,vI 0,vN,vF] rfl rfl) ?_;refine uB 5 [21] [5] [vI y6.2] [] (aC (aQ ?_));cases hm;exact bi [] (lV 0 underlying161);intro hm;refine aq (az ?_);intro _ _ lz hS;exact cN hm

def Np(c_:Int):Option Int:=cond (c_==58) (none) (cond (c_==59) (some 17) (cond (c_==44) (some 18) (cond (c_==91) (none) (cond (c_==93) (none) (cond (c_==40) (none) (cond (c_==41) (none) (cond (c_==123) (some 23) (cond (c_==125) (some 24) (none)))))))))
theorem a0C(c_)(r)(hm:Np c_=some r):Rt 220 [vU c_] (vU r):=by
 rw[Np]at hm;refine dh (call220 _) func220 ntmps220 λM X w=>?_;refine uO [] (az ?_);refine uR [0] [3] [vU c_] [] (aL ?_);refine gu [] hm ?_;intro hm;refine uI [] hm ?_ ?_;intro hm;cases hm;exact uZ [] [];intro hm;refine uI [] hm ?_ ?_;intro hm;cases hm;exact uZ [] [];intro hm;refine gu [] hm ?_;intro hm;refine gu [] hm ?_;intro hm;refine gu [] hm ?_;intro hm;refine gu [] hm ?_;intro hm;refine uI [] hm ?_ ?_;intro hm;cases hm;exact uZ [] [];intro hm;refine uJ [3] [] hm ?_ ?_;intro hm;cases hm;exact uZ [] [];intro hm;refine aq ?_;intro _ _ lA hS;exact cN hm

def SG(m:Nat)(s:a7)(i:Int):Option (ct×Int):=aH (0≤i∧i<ln s)<|cond (Jo (bR s i)) (Option.bind (SA m s i) λlZ=>some (ct.mk 13 [] 0 [] false,lZ)) (lt (cond (bR s i==34) true (bR s i==39)) λnE=>cond nE (none) (aH (decide (J (i+1)<ln s)=true→(bR s i==35)=true→0≤J (i+1)∧J (i+1)<ln s)<|Option.bind (cond (bR s i==35) (cond (decide (J (i+1)<ln s)) (Nk (bR s (J (i+1)))) (some default)) (some default)) λgM=>Option.bind (cond (bR s i==35) (cond (cond (decide (J (i+1)<ln s)) gM false) (some default) (Jq s (J (i+1)))) (some default)) λoJ=>lt (cond (bR s i==35) (cond (cond (decide (J (i+1)<ln s)) gM false) true oJ) false) λj7=>cond j7 (none) (Option.bind (SC s i) λbj=>cond bj (none) (Option.bind (Jn s i [45,45,62]) λj8=>cond j8 (none) (Option.bind (Jn s i [60,33,45,45]) λrm=>cond rm (none) (Option.bind (cond (bR s i==64) (Nl s (J (i+1))) (some default)) λqD=>cond (cond (bR s i==64) qD false) (Option.bind (Nn m s (J (i+1))) λeC=>some (ct.mk 3 eC.1 0 [] false,eC.2)) (Option.bind (Nl s i) λoK=>cond oK (Option.bind (SE m s i) λrn=>some (rn.1,rn.2)) (Option.bind (Np (bR s i)) λzn=>cond (zn !=0) (Option.bind (Np (bR s i)) λNq=>some (ct.mk Nq [] 0 [] false,J (i+1))) (none)))))))))
theorem a7l(m)(s)(i)(r)(hm:SG m s i=some r):Rt 168 [vS s,vI i] (.tuple ⟨[.agg ⟨e7 r.1⟩,vI r.2]⟩):=by
 rw[SG]at hm;refine dh (call168 _) func168 ntmps168 λM X w=>(aM ?_);refine uM [] [] [] (oA [vU 0,vN,vI 0,vN,vF]) λb1=>?_;refine uP 2 [] (aC ?_);obtain⟨rp,hm⟩:=bW hm;refine uA 6 (vU (bR s i)) [kh rp] (az (aL ?_));refine uI [kc (a0v (bR s i))] hm ?_ ?_;intro hm;refine aM ?_;obtain⟨lZ,Dz,hm⟩:=ah hm;refine uB 4 [0,1,6] [17,20] [vG [vU 13,vN,vI 0,vN,vF],vI lZ] [kc (a7i m _ _ _ Dz)] ?_;refine uL [0] [] [17] (oS [vU 13,vN,vI 0,vN,vF] rfl rfl) ?_;refine uB 6 [20] [5] [vI lZ] [] (aC (aQ ?_));cases hm;exact bi [] (lV 0 underlying161);intro hm;obtain⟨nE,zl,hm⟩:=bl hm;refine gu [] hm ?_ (he:=by subst zl;kernel_rfl);intro hm;obtain⟨n7,gM,wF,hm⟩:=kv hm;obtain⟨oJ,DB,j7,tV,hm⟩:=iL hm;refine gu [o1 (decide (J (i+1)<ln s)=true∧(bR s i==35)=true∧True) λhg=>n7 hg.1 hg.2.1,fF (decide (J (i+1)<ln s)=true∧(bR s i==35)=true∧True) λhg=>a0z _ _ (bT (hg.1) (bT (hg.2.1) wF)),fF (cond (decide (J (i+1)<ln s)) gM false=false∧(bR s i==35)=true∧True) λhg=>SB _ _ _ (bF (hg.1) (bT (hg.2.1) DB))] hm ?_ (he:=by subst tV;kernel_rfl);intro hm;obtain⟨bj,wG,hm⟩:=ah hm;refine gu [kc (a7j _ _ _ wG)] hm ?_;intro hm;obtain⟨j8,DC,hm⟩:=ah hm;refine gu [kc (Sy _ _ _ _ DC)] hm ?_;intro hm;obtain⟨rm,Jr,hm⟩:=ah hm;refine gu [kc (Sy _ _ _ _ Jr)] hm ?_;intro hm;obtain⟨qD,DD,hm⟩:=ah hm;refine uI [fF (gT (bR s i==64)) λhg=>a0A _ _ _ (bT (hg.1) DD)] hm ?_ ?_;intro hm;obtain⟨eC,FY,hm⟩:=ah hm;refine uR [0,1,6] [9,10] [vS eC.1,vI eC.2] [kc (a0B m _ _ _ FY)] (aM ?_);refine uB 3 [9,10] [110,111] [vG [vU 3,vS eC.1,vI 0,vN,vF],vI eC.2] [] ?_;refine uL [0] [] [110] (oS [vU 3,vS eC.1,vI 0,vN,vF] rfl rfl) ?_;refine uB 5 [111] [5] [vI eC.2] [] (aC (aQ ?_));cases hm;exact bi [] (lV 0 underlying161);intro hm;obtain⟨oK,Js,hm⟩:=ah hm;refine uI [kc (a0A _ _ _ Js)] hm ?_ ?_;intro hm;refine aM ?_;obtain⟨rn,SI,hm⟩:=ah hm;refine uB 5 [0,1,6] [119,120] [.agg ⟨e7 rn.1⟩,vI rn.2] [kc (a7k m _ _ _ SI)] ?_;refine uL [0] [] [119] (oS (e7 rn.1) rfl rfl) ?_;refine uB 7 [120] [5] [vI rn.2] [] (aC (aQ ?_));cases hm;exact bi [] (lV 0 underlying161);intro hm;obtain⟨zn,SJ,hm⟩:=ah hm;refine uI [kc (a0C _ _ SJ)] hm ?_ ?_;intro hm;refine aM ?_;obtain⟨Nq,a7m,hm⟩:=ah hm;refine uB 5 [0,1,6] [127,129] [vG [vU Nq,vN,vI 0,vN,vF],vI (J (i+1))] [kc (a0C _ _ a7m)] ?_;refine uL [0] [] [127] (oS [vU Nq,vN,vI 0,vN,vF] rfl rfl) ?_;refine uB 7 [129] [5] [vI (J (i+1))] [] (aC (aQ ?_));cases hm;exact bi [] (lV 0 underlying161);intro hm;refine aq ?_;intro _ _ Bh hS;exact cN hm

structure sF where
  e0:Int
  e1:Int
instance:Inhabited sF:=⟨⟨default,default⟩⟩
def DE:Ty sF where
  z:=2
  enc:=λx g=>[vI x.e0,vI x.e1]
  bK:=λ_ _ _ _=>True
  len:=λ_ _=>rfl
  one:=λ_ _=>rfl
  kp:=λ_ _ _=>trivial
  bS:=λ_ _=>trivial
  fresh:=λ_=>trivial
def Nr(m:Nat)(s:a7):Nat→List ct→List sF→Int→Option ((List ct)×(List sF))
 |0,_,_,_=>none
 |kk+1,fm,bx,bZ=>cond (decide (bZ<ln s)) (Option.bind (SG m s bZ) λfo=>aH (ln fm+ln ([fo.1]:List ct)≤137438953472)<|lt (fm++([fo.1]:List ct)) λJt=>aH (ln bx+ln ([sF.mk bZ fo.2]:List sF)≤137438953472)<|lt (bx++([sF.mk bZ fo.2]:List sF)) λlB=>Option.bind (Nh m s fo.2) λmc=>Nr m s kk Jt lB mc) (some (fm,bx))
def Ns(m:Nat)(s:a7):Option ((List ct)×(List sF)):=Option.bind (Option.bind (Nh m s 0) λy8=>Nr m s m ([]:List ct) ([]:List sF) y8) λ(z7:(List ct)×(List sF))=>some (z7.1,z7.2)
theorem a7n(M:Av)(m)(s)(r)(hm:Ns m s=some r)(w:World)(hS:S0 M [] w):Calls prog 117 ⟨[vS s]⟩ w (λe w'=>∃v,e=.returned v∧∃(aG:Gh)(dT:Gh),v=vW [vL aG r.1,vL dT r.2]∧SH M (ay []) w [eO 161 dN r.1 aG,eO 256 DE r.2 dT] w'):=by
 rw[Ns]at hm;have aJ:SH M (ay []) w [] w:=hS;generalize hX:ay []=X at aJ⊢;clear hS hX;have hS:=aJ;clear aJ;refine eg func117 rfl ntmps117 rfl λ_ H=>?_;refine aN H hS (dp [0] [vS s] [] ?_);refine uA 4 vO [] ?_;refine uA 5 vO [] ?_;obtain⟨z7,hz,hm⟩:=ah hm;intro _ _ H6 hS;refine di (λa' w'=>∃(oN:Gh)(pS:Gh),Fr 36 (fS [4,5] [vL oN z7.1,vL pS z7.2]) a'∧SH M X w [eO 161 dN z7.1 oN,eO 256 DE z7.2 pS] w') ?_ ?_;replace hm:=hz;obtain⟨y8,kw,hm⟩:=ah hm;refine aN H6 hS (uA 6 (vI y8) [kc (a0u m _ _ _ kw)] (aL ?_));refine cR 161 dN ?_;refine cR 256 DE ?_;intro _ _ ve hS;refine iW (λkk a' w'=>∃(fm:List ct)(bx:List sF)(bZ:Int)(g14:Gh)(g16:Gh),Nr m s kk fm bx bZ=some _∧Fr 36 (fS [0,4,5,6] [vS s,vL g14 fm,vL g16 bx,vI bZ]) a'∧SH M X w [eO 256 DE bx g16,eO 161 dN fm g14] w') ⟨_,([]:List ct),([]:List sF),y8,Gh.nil,Gh.nil,hm,aw.aR (ks:=[0,4,5,6]) ve (by kernel_rfl),hS⟩ ?_;clear hm ve hS;rintro kk _ _ ⟨fm,bx,bZ,g14,g16,hm,H,hS⟩;cases kk with
 |zero=>exact cN hm
 |succ kk=>
  rw[Nr]at hm;refine aN H hS (az (uI [] hm ?_ ?_));intro hm;refine aq (aL (aM ?_));obtain⟨fo,tW,hm⟩:=ah hm;refine uB 6 [] [19,20] [.agg ⟨e7 fo.1⟩,vI fo.2] [kc (a7l m _ _ _ tW)] ?_;refine uM [] [0,1] [] (oA [vU 0,vN,vI 0,vN,vF]) λNt=>?_;refine uL [0] [1,2] [19] (oS (e7 fo.1) rfl rfl) ?_;refine uB 9 [20] [8] [vI fo.2] [] (aC (aM ?_));refine uB 2 [4,7] [21,22] [vL g14 fm,.agg ⟨e7 fo.1⟩] [kE 0 5] ?_;refine uM [] [0,1,2] [22] (oL dN 161 (vG [vU 0,vN,vI 0,vN,vF]) [fo.1] [gL []] (λ_=>bd.cons trivial bd.nil) rfl) λfb=>?_;obtain⟨vf,Jt,a7o,hm⟩:=cv hm;refine eA [3,0] [1,2] [0,5,6,8] [vS s,vL g16 bx,vI bZ,vI fo.2] (oP dN (vG [vU 0,vN,vI 0,vN,vF]) g14 fb a7o vf rfl rfl) λig=>?_;refine uB 8 [5,6] [24,25,28] [vL ig Jt,vL g16 bx,vG [vI bZ,vI fo.2]] [] ?_;refine uM [] [0,1,2,3] [28] (oL DE 256 (vG [vI 0,vI 0]) [sF.mk bZ fo.2] [gL []] (λ_=>bd.cons trivial bd.nil) rfl) λrq=>?_;obtain⟨SK,lB,DF,hm⟩:=cv hm;refine uM [4,0] [1,2,3] [25,29] (oP DE (vG [vI 0,vI 0]) g16 rq DF SK rfl rfl) λxV=>?_;refine uB 12 [24,30] [4,5] [vL ig Jt,vL xV lB] [] (aC (aB [0,2] ?_));obtain⟨mc,DG,hm⟩:=ah hm;refine uW [8] [6] [vI mc] [kc (a0u m _ _ _ DG)] ?_;exact λ_ _ vg hS=>⟨_,Nat.lt_succ_self _,Jt,lB,mc,ig,xV,hm,aw.aR (ks:=[0,4,5,6]) vg (by kernel_rfl),hS⟩;intro hm;refine bn ?_;cases hm;refine aB [1,0] ?_;exact λ_ _ DH hS=>⟨g14,g16,aw.aR (ks:=[4,5]) DH (by kernel_rfl),hS⟩
 rintro _ _ ⟨oN,pS,H,hS⟩;refine aN H hS (dp [2,3] [vL oN z7.1,vL pS z7.2] [] (aQ ?_));cases hm;exact λ_ _ tX hS=>pM tX rfl rfl rfl ⟨_,rfl,oN,pS,rfl,hS.aV [0,1] rfl⟩
theorem a7p(m)(s)(r)(hm:Ns m s=some r)(M:Av)(w:World)(hS:S0 M [] w):eZ prog 117 ⟨[vS s]⟩ w (λv w'=>∃(aG:Gh)(dT:Gh),v=vW [vL aG r.1,vL dT r.2]∧SH M (ay []) w [eO 161 dN r.1 aG,eO 256 DE r.2 dT] w'):=⟨call117 _,a7n M m s r hm w hS⟩

def SL(m:Nat)(s:a7):Option ((List ct)×Int):=Option.bind (Sx m s) λy3=>cond (y3.2 !=0) (none) (Option.bind (Ns m y3.1) λcK=>cond (decide (1500<ln cK.1)) (none) (some (cK.1,0)))
theorem a7q(m)(s)(r)(hm:SL m s=some r):Dm 76 [vS s] [] (λ(aG:Gh)=>vW [vL aG r.1,vI r.2]) (λaG=>[eO 161 dN r.1 aG]):=by
 rw[SL]at hm;refine gI (call76 _) func76 ntmps76 λM X w=>?_;refine uO [] ?_;obtain⟨y3,cg,hm⟩:=ah hm;refine uR [0] [4,5] [vS y3.1,vI y3.2] [kc (a7h m _ _ cg)] (az ?_);refine gu [] hm ?_;intro hm;refine aq (aM (uB 1 [4,5] [17] [vS y3.1] [] ?_));obtain⟨cK,nF,hm⟩:=ah hm;intro _ _ H9 hS;have hd:=hS.hand [] [] rfl rfl;refine gn [18] [] H9 rfl rfl rfl rfl (dw H9 rfl rfl (a7p m _ _ nF _ _ hd)) (λ_=>rfl) λ_ _ v kU hq=>?_;obtain⟨g11,g13,rfl,hq⟩:=hq;replace hS:=hS.join [] [] rfl rfl hq;refine aN kU hS (fG 7 [6] [vL g11 cK.1] [] (aC (aB [0] (az ?_))));refine gu [] hm ?_;intro hm;refine aq (uR [6] [2,3] [vL g11 cK.1,vI 0] [] (aQ ?_));cases hm;exact de g11 [0] fa

def pT(cz:Int):Int:=cond (cz==19) (20) (lt (cond (cz==21) (cz==21) (cz==2)) λ(z9:Bool)=>cond z9 (22) (cond (cz==23) (24) (0)))
theorem SM(cz:Int):Rt 83 [vU cz] (vU (pT cz)):=by
 generalize hm:pT cz=r;rw[pT]at hm;refine dh (call83 _) func83 ntmps83 λM X w=>?_;refine uO [] (az ?_);refine uR [0] [3] [vU cz] [] (aL ?_);refine uA 4 (vB (cz==19)) [] ?_;refine uC hm ?_ ?_;intro hm;refine uR [3,4] [2] [vU 20] [] (aQ ?_);subst hm;exact bi [] bp;intro hm;obtain⟨z9,hz,hm⟩:=bl hm;refine uK [4] [6] [vB z9] [] ?_ ?_;replace hm:=hz.symm;refine uR [4] [6] [vB (cz==21)] [] ?_;refine uC hm ?_ ?_;intro hm;refine aq ?_;subst hm;exact te;intro hm;refine uV 6 (vB (cz==2)) [] ?_;subst hm;exact te;refine qB (λhc=>?c24) (λhc=>?_)
 case c24=>
  replace hm:=bT hc hm;refine uR [3,6] [2] [vU 22] [] (aQ ?_);subst hm;exact bi [] bp
 replace hm:=bF hc hm;refine uJ [3,6] [] hm ?_ ?_;intro hm;refine uA 2 (vU 24) [] (aQ ?_);subst hm;exact bi [] bp;intro hm;refine aq (uA 2 (vU 0) [] (aQ ?_));subst hm;exact bi [] bp

def a7r(eG:(List ct)→Int→Int→Int→Option ((List ax)×Int)):Prop:=∀(a6:Gh)(M:Av)(l_:List ct)(i:Int)(n8:Int)(left:Int)(r:(List ax)×Int),eG l_ i n8 left=some r→∀w,S0 M [eI dN l_ a6] w→Calls prog 169 ⟨[vL a6 l_,vI i,vU n8,vI left]⟩ w (λe w'=>∃v,e=.returned v∧∃(aG:Gh),v=vW [vL aG r.1,vI r.2]∧SH M (ay [eI dN l_ a6]) w [eO 163 aa r.1 aG] w')
def SN(m:Nat)(l_:List ct)(n8:Int)(left:Int)(a0D:(List ct)→Int→Int→Int→Option ((List ax)×Int)):Nat→Int→List ax→Option (Int×(List ax))
 |0,_,_=>none
 |kk+1,v7,v8=>aH ((n8==0)=false→decide (v7<ln l_)=true→0≤v7∧v7<ln l_)<|lt (cond (decide (v7<ln l_)) (cond (n8==0) true ((gi l_ v7).an !=n8)) false) λfN=>cond fN (aH (0≤v7∧v7<ln l_)<|Option.bind (cond (pT (gi l_ v7).an !=0) (cond (left==0) (none) (Option.bind (a0D l_ (J (v7+1)) (pT (gi l_ v7).an) (J (left-1))) λrm=>cond (decide (rm.2<0)) (none) (some (rm.2,rm.1)))) (some (J (v7+1),([]:List ax)))) λ(z24:Int×(List ax))=>aH (ln v8+ln ([ax.mk (gi l_ v7) z24.2]:List ax)≤137438953472)<|lt (v8++([ax.mk (gi l_ v7) z24.2]:List ax)) λDJ=>SN m l_ n8 left a0D kk z24.1 DJ) (some (v7,v8))
def Nu(m:Nat):Nat→List ct→Int→Int→Int→Option ((List ax)×Int)
 |0,_,_,_,_=>none
 |k+1,l_,i,n8,left=>Option.bind (SN m l_ n8 left (Nu m k) m i ([]:List ax)) λ(z5:Int×(List ax))=>lt (if J (z5.1+1)<ln l_ then J (z5.1+1)else ln l_) λtY=>some (z5.2,tY)
theorem a7s(m:Nat):∀(k:Nat),a7r (Nu m k):=by
 intro k
 induction k with
 |zero=>intro a6 M l_ i n8 left r hm;exact cN hm
 |succ k ih=>
  intro a6 M l_ i n8 left r hm w hS;rw[Nu]at hm;have aJ:SH M (ay [eI dN l_ a6]) w [eI dN l_ a6] w:=hS;generalize hX:ay [eI dN l_ a6]=X at aJ⊢;clear hS hX;have hS:=aJ;clear aJ;refine eg func169 rfl ntmps169 rfl λ_ H=>?_;refine aN H hS (dp [0,1,2,3] [vL a6 l_,vI i,vU n8,vI left] [] ?_);refine uA 10 vO [] ?_;obtain⟨z5,hz,hm⟩:=ah hm;refine gv [2,3] [1,10] (λ(iE:Gh)=>[vI z5.1,vL iE z5.2]) (λiE=>[eO 163 aa z5.2 iE,eI dN l_ a6]) ?_ ?_;replace hm:=hz;refine aL (cR 163 aa ?_);refine mw [] [1,10] (λv7 v8 g9=>[vI v7,vL g9 v8]) (λ_ v8 g9=>[eO 163 aa v8 g9,eI dN l_ a6]) Gh.nil hm (λkk v7 v8 g9 hm=>?_);rw[SN]at hm;refine az ?_;obtain⟨rr,fN,oO,hm⟩:=cv hm;refine uI [ku ((n8==0)=false∧decide (v7<ln l_)=true∧True) 1 λhg=>rr hg.1 hg.2.1,mv ((n8==0)=false∧decide (v7<ln l_)=true∧True) 1 0 λhg=>rr hg.1 hg.2.1] hm ?_ ?_ (he:=by subst oO;kernel_rfl);intro hm;refine aq (aL (aM ?_));obtain⟨fc,hm⟩:=bW hm;refine uB 5 [] [34] [vG [vU (gi l_ v7).an,vS (gi l_ v7).db,vI (gi l_ v7).cU,vS (gi l_ v7).Unit,vB (gi l_ v7).mE,vO]] [ki 1 fc,⟨some (.agg ⟨e7 (gi l_ v7)⟩),λwz=>V.bV (ab a6.a) (ao a6.a+v7.toNat*5) (e7 (gi l_ v7)) 0 wz,λ_ hS=>(hS.im 1 rfl).ef fc 0 rfl⟩] ?_;refine uM [] [0,1] [] (oA [vU 0,vN,vI 0,vN,vF,vO]) λgN=>?_;refine uL [0] [1,2] [34] (oS [vU (gi l_ v7).an,vS (gi l_ v7).db,vI (gi l_ v7).cU,vS (gi l_ v7).Unit,vB (gi l_ v7).mE,vO] rfl rfl) (aC ?_);refine uR [] [0,1,2,3,10,11] [vL a6 l_,vI (J (v7+1)),vU n8,vI left,vL g9 v8,vP gN] [] ?_;obtain⟨z24,hz,hm⟩:=ah hm;refine gv [] [1] (λ(xW:Gh)=>[vI z24.1]) (λxW=>[eO 163 aa z24.2 xW,eB gN [vU (gi l_ v7).an,vS (gi l_ v7).db,vI (gi l_ v7).cU,vS (gi l_ v7).Unit,vB (gi l_ v7).mE,vL xW z24.2],eO 163 aa v8 g9,eI dN l_ a6]) ?_ ?_;replace hm:=hz;refine uA 12 (vU (pT (gi l_ v7).an)) [kb 0 0,kc (SM (gi l_ v7).an)] ?_;refine uI [] hm ?_ ?_;intro hm;refine az (gu [] hm ?_);intro hm;refine aq (aM (uB 5 [1,12] [46,47,48,50] [vL a6 l_,vI (J (v7+1)),vU (pT (gi l_ v7).an),vI (J (left-1))] [] ?_));obtain⟨rm,Jr,hm⟩:=ah hm;refine uM [2] [0,1,2] [46,47,48,50] (λ_ _ lC hd=>dw lC rfl rfl (⟨call169 _,ih a6 _ _ _ _ _ _ Jr _ hd⟩:eZ _ _ _ _ _)) λo6=>?_;refine uB 10 [51] [52,53,54] [vL o6 rm.1,vI rm.2,vA gN 5] [] ?_;refine uL [1] [0,2,3] [52,54] (oS [vU (gi l_ v7).an,vS (gi l_ v7).db,vI (gi l_ v7).cU,vS (gi l_ v7).Unit,vB (gi l_ v7).mE,vL o6 rm.1] rfl rfl) ?_;refine uB 12 [53] [0,1,2,3,10,11] [vL a6 l_,vI rm.2,vU n8,vI left,vL g9 v8,vP gN] [] (aC ?_);refine gu [] hm ?_;intro hm;refine aq ?_;cases hm;refine aB [1,0,2,3] ?_;exact tg o6;intro hm;refine aq ?_;cases hm;refine cR 163 aa ?_;exact tg Gh.nil;intro xW;refine dB (uB 2 [10,11] [57,58] [vL g9 v8,vG [vU (gi l_ v7).an,vS (gi l_ v7).db,vI (gi l_ v7).cU,vS (gi l_ v7).Unit,vB (gi l_ v7).mE,vL xW z24.2]] [kE 1 6] ?_);refine jI [0,1,2,3] ?_;refine uM [0] [0,1,2,3] [58] (oL aa 163 (vG [vU 0,vN,vI 0,vN,vF,vO]) [ax.mk (gi l_ v7) z24.2] [gL [xW]] (λhd=>bd.cons (Ji (hd.im 0 rfl)) bd.nil) rfl) λkV=>?_;obtain⟨Bi,DJ,SO,hm⟩:=cv hm;refine uM [3,0] [1,2,4] [57,59] (oP aa (vG [vU 0,vN,vI 0,vN,vF,vO]) g9 kV SO Bi rfl rfl) λNv=>?_;refine uB 5 [60] [10] [vL Nv DJ] [] (aC (aB [0,4] ?_));exact uH Nv hm;intro hm;refine bn ?_;cases hm;exact tg g9;intro iE;obtain⟨tY,Ju,hm⟩:=bl hm;refine uR [0,1,10] [8,9] [vL iE z5.2,vI tY] [] ?_ (he:=by subst Ju;kernel_rfl);refine aB [0] (aQ ?_);cases hm;exact de iE [0] fa
def a0E(m:Nat)(l_:List ct)(i:Int)(n8:Int)(left:Int):Option ((List ax)×Int):=Nu m m l_ i n8 left
theorem a7t{a6:Gh}(m)(l_)(i)(n8)(left)(r)(hm:a0E m l_ i n8 left=some r)(M:Av)(w:World)(hS:S0 M [eI dN l_ a6] w):eZ prog 169 ⟨[vL a6 l_,vI i,vU n8,vI left]⟩ w (λv w'=>∃(aG:Gh),v=vW [vL aG r.1,vI r.2]∧SH M (ay [eI dN l_ a6]) w [eO 163 aa r.1 aG] w'):=⟨call169 _,a7s m m a6 M l_ i n8 left r hm w hS⟩

def SP(m:Nat)(l_:List ct):Option ((List ax)×Bool):=Option.bind (a0E m l_ 0 0 16) λy5=>some (y5.1,decide (0≤y5.2))
theorem a7u{a6:Gh}(m)(l_)(r)(hm:SP m l_=some r):Dm 118 [vL a6 l_] [eI dN l_ a6] (λ(aG:Gh)=>vW [vL aG r.1,vB r.2]) (λaG=>[eO 163 aa r.1 aG]):=by
 rw[SP]at hm;refine gI (call118 _) func118 ntmps118 λM X w=>?_;refine uO [] (aM ?_);refine uB 1 [0] [7] [vL a6 l_] [] ?_;obtain⟨y5,iN,hm⟩:=ah hm;refine uQ [0] [0] [7] (a7t (a6:=a6) m _ _ _ _ _ iN) λg6=>?_;refine uB 7 [8] [4,5] [vL g6 y5.1,vI y5.2] [] (aC (aB [0] ?_));refine uR [4,5] [2,3] [vL g6 y5.1,vB (decide (0≤y5.2))] [] (aQ ?_);cases hm;exact de g6 [0] fa

def a7v(eG:(List ax)→Option (List ct)):Prop:=∀(al:Gh)(M:Av)(v_:List ax)(r:List ct),eG v_=some r→∀w,S0 M [eI aa v_ al] w→Calls prog 119 ⟨[vL al v_]⟩ w (λe w'=>∃v,e=.returned v∧∃(aG:Gh),v=vL aG r∧SH M (ay [eI aa v_ al]) w [eO 161 dN r aG] w')
def SQ(m:Nat)(v_:List ax)(a0F:(List ax)→Option (List ct)):Nat→List ct→Int→Option (List ct)
 |0,_,_=>none
 |kk+1,v9,v11=>cond (decide (v11<ln v_)) (Option.bind (aH (0≤v11∧v11<ln v_)<|aH (ln v9+ln ([(gi v_ v11).aY]:List ct)≤137438953472)<|lt (v9++([(gi v_ v11).aY]:List ct)) λFZ=>lt (pT (gi v_ v11).aY.an !=0) λnG=>cond nG (Option.bind (a0F (gi v_ v11).ae) λiY=>aH (ln FZ+ln iY≤137438953472)<|lt (FZ++iY) λJv=>aH (ln Jv+ln ([ct.mk (pT (gi v_ v11).aY.an) [] 0 [] false]:List ct)≤137438953472)<|lt (Jv++([ct.mk (pT (gi v_ v11).aY.an) [] 0 [] false]:List ct)) λxX=>some xX) (some FZ)) λ(iO:List ct)=>SQ m v_ a0F kk iO (J (v11+1))) (some v9)
def Nw(m:Nat):Nat→List ax→Option (List ct)
 |0,_=>none
 |k+1,v_=>Option.bind (SQ m v_ (Nw m k) m ([]:List ct) 0) λ(z5:List ct)=>some z5
theorem a7w(m:Nat):∀(k:Nat),a7v (Nw m k):=by
 intro k
 induction k with
 |zero=>intro al M v_ r hm;exact cN hm
 |succ k ih=>
  intro al M v_ r hm w hS;rw[Nw]at hm;have aJ:SH M (ay [eI aa v_ al]) w [eI aa v_ al] w:=hS;generalize hX:ay [eI aa v_ al]=X at aJ⊢;clear hS hX;have hS:=aJ;clear aJ;refine eg func119 rfl ntmps119 rfl λ_ H=>?_;refine aN H hS (dp [0] [vL al v_] [] ?_);refine uA 3 vO [] ?_;obtain⟨z5,hz,hm⟩:=ah hm;refine gv [0] [3] (λ(j9:Gh)=>[vL j9 z5]) (λj9=>[eO 161 dN z5 j9,eI aa v_ al]) ?_ ?_;replace hm:=hz;refine uA 4 (vI 0) [] (aL ?_);refine cR 161 dN ?_;refine mw [] [3,4] (λv9 v11 g10=>[vL g10 v9,vI v11]) (λv9 _ g10=>[eO 161 dN v9 g10,eI aa v_ al]) Gh.nil hm (λkk v9 v11 g10 hm=>?_);rw[SQ]at hm;refine az (uI [] hm ?_ ?_);intro hm;refine aq ?_;obtain⟨iO,hz,hm⟩:=ah hm;refine gv [] [3] (λ(qE:Gh)=>[vL qE iO]) (λqE=>[eO 161 dN iO qE,eI aa v_ al]) ?_ ?_;replace hm:=hz;refine aL (aM ?_);obtain⟨iP,hm⟩:=bW hm;refine uB 6 [3] [12,17] [vL g10 v9,.agg ⟨e7 (gi v_ v11).aY⟩] [ki 1 iP,⟨some (.agg ⟨e7 (gi v_ v11).aY⟩),λwz=>V.bV (ab al.a) (ao al.a+v11.toNat*6) (e7 (gi v_ v11).aY) 0 wz,λ_ hS=>(hS.im 1 rfl).ef iP 0 rfl⟩] ?_;refine eA [] [0,1] [0,4,12] [vL al v_,vI v11,vL g10 v9] (oL dN 161 (vG [vU 0,vN,vI 0,vN,vF]) [(gi v_ v11).aY] [gL []] (λ_=>bd.cons trivial bd.nil) rfl) λg18=>?_;obtain⟨jn,FZ,a7x,hm⟩:=cv hm;refine uM [1,0] [2] [12,18] (oP dN (vG [vU 0,vN,vI 0,vN,vF]) g10 g18 a7x jn rfl rfl) λlD=>?_;refine uB 9 [19] [3] [vL lD FZ] [] (aC (aB [0,2] ?_));refine uA 5 (vU (pT (gi v_ v11).aY.an)) [ki 1 iP,kj 1 0 iP,kc (SM (gi v_ v11).aY.an)] ?_;obtain⟨nG,DK,hm⟩:=bl hm;refine uI [] hm ?_ ?_ (he:=by subst DK;kernel_rfl);intro hm;refine aM (uB 6 [3] [29,34] [vL lD FZ,.slice (al.s v11.toNat 0).a (gi v_ v11).ae.length (al.s v11.toNat 0).c] [ki 1 iP,kj 1 5 iP] ?_);intro _ _ sG hS;replace hS:=hS.fl (sD ((hS.im 1 rfl).el iP));obtain⟨iY,DL,hm⟩:=ah hm;refine aN sG hS (uM [0] [0,1,2] [34] (λ_ _ sG hd=>dw sG rfl rfl (⟨call119 _,ih (al.s v11.toNat 0) _ _ _ DL _ hd⟩:eZ _ _ _ _ _)) λoQ=>?_);obtain⟨ru,Jv,a7y,hm⟩:=cv hm;refine uM [2,0] [1,3] [29,35] (oP dN (vG [vU 0,vN,vI 0,vN,vF]) lD oQ a7y ru rfl rfl) λlE=>?_;refine uB 9 [36] [0,3,4,5] [vL al v_,vL lE Jv,vI v11,vU (pT (gi v_ v11).aY.an)] [] (aC (aB [0,3] (dB ?_)));refine uB 3 [3,5] [37,39] [vL lE Jv,vG [vU (pT (gi v_ v11).aY.an),vN,vI 0,vN,vF]] [] ?_;refine uM [] [0,1] [39] (oL dN 161 (vG [vU 0,vN,vI 0,vN,vF]) [ct.mk (pT (gi v_ v11).aY.an) [] 0 [] false] [gL []] (λ_=>bd.cons trivial bd.nil) rfl) λxV=>?_;obtain⟨SR,xX,Jw,hm⟩:=cv hm;refine uM [1,0] [2] [37,40] (oP dN (vG [vU 0,vN,vI 0,vN,vF]) lE xV Jw SR rfl rfl) λoN=>?_;refine uB 6 [41] [3] [vL oN xX] [] (aC (aB [0,2] ?_));cases hm;exact tg oN;intro hm;refine aq ?_;cases hm;exact tg lD;intro qE;exact wy [] qE hm;intro hm;refine bn ?_;cases hm;exact tg g10;intro j9;refine aB [0] ?_;refine uR [3] [2] [vL j9 z5] [] (aQ ?_);cases hm;exact de j9 [0] bp
def a0G(m:Nat)(v_:List ax):Option (List ct):=Nw m m v_
theorem a7z{al:Gh}(m)(v_)(r)(hm:a0G m v_=some r)(M:Av)(w:World)(hS:S0 M [eI aa v_ al] w):eZ prog 119 ⟨[vL al v_]⟩ w (λv w'=>∃(aG:Gh),v=vL aG r∧SH M (ay [eI aa v_ al]) w [eO 161 dN r aG] w'):=⟨call119 _,a7w m m al M v_ r hm w hS⟩

def SS(m:Nat)(l_:List ct):Option ((List ax)×Int):=cond (decide (1500<ln l_)) (none) (Option.bind (SP m l_) λy7=>cond (!y7.2) (none) (Option.bind (a0G m y7.1) λgY=>cond (decide (1500<ln gY)) (none) (some (y7.1,0))))
theorem a7A{a6:Gh}(m)(l_)(r)(hm:SS m l_=some r):Dm 77 [vL a6 l_] [eI dN l_ a6] (λ(aG:Gh)=>vW [vL aG r.1,vI r.2]) (λaG=>[eO 163 aa r.1 aG]):=by
 rw[SS]at hm;refine gI (call77 _) func77 ntmps77 λM X w=>?_;refine uO [] (az ?_);refine gu [] hm ?_;intro hm;refine aq (aM (uB 1 [0] [10] [vL a6 l_] [] ?_));obtain⟨y7,rj,hm⟩:=ah hm;refine uQ [0] [0] [10] (a7u (a6:=a6) m _ _ rj) λg8=>?_;refine uB 7 [11] [4,5] [vL g8 y7.1,vB y7.2] [] (aC (aB [0] (az ?_)));refine su [5] [] hm ?_;intro hm;refine aq (az (aM (uB 1 [] [16] [vL g8 y7.1] [] ?_)));obtain⟨gY,zo,hm⟩:=ah hm;refine aB [0] ?_;intro _ _ wH hS;have hd:=SH.a5u hS;refine gn [17,4] [(4,[],vL g8 y7.1)] wH rfl rfl rfl rfl (dw wH rfl rfl (a7z (al:=g8) m _ _ zo _ _ hd)) (λ_=>rfl) λ_ _ v lF hq=>?_;obtain⟨g19,rfl,hq⟩:=hq;replace hS:SH M _ w [eO 161 dN gY g19,eO 163 aa y7.1 g8] _:=SH.a5v hS hq (a5x (a5w (λ_ _ _ _ _ h=>h) _ _));refine aN lF hS (fG 4 [4,19] [vL g8 y7.1,vB (decide (1500<ln gY))] [] (aC (aB [1] ?_)));refine Dn hm ?_;intro hm;refine aq (uR [4,19] [2,3] [vL g8 y7.1,vI 0] [] (aQ ?_));cases hm;exact de g8 [0] fa

def SU(m:Nat)(s:a7):Option ((List ax)×Int):=Option.bind (SL m s) λy5=>cond (y5.2 !=0) (none) (Option.bind (SS m y5.1) λc9=>some (c9.1,c9.2))
theorem a7B(m)(s)(r)(hm:SU m s=some r):Dm 50 [vS s] [] (λ(aG:Gh)=>vW [vL aG r.1,vI r.2]) (λaG=>[eO 163 aa r.1 aG]):=by
 rw[SU]at hm;refine gI (call50 _) func50 ntmps50 λM X w=>?_;refine uO [] (aM ?_);refine uB 1 [0] [7] [vS s] [] ?_;obtain⟨y5,iN,hm⟩:=ah hm;refine uQ [] [] [7] (a7q m _ _ iN) λg6=>?_;refine uB 7 [8] [4,5] [vL g6 y5.1,vI y5.2] [] (aC (az ?_));refine gu [] hm ?_;intro hm;refine aq (aM (uB 1 [4,5] [14] [vL g6 y5.1] [] ?_));refine jI [0] ?_;obtain⟨c9,pU,hm⟩:=ah hm;refine uQ [0] [0] [14] (a7A (a6:=g6) m _ _ pU) λg17=>?_;refine uB 6 [15] [2,3] [vL g17 c9.1,vI c9.2] [] (aC (aB [0] (aQ ?_)));cases hm;exact de g17 [0] fa

def Nx(k_:Int)(top:Bool):Bool:=lt (cond (k_==13) true (cond top (cond (k_==14) true (k_==15)) false)) λx3=>x3
theorem a7C(k_:Int)(top:Bool):Rt 120 [vU k_,vB top] (vB (Nx k_ top)):=by
 generalize hm:Nx k_ top=r;rw[Nx]at hm;refine dh (call120 _) func120 ntmps120 λM X w=>?_;refine uO [] ?_;obtain⟨x3,iD,hm⟩:=bl hm;refine uR [0,1] [4] [vB x3] [] ?_ (he:=by subst iD;kernel_rfl);refine aQ ?_;subst hm;exact bi [] bp

structure oR where
  At:a7
  jo:List ax
  lG:List ax
  G0:Bool
instance:Inhabited oR:=⟨⟨default,default,default,default⟩⟩
def pu:Ty oR where
  z:=4
  enc:=λx g=>[vS x.At,.slice (g 0).a x.jo.length (g 0).c,.slice (g 1).a x.lG.length (g 1).c,vB x.G0]
  bK:=λM w x g=>aP aa M w x.jo (g 0)∧aP aa M w x.lG (g 1)∧True
  len:=λ_ _=>rfl
  one:=λ_ _=>rfl
  kp:=λh k hX=>⟨h.1.kp k hX,h.2.1.kp k hX,trivial⟩
  bS:=λh hM=>⟨h.1.bS hM,h.2.1.bS hM,trivial⟩
  fresh:=λh=>⟨h.1.fresh,h.2.1.fresh,trivial⟩
def xY(x:oR)(g:Nat→Gh):List Value:=pu.enc x g
theorem a7D{M:Av}{w:World}{x:oR}{g:Nat→Gh}(h:pu.bK M w x g):aP aa M w x.jo (g 0):=(show aP aa M w x.jo (g 0)∧aP aa M w x.lG (g 1)∧True from h).1
theorem a0H{M:Av}{w:World}{x:oR}{g:Nat→Gh}(h:pu.bK M w x g):aP aa M w x.lG (g 1):=(show aP aa M w x.jo (g 0)∧aP aa M w x.lG (g 1)∧True from h).2.1
theorem a7E{M:Av}{w:World}{x:oR}{g:Nat→Gh}(h0:aP aa M w x.jo (g 0))(h1:aP aa M w x.lG (g 1)):pu.bK M w x g:=show aP aa M w x.jo (g 0)∧aP aa M w x.lG (g 1)∧True from⟨h0,h1,trivial⟩
def SV(m:Nat)(v_:List ax)(v11:Int):Nat→Int→Option Int
 |0,_=>none
 |kk+1,cX=>aH (decide (cX<ln v_)=true→0≤cX∧cX<ln v_)<|lt (cond (decide (cX<ln v_)) ((gi v_ cX).aY.an !=23) false) λmH=>aH ((!((gi v_ v11).aY.an==3))=false→mH=true→0≤cX∧cX<ln v_)<|lt (cond mH (cond (!((gi v_ v11).aY.an==3)) true ((gi v_ cX).aY.an !=17)) false) λoT=>cond oT (SV m v_ v11 kk (J (cX+1))) (some cX)
def Ny(m:Nat)(v_:List ax)(top:Bool):Nat→List oR→Int→Option (List oR)
 |0,_,_=>none
 |kk+1,v9,v11=>cond (decide (v11<ln v_)) (aH (0≤v11∧v11<ln v_)<|lt (Nx (gi v_ v11).aY.an top) λpV=>cond pV (Ny m v_ top kk v9 (J (v11+1))) (Option.bind (cond ((gi v_ v11).aY.an==3) (some (J (v11+1),(gi v_ v11).aY.db)) (some (v11,[]))) λ(z25:Int×a7)=>Option.bind (SV m v_ v11 m z25.1) λ(z37:Int)=>aH (0≤z25.1∧z25.1≤z37∧z37≤ln v_)<|lt (fE v_ z25.1 z37) λiQ=>Option.bind (aH (decide (z37<ln v_)=true→0≤z37∧z37<ln v_)<|lt (cond (decide (z37<ln v_)) ((gi v_ z37).aY.an==23) false) λzp=>cond zp (aH (0≤z37∧z37<ln v_)<|some ((gi v_ z37).ae,true)) (some (([]:List ax),false))) λ(ij:(List ax)×Bool)=>aH (ln v9+ln ([oR.mk z25.2 iQ ij.1 ij.2]:List oR)≤137438953472)<|lt (v9++([oR.mk z25.2 iQ ij.1 ij.2]:List oR)) λxZ=>Ny m v_ top kk xZ (J (z37+1)))) (some v9)
def SW(m:Nat)(v_:List ax)(top:Bool):Option (List oR):=Option.bind (Ny m v_ top m ([]:List oR) 0) λ(z5:List oR)=>some z5
theorem a7F{al:Gh}(m)(v_)(top)(r)(hm:SW m v_ top=some r):Dm 78 [vL al v_,vB top] [eI aa v_ al] (λ(aG:Gh)=>vL aG r) (λaG=>[eO 145 pu r aG]):=by
 rw[SW]at hm;refine gI (call78 _) func78 ntmps78 λM X w=>?_;refine uO [] ?_;refine uA 5 vO [] ?_;obtain⟨z5,hz,hm⟩:=ah hm;refine gv [0,1] [5] (λ(G1:Gh)=>[vL G1 z5]) (λG1=>[eO 145 pu z5 G1,eI aa v_ al]) ?_ ?_;replace hm:=hz;refine uA 6 (vI 0) [] (aL ?_);refine cR 145 pu ?_;refine mw [] [5,6] (λv9 v11 g10=>[vL g10 v9,vI v11]) (λv9 _ g10=>[eO 145 pu v9 g10,eI aa v_ al]) Gh.nil hm (λkk v9 v11 g10 hm=>?_);rw[Ny]at hm;refine az (uI [] hm ?_ ?_);intro hm;refine aq (aL (az ?_));obtain⟨fc,pV,DM,hm⟩:=cv hm;refine uI [ki 1 fc,kj 1 0 fc,kc (a7C (gi v_ v11).aY.an top)] hm ?_ ?_ (he:=by subst DM;kernel_rfl);intro hm;refine uA 6 (vI (J (v11+1))) [] ?_;refine bn ?_;exact uH g10 hm;intro hm;refine aq (aM (uM [] [0,1] [] (oA [vN,vO,vO,vF]) λkz=>(aC ?_)));refine uR [] [7,8] [vP kz,vB ((gi v_ v11).aY.an==3)] [ki 2 fc,kj 2 0 fc] ?_;obtain⟨z25,hz,hm⟩:=ah hm;refine uK [] [0,1,5,7,8,6] [vL al v_,vB top,vL g10 v9,vP kz,vB ((gi v_ v11).aY.an==3),vI z25.1] [eB kz [vS z25.2,vO,vO,vF],eO 145 pu v9 g10,eI aa v_ al] ?_ ?_;replace hm:=hz;refine uI [] hm ?_ ?_;intro hm;refine aM (uB 7 [] [37,38] [vS (gi v_ v11).aY.db,vP kz] [ki 2 fc,kj 2 1 fc] ?_);refine uL [0] [1,2] [37,38] (oS [vS (gi v_ v11).aY.db,vO,vO,vF] rfl rfl) (aC ?_);refine uV 6 (vI (J (v11+1))) [] ?_;cases hm;exact te;intro hm;refine aq ?_;cases hm;exact te;refine uA 9 (vI z25.1) [] ?_;obtain⟨z37,hz,hm⟩:=ah hm;refine uK [8] [6] [vI z37] [eB kz [vS z25.2,vO,vO,vF],eO 145 pu v9 g10,eI aa v_ al] ?_ ?_;replace hm:=hz;refine aL (eQ [] [6] (λcX=>[vI cX]) (λ_=>[eB kz [vS z25.2,vO,vO,vF],eO 145 pu v9 g10,eI aa v_ al]) hm (λkk cX hm=>?_));rw[SV]at hm;refine az ?_;obtain⟨pW,mH,wI,hm⟩:=cv hm;obtain⟨pX,oT,DN,hm⟩:=cv hm;refine uI [ku (gT (decide (cX<ln v_))) 2 λhg=>pW hg.1,mv (gT (decide (cX<ln v_))) 2 0 λhg=>pW hg.1,ku ((!((gi v_ v11).aY.an==3))=false∧mH=true∧True) 2 λhg=>pX hg.1 hg.2.1,mv ((!((gi v_ v11).aY.an==3))=false∧mH=true∧True) 2 0 λhg=>pX hg.1 hg.2.1] hm ?_ ?_ (he:=by subst wI DN;kernel_rfl);intro hm;exact aq (aL (gw [] hm));intro hm;refine bn ?_;cases hm;exact te;refine aM (uB 3 [9] [70,71,72] [vL al v_,vI z25.1,vI z37] [] ?_);obtain⟨DO,iQ,SX,hm⟩:=cv hm;refine uM [2] [0,1,2] [70,71,72] (λ_ _ DP hd=>xL (T:=aa) (E:=163) (g:=al) (q:=v_) z25.1 z37 (.some (vI z25.1)) (.some (vI z37)) DP hd (hd.im 0 rfl) rfl rfl rfl rfl rfl rfl (.inr ⟨_,rfl⟩) (.inr ⟨_,rfl⟩) (by kernel_rfl) (by kernel_rfl) DO) λk8=>?_;rw[←SX];refine uB 5 [] [73,74] [vL k8 iQ,vA kz 1] [] ?_;refine uL [2] [0,1,3,4] [73,74] (oS [vS z25.2,vL k8 iQ,vO,vF] rfl rfl) (aC (aB [0,1,2,3] ?_));obtain⟨ij,hz,hm⟩:=ah hm;refine gv [] [0,1,5,6,7] (λ(nH:Gh)=>[vL al v_,vB top,vL g10 v9,vI z37,vP kz]) (λnH=>[eI aa ij.1 nH,eB kz [vS z25.2,vL k8 iQ,vL nH ij.1,vB ij.2],eI aa iQ k8,eI aa v_ al,eO 145 pu v9 g10]) ?_ ?_;replace hm:=hz;obtain⟨G2,zp,Jx,hm⟩:=cv hm;refine uI [ku (gT (decide (z37<ln v_))) 2 λhg=>G2 hg.1,mv (gT (decide (z37<ln v_))) 2 0 λhg=>G2 hg.1] hm ?_ ?_ (he:=by subst Jx;kernel_rfl);intro hm;refine dB ?_;obtain⟨Jy,hm⟩:=bW hm;refine uB 6 [] [92,93] [.slice (al.s z37.toNat 0).a (gi v_ z37).ae.length (al.s z37.toNat 0).c,vA kz 2] [ki 2 Jy,kj 2 5 Jy] ?_;refine uL [0] [1,2,3] [92,93] (oS [vS z25.2,vL k8 iQ,.slice (al.s z37.toNat 0).a (gi v_ z37).ae.length (al.s z37.toNat 0).c,vF] rfl rfl) ?_;refine uB 8 [] [94] [vA kz 3] [] ?_;refine uL [0] [1,2,3] [94] (oS [vS z25.2,vL k8 iQ,.slice (al.s z37.toNat 0).a (gi v_ z37).ae.length (al.s z37.toNat 0).c,vT] rfl rfl) (aC ?_);cases hm;intro _ _ H74 hS;replace hS:=hS.fl (sD ((hS.im 2 rfl).el Jy));exact⟨al.s z37.toNat 0,aw.aR (ks:=[0,1,5,6,7]) H74 (by kernel_rfl),hS⟩;intro hm;refine aq ?_;cases hm;refine cR 163 aa ?_;refine jI [0,1,2,3,4] ?_;exact tg Gh.nil;intro nH;refine uA 6 (vI (J (z37+1))) [] (dB ?_);refine uB 2 [5,7] [97,98] [vL g10 v9,vG [vS z25.2,vL k8 iQ,vL nH ij.1,vB ij.2]] [kE 1 4] ?_;refine uM [2,0] [0,1,2,3,4] [98] (oL pu 145 (vG [vN,vO,vO,vF]) [oR.mk z25.2 iQ ij.1 ij.2] [gL [k8,nH]] (λhd=>bd.cons (a7E (hd.im 0 rfl) (hd.im 1 rfl)) bd.nil) rfl) λvh=>?_;obtain⟨a7G,xZ,Nz,hm⟩:=cv hm;refine uM [5,0] [1,2,3,4] [97,99] (oP pu (vG [vN,vO,vO,vF]) g10 vh Nz a7G rfl rfl) λg92=>?_;refine uB 5 [100] [5] [vL g92 xZ] [] (aC (aB [0,5] ?_));exact uH g92 hm;intro hm;refine bn ?_;cases hm;exact tg g10;intro G1;refine aB [0] ?_;refine uR [5] [4] [vL G1 z5] [] (aQ ?_);cases hm;exact de G1 [0] bp

structure wJ where
  dC:Int
  has:Bool
instance:Inhabited wJ:=⟨⟨default,default⟩⟩
def ajj:Ty wJ where
  z:=2
  enc:=λx g=>[vI x.dC,vB x.has]
  bK:=λ_ _ _ _=>True
  len:=λ_ _=>rfl
  one:=λ_ _=>rfl
  kp:=λ_ _ _=>trivial
  bS:=λ_ _=>trivial
  fresh:=λ_=>trivial
def NA(m:Nat)(v_:List ax)(cz:Int):Nat→List (List ax)→Int→Option (List (List ax))
 |0,_,_=>none
 |kk+1,v12,aO=>cond (decide (aO<ln v_)) (Option.bind (aH (0≤aO∧aO<ln v_)<|cond ((gi v_ aO).aY.an==cz) (aH (ln v12+ln ([[]]:List (List ax))≤137438953472)<|some (v12++([[]]:List (List ax)))) (aH (0≤J (ln v12-1)∧J (ln v12-1)<ln v12)<|aH (ln (gi v12 (J (ln v12-1)))+ln ([gi v_ aO]:List ax)≤137438953472)<|some (bN v12 (J (ln v12-1)) (gi v12 (J (ln v12-1))++[gi v_ aO])))) λ(fH:List (List ax))=>NA m v_ cz kk fH (J (aO+1))) (some v12)
def G3(m:Nat)(v_:List ax)(cz:Int):Option (List (List ax)):=Option.bind (NA m v_ cz m ([[]]:List (List ax)) 0) λ(z9:List (List ax))=>some z9
theorem NB{al:Gh}(m)(v_)(cz)(r)(hm:G3 m v_ cz=some r):Dm 172 [vL al v_,vU cz] [eI aa v_ al] (λ(aG:Gh)=>vL aG r) (λaG=>[eO 61 (Ty.sl aa) r aG]):=by
 rw[G3]at hm;refine gI (call172 _) func172 ntmps172 λM X w=>?_;refine dp [0,1] [vL al v_,vU cz] [] (aM ?_);refine eA [] [0] [0,1] [vL al v_,vU cz] (oL (kS ax) 61 vO [([],Gh.nil)] [gL []] (λ_=>bd.cons trivial bd.nil) rfl) λg3=>?_;refine fG 2 [0,1,5] [vL al v_,vU cz,vK g3 1] [] (aC ?_);obtain⟨z9,hz,hm⟩:=ah hm;refine ZL [5] (λ(nI:Gh)=>[vL nI z9]) (λnI=>[eO 61 (Ty.sl aa) z9 nI,eI aa v_ al]) ?_ ?_
 ·replace hm:=hz;refine dp [0,1,5,6] [vL al v_,vU cz,vK g3 1,vI 0] [] (aL ?_);intro _ _ lz hS;refine iW (λkk a' w'=>∃(qs:List (Hd ax))(aO:Int)(g13:Gh),NA m v_ cz kk (qs.map (·.1)) aO=some _∧Fr 64 (fS [0,1,5,6] [vL al v_,vU cz,vL g13 qs,vI aO]) a'∧SH M X w [eO 61 (kS ax) qs g13,a8.o4 163 aa qs,eI aa v_ al] w') ⟨_,[([],Gh.nil)],0,g3,hm,aw.aR (ks:=[0,1,5,6]) lz (by kernel_rfl),(hS.a67 (E:=163) (T:=aa)).perm (List.Perm.swap _ _ _)⟩ ?_;clear hm lz hS;rintro kk _ _ ⟨qs,aO,g13,hm,H,hS⟩;cases kk with
  |zero=>exact cN hm
  |succ kk=>
   rw[NA,a69]at hm;refine aN H hS (az (dp [0,1,5,6,11] [vL al v_,vU cz,vL g13 qs,vI aO,vB (decide (aO<ln v_))] [] ?_));refine Dl hm (λhm=>?_) (λhm=>?c51)
   case c51=>
    refine bn ?_;obtain rfl:=cy hm;intro _ _ H hS;refine⟨_,aw.aR (ks:=[5]) H ?_,hS.a6h⟩;show aR _ _=some [(5,[],Value.slice g13.a (qs.map (·.1)).length g13.c)];rw[List.length_map];rfl
   refine aq ?_;obtain⟨fH,hz,hm⟩:=ah hm;refine ZL [0,1,6,5] (λ(p:{p:List (Hd ax)×Gh // p.1.map (·.1)=fH})=>[vL al v_,vU cz,vI aO,.slice p.1.2.a p.1.1.length p.1.2.c]) (λp=>[eO 61 (kS ax) p.1.1 p.1.2,a8.o4 163 aa p.1.1,eI aa v_ al]) ?_ ?_
   ·replace hm:=hz;refine aL ?_;obtain⟨kW,hm⟩:=bW hm;refine dp [0,1,5,6,21] [vL al v_,vU cz,vL g13 qs,vI aO,vB ((gi v_ aO).aY.an==cz)] [ki 2 kW,kj 2 0 kW] ?_;refine Dl hm (λhm=>?c46) (λhm=>?_)
    case c46=>
     refine dB (fG 1 [0,1,6,22] [vL al v_,vU cz,vI aO,vL g13 qs] [] ?_);refine eA [] [0,1,2] [0,1,6,22] [vL al v_,vU cz,vI aO,vL g13 qs] (oL (kS ax) 61 vO [([],Gh.nil)] [gL []] (λ_=>bd.cons trivial bd.nil) rfl) λg23=>?_;obtain⟨sH,hm⟩:=bW hm;obtain rfl:=cy hm;refine eA [1,0] [2,3] [0,1,6] [vL al v_,vU cz,vI aO] (λ_ _ kA hd=>B0 (T:=kS ax) (zv:=vO) (g1:=g13) (g2:=g23) (l1:=qs) (l2:=([([],Gh.nil)]:List (Hd ax))) (qs++[([],Gh.nil)]) rfl kA hd rfl rfl rfl rfl rfl rfl rfl (by kernel_rfl) (by kernel_rfl) rfl rfl sH) λbL=>?_;refine fG 4 [0,1,5,6] [vL al v_,vU cz,.slice bL.a (qs++[([],Gh.nil)]).length bL.c,vI aO] [] (aC (aB [0,2,3] ?_));exact λ_ _ H hS=>⟨⟨(qs++[([],Gh.nil)],bL),by simp⟩,aw.aR (ks:=[0,1,6,5]) H (by kernel_rfl),(hS.perm (List.Perm.swap _ _ _)).a68.perm (List.Perm.swap _ _ _)⟩
    obtain⟨sI,hm⟩:=bW hm;rw[a6a sI]at hm;obtain⟨Nd,hm⟩:=bW hm;obtain rfl:=cy hm;refine a6k [0,1,5,6] [vL al v_,vU cz,vL g13 qs,vI aO] λc=>?_;refine qB (t:=c) (λ_=>?c8) (λ_=>?_)
    case c8=>
     generalize hq:(gi qs (J (ln qs-1))).1++[ax.mk (ct.mk 0 [] 0 [] false) []]=q0;intro _ _ kB hS;refine ra (base:=fS [0,1,5,6] [vL al v_,vU cz,vL g13 qs,vI aO]) (L:=[eO 61 (kS ax) qs g13,a8.o4 163 aa qs,eI aa v_ al]) 19 3 (λy=>[vL g13 qs,vL g13 qs,vI (ln qs),vI (J (ln qs-1)),vL g13 qs,vL g13 qs,vI (ln qs),vI (J (ln qs-1)),.pointer (some ⟨ab g13.a,ao g13.a+(J (ln qs-1)).toNat*1,none⟩),.slice (gi qs (J (ln qs-1))).2.a (gi qs (J (ln qs-1))).1.length (gi qs (J (ln qs-1))).2.c,vL al v_,vI aO,.pointer (some ⟨ab al.a,ao al.a+aO.toNat*6,none⟩),.agg ⟨e3 (gi v_ aO) (al.s aO.toNat)⟩,vI (ln (gi qs (J (ln qs-1))).1),vK (y 15 0) 1,.slice (y 16 0).a q0.length (y 16 0).c,.pointer (some ⟨ab g13.a,ao g13.a+(J (ln qs-1)).toNat*1,none⟩),undef]) (λy=>[[],[],[],[],[],[],[],[],[],[],[],[],[],[],[],[eO 163 aa ([ax.mk (ct.mk 0 [] 0 [] false) []]:List ax) (y 15 0)],[a8.o4 163 aa (bN qs (J (ln qs-1)) (q0,y 16 0)),eO 163 aa ([ax.mk (ct.mk 0 [] 0 [] false) []]:List ax) (y 15 0)],[],[eO 61 (kS ax) (bN qs (J (ln qs-1)) (q0,y 16 0)) (Gh.mk g13.a g13.c (y 18 0).s)]]) [[],[],[],[],[],[],[],[],[19],[19],[],[],[21],[21],[],[],[20,15],[19],[19]] [[],[],[],[],[],[],[],[],[],[],[],[],[],[],[],[],[20,15],[],[19]] [[0],[1],[1,2],[1,2,3],[4],[5],[5,6],[5,6,7],[4,5,6,7,8],[4,5,6,7,8,9],[10],[11],[10,11,12],[10,11,12,13],[4,5,6,7,8,9,14],[15],[4,5,6,7,8,9,15,16],[0,1,2,3,17],[0,1,2,3,4,5,6,7,8,9,10,11,12,13,14,15,16,17,18]] [] (aw.aR (ks:=[0,1,5,6]) kB (by kernel_rfl)) (λ_ _ h=>by cases h) (by kernel_rfl) hS (by kernel_rfl) rfl rfl (by kernel_rfl) (by kernel_rfl) (by kernel_rfl) (mW (by kernel_rfl) _ _) ?a7H λ_ a7I y kC hv hS=>?hK8
     case a7H=>
      refine⟨bz,bz,bz,bz,bz,bz,bz,bz,se (λ_ _=>[⟨none,λwz=>dW g13.a∧0≤J (ln qs-1)∧J (ln qs-1)<ln qs,λ_ hS=>(hS.cD 0 rfl).j3 sI⟩]),se (λ_ _=>[⟨some (.slice (gi qs (J (ln qs-1))).2.a (gi qs (J (ln qs-1))).1.length (gi qs (J (ln qs-1))).2.c),λwz=>V.cd ⟨ab g13.a,ao g13.a+(J (ln qs-1)).toNat*1+0,none⟩ (.slice (gi qs (J (ln qs-1))).2.a (gi qs (J (ln qs-1))).1.length (gi qs (J (ln qs-1))).2.c) wz,λ_ hS=>(hS.cD 0 rfl).cd sI 0 rfl⟩]),bz,bz,se (λ_ _=>[⟨none,λwz=>dW al.a∧0≤aO∧aO<ln v_,λ_ hS=>(hS.im 0 rfl).j3 kW⟩]),se (λ_ _=>[⟨some (.agg ⟨e3 (gi v_ aO) (al.s aO.toNat)⟩),λwz=>V.bV (ab al.a) (ao al.a+aO.toNat*6) (e3 (gi v_ aO) (al.s aO.toNat)) 0 wz,λ_ hS=>(hS.im 0 rfl).ef kW 0 rfl⟩]),bz,?_,?_,se (λ_ _=>[⟨none,λwz=>dW g13.a∧0≤J (ln qs-1)∧J (ln qs-1)<ln qs,λ_ hS=>(hS.cD 0 rfl).j3 sI⟩]),?_,trivial⟩
      ·intro o ho a w y M Hb hv hO hS;obtain rfl:=cy ho;have hd:=hS.hand [] [] rfl rfl;refine bh.mono (MN (T:=aa) (E:=163) (zv:=vG [vU 0,vN,vI 0,vN,vF,vO]) [vU 0,vN,vI 0,vN,vF,vO] ([ax.mk (ct.mk 0 [] 0 [] false) []]:List ax) [gL [Gh.nil]] _ Hb hd rfl (by kernel_rfl) (by kernel_rfl) (by kernel_rfl) (by kernel_rfl) (by kernel_rfl) (by kernel_rfl) (by kernel_rfl) rfl (bd.cons (Ji aP.nil) bd.nil)) ?_;rintro v w2 hq;obtain⟨qF,rfl,hq⟩:=hq;replace hS:=hS.join [] [] rfl rfl hq;exact⟨gL [qF],λ_ _=>rfl,hS.aV [0] rfl⟩
      ·intro o ho a w y M Hb hv hO hS;obtain rfl:=cy ho;have H:=((Hb).add (hv 9 (by decide) (by decide) 36 rfl)).add (hv 15 (by decide) (by decide) 42 rfl);have hd:=hS.hand [0,1] [] rfl rfl;refine bh.mono (a0b (T:=aa) (zv:=vG [vU 0,vN,vI 0,vN,vF,vO]) sI q0 hq H hd rfl rfl rfl rfl rfl rfl rfl rfl (by kernel_rfl) (by kernel_rfl) rfl Nd) ?_;rintro v w2 hq;obtain⟨bL,rfl,hq⟩:=hq;replace hS:=hS.join [0,1] [] rfl rfl hq;exact⟨gL [bL],λ_ _=>rfl,hS.aV [0,1] rfl⟩
      ·intro o ho a w y M Hb hv hO hS;obtain rfl:=cy ho;have H:=((Hb).add (hv 17 (by decide) (by decide) 44 rfl)).add (hv 16 (by decide) (by decide) 43 rfl);have hd:=hS.hand [0] [] rfl rfl;refine bh.mono (B1 (T:=kS ax) (g:=g13) (q:=qs) (ix:=J (ln qs-1)) (off:=0) ((q0,y 16 0):Hd ax) (gL []) H hd rfl rfl rfl rfl (by kernel_rfl) rfl rfl sI rfl trivial rfl) ?_;rintro v w2 hq;obtain⟨SY,hq⟩:=hq;replace hS:=hS.join [0] [] rfl rfl hq;exact⟨gL [Gh.mk none 0 SY],(λ_ h=>by cases h),hS.aV [0] rfl⟩
     have H:Fr 64 (fS [43,41,40,0,1,5,6] [.slice (y 16 0).a q0.length (y 16 0).c,vI (ln (gi qs (J (ln qs-1))).1),.agg ⟨e3 (gi v_ aO) (al.s aO.toNat)⟩,vL al v_,vU cz,vL g13 qs,vI aO]) _:=(((aw.aR (ks:=[0,1,5,6]) kC (by kernel_rfl)).add (hv 13 40 rfl)).add (hv 14 41 rfl)).add (hv 16 43 rfl);have hS:SH M X w [a8.o4 163 aa (bN qs (J (ln qs-1)) (q0,y 16 0)),eO 61 (kS ax) (bN qs (J (ln qs-1)) (q0,y 16 0)) (Gh.mk g13.a g13.c (y 18 0).s),eI aa v_ al] _:=hS.aV [0,2,3] rfl;clear hv kC;generalize y 16 0=gq at H hS;generalize(y 18 0).s=sq at hS;have hk:0≤J (ln qs-1)∧J (ln qs-1)<ln (bN qs (J (ln qs-1)) (q0,gq)):=by unfold ln at sI⊢;rw[tL];exact sI
     replace hS:=hS.a6e hk;rw[a6b sI]at hS;have FG:0≤ln (gi qs (J (ln qs-1))).1∧ln (gi qs (J (ln qs-1))).1<ln q0:=⟨Int.natCast_nonneg _,Int.ofNat_lt.2 (by rw[←hq];simp)⟩;refine aN H hS (dB (fG 1 [0,1,5,6,40,45] [vL al v_,vU cz,vL g13 qs,vI aO,.agg ⟨e3 (gi v_ aO) (al.s aO.toNat)⟩,.pointer (some ⟨ab gq.a,ao gq.a+(ln (gi qs (J (ln qs-1))).1).toNat*6,none⟩)] [kI 0 FG] ?_));intro _ _ H hS;have hd:=hS.hand [0,3] [1,2,3] rfl rfl;refine uE [0,1,6,5] (fS [0,1,6,5] [vL al v_,vU cz,vI aO,vL g13 qs]) H rfl rfl rfl (B1 (T:=aa) (g:=gq) (q:=q0) (ix:=ln (gi qs (J (ln qs-1))).1) (off:=0) (gi v_ aO) (al.s aO.toNat) H hd rfl rfl rfl rfl (by kernel_rfl) rfl rfl FG rfl ((hd.im 1 rfl).el kW) rfl) rfl λ_ _ Bj zg=>?_;obtain⟨_,s,zg⟩:=zg;have wv:=(hS.join [0,3] [1,2,3] rfl rfl zg).a6f (qs:=bN qs (J (ln qs-1)) (q0,gq)) hk;refine aN Bj wv (aC ?_);have hq1:bN q0 (ln (gi qs (J (ln qs-1))).1) (gi v_ aO)=(gi qs (J (ln qs-1))).1++[gi v_ aO]:=by rw[←hq];exact a6c
     rw[hq1];intro _ _ H hS;have hS3:=SH.a6g (a6d (p:=(q0,gq)) (p':=((gi qs (J (ln qs-1))).1++[gi v_ aO],Gh.mk gq.a gq.c s)) (by show Value.slice gq.a ((gi qs (J (ln qs-1))).1++[gi v_ aO]).length gq.c=Value.slice gq.a q0.length gq.c;rw[←hq];simp)) (hS.perm (List.Perm.swap _ _ _));exact⟨⟨(bN (bN qs (J (ln qs-1)) (q0,gq)) (J (ln qs-1)) ((gi qs (J (ln qs-1))).1++[gi v_ aO],Gh.mk gq.a gq.c s),Gh.mk g13.a g13.c sq),by rw[a09,←a08]⟩,aw.aR (ks:=[0,1,6,5]) H (by show aR _ _=some (fz [0,1,6,5] [vL al v_,vU cz,vI aO,.slice g13.a (bN (bN qs (J (ln qs-1)) (q0,gq)) (J (ln qs-1)) ((gi qs (J (ln qs-1))).1++[gi v_ aO],Gh.mk gq.a gq.c s)).length g13.c]);rw[tL,tL];kernel_rfl),hS3⟩
    generalize hq:(gi qs (J (ln qs-1))).1++[gi v_ aO]=q;intro _ _ kB hS;refine Dq (base:=fS [0,1,5,6] [vL al v_,vU cz,vL g13 qs,vI aO]) (L:=[eO 61 (kS ax) qs g13,a8.o4 163 aa qs,eI aa v_ al]) 18 3 (λy=>[vL g13 qs,vL g13 qs,vI (ln qs),vI (J (ln qs-1)),vL g13 qs,vL g13 qs,vI (ln qs),vI (J (ln qs-1)),.pointer (some ⟨ab g13.a,ao g13.a+(J (ln qs-1)).toNat*1,none⟩),.slice (gi qs (J (ln qs-1))).2.a (gi qs (J (ln qs-1))).1.length (gi qs (J (ln qs-1))).2.c,vL al v_,vI aO,.pointer (some ⟨ab al.a,ao al.a+aO.toNat*6,none⟩),.agg ⟨e3 (gi v_ aO) (al.s aO.toNat)⟩,vK (y 14 0) 1,.slice (y 15 0).a q.length (y 15 0).c,.pointer (some ⟨ab g13.a,ao g13.a+(J (ln qs-1)).toNat*1,none⟩),undef]) (λy=>[[],[],[],[],[],[],[],[],[],[],[],[],[],[],[eO 163 aa ([gi v_ aO]:List ax) (y 14 0)],[a8.o4 163 aa (bN qs (J (ln qs-1)) (q,y 15 0)),eO 163 aa ([gi v_ aO]:List ax) (y 14 0)],[],[eO 61 (kS ax) (bN qs (J (ln qs-1)) (q,y 15 0)) (Gh.mk g13.a g13.c (y 17 0).s)]]) [[],[],[],[],[],[],[],[],[18],[18],[],[],[20],[20],[20],[19,14],[18],[18]] [[],[],[],[],[],[],[],[],[],[],[],[],[],[],[],[19,14],[],[18]] [[0],[1],[1,2],[1,2,3],[4],[5],[5,6],[5,6,7],[4,5,6,7,8],[4,5,6,7,8,9],[10],[11],[10,11,12],[10,11,12,13],[10,11,12,13,14],[4,5,6,7,8,9,10,11,12,13,14,15],[0,1,2,3,4,5,6,7,8,9,10,11,12,13,14,15,16],[0,1,2,3,4,5,6,7,8,9,10,11,12,13,14,15,16,17]] [] (aw.aR (ks:=[0,1,5,6]) kB (by kernel_rfl)) (λ_ _ h=>by cases h) (by kernel_rfl) hS (by kernel_rfl) rfl rfl (by kernel_rfl) (by kernel_rfl) (by kernel_rfl) (mW (by kernel_rfl) _ _) ?J6 λ_ a7I y kC hv hS=>?hK
    case J6=>
     refine⟨bz,bz,bz,bz,bz,bz,bz,bz,se (λ_ _=>[⟨none,λwz=>dW g13.a∧0≤J (ln qs-1)∧J (ln qs-1)<ln qs,λ_ hS=>(hS.cD 0 rfl).j3 sI⟩]),se (λ_ _=>[⟨some (.slice (gi qs (J (ln qs-1))).2.a (gi qs (J (ln qs-1))).1.length (gi qs (J (ln qs-1))).2.c),λwz=>V.cd ⟨ab g13.a,ao g13.a+(J (ln qs-1)).toNat*1+0,none⟩ (.slice (gi qs (J (ln qs-1))).2.a (gi qs (J (ln qs-1))).1.length (gi qs (J (ln qs-1))).2.c) wz,λ_ hS=>(hS.cD 0 rfl).cd sI 0 rfl⟩]),bz,bz,se (λ_ _=>[⟨none,λwz=>dW al.a∧0≤aO∧aO<ln v_,λ_ hS=>(hS.im 0 rfl).j3 kW⟩]),se (λ_ _=>[⟨some (.agg ⟨e3 (gi v_ aO) (al.s aO.toNat)⟩),λwz=>V.bV (ab al.a) (ao al.a+aO.toNat*6) (e3 (gi v_ aO) (al.s aO.toNat)) 0 wz,λ_ hS=>(hS.im 0 rfl).ef kW 0 rfl⟩]),?_,?_,se (λ_ _=>[⟨none,λwz=>dW g13.a∧0≤J (ln qs-1)∧J (ln qs-1)<ln qs,λ_ hS=>(hS.cD 0 rfl).j3 sI⟩]),?_,trivial⟩
     ·intro o ho a w y M Hb hv hO hS;obtain rfl:=cy ho;have H:=(Hb).add (hv 13 (by decide) (by decide) 59 rfl);have hd:=hS.hand [0] [0] rfl rfl;refine bh.mono (oM aa 163 (vG [vU 0,vN,vI 0,vN,vF,vO]) [gi v_ aO] [al.s aO.toNat] H hd rfl (bd.cons ((hd.im 0 rfl).el kW) bd.nil)) ?_;rintro v w2 hq;obtain⟨qF,rfl,hq⟩:=hq;replace hS:=hS.join [0] [0] rfl rfl hq;exact⟨gL [qF],λ_ _=>rfl,hS.aV [0,1] rfl⟩
     ·intro o ho a w y M Hb hv hO hS;obtain rfl:=cy ho;have H:=((Hb).add (hv 9 (by decide) (by decide) 55 rfl)).add (hv 14 (by decide) (by decide) 60 rfl);have hd:=hS.hand [0,1] [] rfl rfl;refine bh.mono (a0b (T:=aa) (zv:=vG [vU 0,vN,vI 0,vN,vF,vO]) sI q hq H hd rfl rfl rfl rfl rfl rfl rfl rfl (by kernel_rfl) (by kernel_rfl) rfl Nd) ?_;rintro v w2 hq;obtain⟨bL,rfl,hq⟩:=hq;replace hS:=hS.join [0,1] [] rfl rfl hq;exact⟨gL [bL],λ_ _=>rfl,hS.aV [0,1] rfl⟩
     ·intro o ho a w y M Hb hv hO hS;obtain rfl:=cy ho;have H:=((Hb).add (hv 16 (by decide) (by decide) 62 rfl)).add (hv 15 (by decide) (by decide) 61 rfl);have hd:=hS.hand [0] [] rfl rfl;refine bh.mono (B1 (T:=kS ax) (g:=g13) (q:=qs) (ix:=J (ln qs-1)) (off:=0) ((q,y 15 0):Hd ax) (gL []) H hd rfl rfl rfl rfl (by kernel_rfl) rfl rfl sI rfl trivial rfl) ?_;rintro v w2 hq;obtain⟨SY,hq⟩:=hq;replace hS:=hS.join [0] [] rfl rfl hq;exact⟨gL [Gh.mk none 0 SY],(λ_ h=>by cases h),hS.aV [0] rfl⟩
    have hS:SH M X w [eO 61 (kS ax) (bN qs (J (ln qs-1)) (q,y 15 0)) (Gh.mk g13.a g13.c (y 17 0).s),a8.o4 163 aa (bN qs (J (ln qs-1)) (q,y 15 0)),eI aa v_ al] _:=hS.aV [2,0,3] rfl;exact⟨⟨(bN qs (J (ln qs-1)) (q,y 15 0),Gh.mk g13.a g13.c (y 17 0).s),by rw[←a08]⟩,aw.aR (ks:=[0,1,6,5]) kC (by show aR _ _=some (fz [0,1,6,5] [vL al v_,vU cz,vI aO,.slice g13.a (bN qs (J (ln qs-1)) (q,y 15 0)).length g13.c]);rw[tL];kernel_rfl),hS⟩
   ·rintro⟨⟨qs',zq⟩,hq⟩;refine r9 [0,1,5,6] [vL al v_,vU cz,vL zq qs',vI (J (aO+1))] [] ?_;exact λ_ _ zr hS=>⟨_,Nat.lt_succ_self _,qs',J (aO+1),zq,hq▸hm,aw.aR (ks:=[0,1,5,6]) zr (by kernel_rfl),hS⟩
 ·intro nI;refine aB [0] ?_;refine dp [4] [vL nI z9] [] (aQ ?_);obtain rfl:=cy hm;exact de nI [0] Ja
def NC(m:Nat):Nat→List ax→Option (List ax)
 |0,_=>none
 |kk+1,v5=>aH (decide (0<ln v5)=true→0≤(0:Int)∧(0:Int)<ln v5)<|lt (cond (decide (0<ln v5)) ((gi v5 (0:Int)).aY.an==13) false) λx8=>cond x8 (aH (0≤(1:Int)∧(1:Int)≤ln v5∧ln v5≤ln v5)<|lt (fE v5 (1:Int) (ln v5)) λme=>NC m kk me) (some v5)
def NE(m:Nat):Nat→List ax→Option (List ax)
 |0,_=>none
 |kk+1,gO=>aH (decide (0<ln gO)=true→0≤J (ln gO-1)∧J (ln gO-1)<ln gO)<|lt (cond (decide (0<ln gO)) ((gi gO (J (ln gO-1))).aY.an==13) false) λrv=>cond rv (aH (0≤(0:Int)∧(0:Int)≤J (ln gO-1)∧J (ln gO-1)≤ln gO)<|lt (fE gO (0:Int) (J (ln gO-1))) λry=>NE m kk ry) (some gO)
def Bk(m:Nat)(v_:List ax):Option (List ax):=Option.bind (NC m m v_) λ(z3:List ax)=>Option.bind (NE m m z3) λ(z25:List ax)=>some z25
theorem G4{al:Gh}(m)(v_)(r)(hm:Bk m v_=some r):Dm 175 [vL al v_] [eI aa v_ al] (λ(aG:Gh)=>vL aG r) (λaG=>[eI aa r aG]):=by
 rw[Bk]at hm;refine gI (call175 _) func175 ntmps175 λM X w=>?_;refine uO [] ?_;obtain⟨z3,hz,hm⟩:=ah hm;refine gv [] [0] (λ(g23:Gh)=>[vL g23 z3]) (λg23=>[eI aa z3 g23,eI aa v_ al]) ?_ ?_;replace hm:=hz;refine aL ?_;intro _ _ H2 hS;replace hS:=hS.fl (hS.im 0 rfl);refine iW (λkk a' w'=>∃(v5:List ax)(g6:Gh),NC m kk v5=some _∧Fr 36 [(0,[],vL g6 v5)] a'∧SH M X w [eI aa v5 g6,eI aa v_ al] w') ⟨_,v_,al,hm,aw.aR (ks:=[0]) H2 (by kernel_rfl),hS⟩ ?_;clear hm H2 hS;rintro kk _ _ ⟨v5,g6,hm,H,hS⟩;cases kk with
 |zero=>exact cN hm
 |succ kk=>
  rw[NC]at hm;refine aN H hS (az ?_);obtain⟨DA,x8,rz,hm⟩:=cv hm;refine uI [ku (gT (decide (0<ln v5))) 0 λhg=>DA hg.1,mv (gT (decide (0<ln v5))) 0 0 λhg=>DA hg.1] hm ?_ ?_ (he:=by subst rz;kernel_rfl);intro hm;refine aq (aL (dB (uB 1 [0] [14] [vL g6 v5] [] ?_)));obtain⟨cH,me,Jz,hm⟩:=cv hm;refine uM [0] [0,1] [14] (λ_ _ oU hd=>xL (T:=aa) (E:=163) (g:=g6) (q:=v5) (1:Int) (ln v5) (.some (vI 1)) .none oU hd (hd.im 0 rfl) rfl rfl rfl rfl rfl rfl (.inr ⟨_,rfl⟩) (.inl ⟨rfl,rfl⟩) (by kernel_rfl) (by kernel_rfl) cH) λg17=>?_;rw[←Jz];refine uB 3 [15] [0] [vL g17 me] [] (aC (aB [0,1,3] (aB [0,2] ?_)));exact λ_ _ kB hS=>⟨_,Nat.lt_succ_self _,me,g17,hm,aw.aR (ks:=[0]) kB (by kernel_rfl),hS⟩;intro hm;refine bn ?_;cases hm;exact tg g6
 intro g23;refine aB [0] ?_;obtain⟨z25,hz,hm⟩:=ah hm;refine gv [] [0] (λ(ja:Gh)=>[vL ja z25]) (λja=>[eI aa z25 ja,eI aa z3 g23]) ?_ ?_;replace hm:=hz;refine aL ?_;intro _ _ H hS;replace hS:=hS.fl (hS.im 0 rfl);refine iW (λkk a' w'=>∃(gO:List ax)(ri:Gh),NE m kk gO=some _∧Fr 36 [(0,[],vL ri gO)] a'∧SH M X w [eI aa gO ri,eI aa z3 g23] w') ⟨_,z3,g23,hm,aw.aR (ks:=[0]) H (by kernel_rfl),hS⟩ ?_;clear hm H hS;rintro kk _ _ ⟨gO,ri,hm,H,hS⟩;cases kk with
 |zero=>exact cN hm
 |succ kk=>
  rw[NE]at hm;refine aN H hS (az ?_);obtain⟨pY,rv,G5,hm⟩:=cv hm;refine uI [ku (gT (decide (0<ln gO))) 0 λhg=>pY hg.1,mv (gT (decide (0<ln gO))) 0 0 λhg=>pY hg.1] hm ?_ ?_ (he:=by subst G5;kernel_rfl);intro hm;refine aq (aL (dB (uB 4 [0] [30,33] [vL ri gO,vI (J (ln gO-1))] [] ?_)));obtain⟨wK,ry,G6,hm⟩:=cv hm;refine uM [0] [0,1] [30,33] (λ_ _ k7 hd=>xL (T:=aa) (E:=163) (g:=ri) (q:=gO) (0:Int) (J (ln gO-1)) .none (.some (vI (J (ln gO-1)))) k7 hd (hd.im 0 rfl) rfl rfl rfl rfl rfl rfl (.inl ⟨rfl,rfl⟩) (.inr ⟨_,rfl⟩) (by kernel_rfl) (by kernel_rfl) wK) λoV=>?_;rw[←G6];refine uB 6 [34] [0] [vL oV ry] [] (aC (aB [0,1,3] (aB [0,2] ?_)));exact λ_ _ JA hS=>⟨_,Nat.lt_succ_self _,ry,oV,hm,aw.aR (ks:=[0]) JA (by kernel_rfl),hS⟩;intro hm;refine bn ?_;cases hm;exact tg ri
 intro ja;refine aB [0] ?_;refine uR [0] [2] [vL ja z25] [] (aQ ?_);cases hm;exact de ja [0] bp

def wL(v_:List ax)(i:Int)(cz:Int)(s:a7):Option Bool:=lt (cond (decide (0≤i)) (decide (i<ln v_)) false) λx3=>aH (x3=true→0≤i∧i<ln v_)<|lt (cond x3 ((gi v_ i).aY.an==cz) false) λx5=>aH ((s==[])=false→x5=true→0≤i∧i<ln v_)<|lt (cond x5 (cond (s==[]) true ((gi v_ i).aY.db==s)) false) λx7=>some x7
theorem zt{al:Gh}(v_)(i)(cz)(s)(r)(hm:wL v_ i cz s=some r)(w)(hL:Rd [eI aa v_ al] w):Rb 291 [vL al v_,vI i,vU cz,vS s] (vB r) w:=by
 rw[wL]at hm;refine cu hL (call291 _) func291 ntmps291 λM X w=>?_;refine uO [] ?_;obtain⟨x3,iD,rC,hm⟩:=mA hm;obtain⟨x5,DQ,rp,hm⟩:=mA hm;obtain⟨x7,wD,hm⟩:=bl hm;refine uR [0,1,2,3] [8] [vB x7] [ku (gT x3) 0 λhg=>rC hg.1,mv (gT x3) 0 0 λhg=>rC hg.1,ku ((s==[])=false∧x5=true∧True) 0 λhg=>rp hg.1 hg.2.1,mv ((s==[])=false∧x5=true∧True) 0 1 λhg=>rp hg.1 hg.2.1] ?_ (he:=by subst iD DQ wD;kernel_rfl);refine aB [] (aQ ?_);cases hm;exact bi [] bp

def T0(m:Nat)(s:a7):Nat→Int→List Int→Option (List Int)
 |0,_,_=>none
 |kk+1,aO,bx=>cond (decide (aO<ln (bG s))) (aH (0≤aO∧aO<ln (bG s))<|Option.bind (Ni (gi bx aO)) λfx=>lt (xG bx aO fx) λq24=>T0 m s kk (J (aO+1)) q24) (some bx)
def Bl(m:Nat)(s:a7):Option a7:=Option.bind (T0 m s m 0 (bG s)) λ(cY:List Int)=>some (jx cY)
theorem G7(m)(s)(r)(hm:Bl m s=some r):Rt 174 [vS s] (vS r):=by
 rw[Bl]at hm;refine dh (call174 _) func174 ntmps174 λM X w=>?_;refine uO [] (aM ?_);refine uB 1 [0] [5] [vS s] [] ?_;intro _ _ H4 hS;have hd:=hS.hand [] [] rfl rfl;refine gn [6] [] H4 rfl rfl rfl rfl (IX (E:=5) H4 hd rfl (by kernel_rfl) (by kernel_rfl) (by kernel_rfl)) (λ_=>rfl) λ_ _ v H8 hq=>?_;obtain⟨b5,c6,rfl,T3,hq⟩:=hq;replace hS:=hS.join [] [] rfl rfl hq;refine aN H8 hS (fG 3 [3] [.slice (some ⟨b5,0,none⟩) (bG s).length c6] [] (aC ?_));obtain⟨cY,hz,hm⟩:=ah hm;refine uK [] [] [] [a8.row .u8 b5 cY (ln (bG s))] ?_ ?_;replace hm:=hz;refine uA 4 (vI 0) [] (aL ?_);refine iX [] [4] (λaO _=>[vI aO]) (λ_ bx=>[a8.row .u8 b5 bx (ln (bG s))]) hm (λkk aO bx hm=>?_);rw[T0]at hm;refine az (uI [] hm ?_ ?_);intro hm;refine aq (az (aL (dB ?_)));obtain⟨kW,fx,qG,hm⟩:=kv hm;refine uB 8 [] [19,20] [vU fx,.pointer (some ⟨b5,0+aO.toNat*1,none⟩)] [⟨none,λ_=>dW (some ⟨b5,0,none⟩)∧0≤aO∧aO<ln (bG s),λ_ _=>⟨rfl,kW⟩⟩,⟨some (vU (gi bx aO)),λwz=>V.cd ⟨b5,0+aO.toNat*1,none⟩ (vU (gi bx aO)) wz,λ_ hS=>Rw.FE (hS.rw 0 rfl) kW⟩,kc (a0w _ _ qG),⟨none,λ_=>dW (some ⟨b5,0,none⟩)∧0≤aO∧aO<ln (bG s),λ_ _=>⟨rfl,kW⟩⟩] ?_;intro _ _ pw hS;have hd:=hS.hand [0] [] rfl rfl;refine uE [3,4] (fS [3,4] [.slice (some ⟨b5,0,none⟩) (bG s).length c6,vI aO]) pw rfl rfl rfl (MM pw hd rfl rfl (by kernel_rfl) kW) rfl λ_ _ tZ hq=>?_;obtain⟨_,hq⟩:=hq;obtain⟨q24,a7J,hm⟩:=bl hm;rw[←a7J]at hq;replace hS:=hS.join [0] [] rfl rfl hq;refine aN tZ hS (aC (r9 [3,4] [.slice (some ⟨b5,0,none⟩) (bG s).length c6,vI (J (aO+1))] [] ?_));exact ug2 hm;intro hm;refine bn ?_;cases hm;exact te;intro _ _ H hS;refine Fw [vS (jx cY)] [2] [(2,[],vS (jx cY))] [λwz=>∀w',Below wz.heap.size wz w'→(convert 150 9 (.slice (some ⟨b5,0,none⟩) (bG s).length c6)).run prog w'=.ok (vS (jx cY)) w'] H (by kernel_rfl) ⟨MF (E:=5) (by kernel_rfl) (by kernel_rfl) (by kernel_rfl) (hS.rw 0 rfl).1 (hS.rw 0 rfl).2,trivial⟩ λ_ _ Bm hb=>?_;replace hS:=hS.below hb;replace hS:SH M _ w [] _:=hS.aV [] rfl;refine aN Bm hS (aQ ?_);cases hm;exact bi [] bp

def T4(v_:List ax)(i:Int)(p:wJ):Option (fA×Int×Bool):=Option.bind (wL v_ i 4 []) λy9=>cond y9 (none) (Option.bind (wL v_ i 9 [46]) λdD=>cond dD (none) (Option.bind (wL v_ i 19 []) λe9=>cond e9 (none) (Option.bind (wL v_ i 16 []) λgY=>Option.bind (cond gY (wL v_ (J (i+1)) 1 []) (some default)) λfx=>cond (cond gY fx false) (none) (Option.bind (wL v_ i 16 []) λgM=>Option.bind (cond gM (wL v_ (J (i+1)) 2 []) (some default)) λoJ=>cond (cond gM oJ false) (none) (Option.bind (wL v_ i 16 []) λkD=>some (fA.mk 0 [] 0 [] false (zj.mk 0 0) false ([]:List bM),i,!kD))))))
theorem a7K{al:Gh}(v_)(i)(p)(r)(hm:T4 v_ i p=some r):Dm 292 [vL al v_,vI i,vG [vI p.dC,vB p.has]] [eI aa v_ al] (λ(aG:Gh)=>.tuple ⟨[.agg ⟨e2 r.1 (gL [aG])⟩,vI r.2.1,vB r.2.2]⟩) (λaG=>[eO 152 bH r.1.ae aG]):=by
 rw[T4]at hm;refine gI (call292 _) func292 ntmps292 λM X w=>(aM ?_);refine uM [] [0] [2] (oB [vI p.dC,vB p.has] rfl) λb1=>?_;refine uM [] [0,1] [] (oA [vU 0,vN,vU 0,vN,vF,vI 0,vI 0,vF,vO]) λb4=>?_;refine uP 4 [] (aC (az (aL ?_)));obtain⟨y9,oI,hm⟩:=ah hm;refine gu [kr λ_ hS=>zt (al:=al) _ _ _ _ _ oI _ (aK bc (hS.im 2 rfl))] hm ?_;intro hm;obtain⟨dD,jc,hm⟩:=ah hm;refine uI [kr λ_ hS=>zt (al:=al) _ _ _ _ _ jc _ (aK bc (hS.im 2 rfl))] hm ?_ ?_;intro hm;refine az ?_;intro _ _ kX hS;exact cN hm;intro hm;obtain⟨e9,qH,hm⟩:=ah hm;refine gu [kr λ_ hS=>zt (al:=al) _ _ _ _ _ qH _ (aK bc (hS.im 2 rfl))] hm ?_;intro hm;obtain⟨gY,zo,fx,qG,hm⟩:=pr hm;refine gu [kr λ_ hS=>zt (al:=al) _ _ _ _ _ zo _ (aK bc (hS.im 2 rfl)),fv (gT gY) λ_ hS hg=>zt (al:=al) _ _ _ _ _ (bT (hg.1) qG) _ (aK bc (hS.im 2 rfl))] hm ?_;intro hm;obtain⟨gM,wF,oJ,DB,hm⟩:=pr hm;refine gu [kr λ_ hS=>zt (al:=al) _ _ _ _ _ wF _ (aK bc (hS.im 2 rfl)),fv (gT gM) λ_ hS hg=>zt (al:=al) _ _ _ _ _ (bT (hg.1) DB) _ (aK bc (hS.im 2 rfl))] hm ?_;intro hm;refine aq (aM ?_);obtain⟨kD,DR,hm⟩:=ah hm;refine uB 6 [0,1,5] [129,130,134] [vG [vU 0,vN,vU 0,vN,vF,vI 0,vI 0,vF,vO],vI i,vB (!kD)] [kr λ_ hS=>zt (al:=al) _ _ _ _ _ DR _ (aK bc (hS.im 2 rfl))] ?_;refine uL [0] [1,2] [129] (oS [vU 0,vN,vU 0,vN,vF,vI 0,vI 0,vF,vO] rfl rfl) ?_;refine uB 9 [130,134] [7,8] [vI i,vB (!kD)] [] (aC (aB [0] (aQ ?_)));cases hm;refine cR 152 bH ?_;exact λ_ _ lC hS=>YR lC rfl (qx rfl (hS.bk 1 rfl) underlying159 rfl (by kernel_rfl)) rfl rfl ⟨_,rfl,Gh.nil,rfl,hS.aV [0] rfl⟩

def T5(m:Nat)(s:a7):Nat→Int→Option Unit
 |0,_=>none
 |kk+1,v6=>cond (decide (v6<ln s)) (aH (0≤v6∧v6<ln s)<|cond (bR s v6==0) (none) (T5 m s kk (J (v6+1)))) (some ())
def T6(m:Nat)(s:a7)(dy:Int):Option Bool:=Option.bind (T5 m s m 0) λ(z3:Unit)=>some (decide (ln s≤dy))
theorem a7L(m)(s)(dy)(r)(hm:T6 m s dy=some r):Rt 299 [vS s,vI dy] (vB r):=by
 rw[T6]at hm;refine dh (call299 _) func299 ntmps299 λM X w=>?_;refine uO [] ?_;obtain⟨z3,hz,hm⟩:=ah hm;refine uK [] [] [] [] ?_ ?_;replace hm:=hz;refine uA 5 (vI 0) [] (aL ?_);refine eQ [] [5] (λv6=>[vI v6]) (λ_=>[]) hm (λkk v6 hm=>?_);rw[T5]at hm;refine az (uI [] hm ?_ ?_);intro hm;refine aq (az (aL ?_));obtain⟨rD,hm⟩:=bW hm;refine gu [kh rD] hm ?_;intro hm;exact aq (gw [] hm);intro hm;refine bn ?_;cases hm;exact te;cases hm;exact uZ [] []

def NF(m:Nat)(s:a7):Option Bool:=Option.bind (cond (!(s==[])) (T6 m s 64) (some default)) λy3=>some (cond (!(s==[])) y3 false)
theorem a0I(m)(s)(r)(hm:NF m s=some r):Rt 268 [vS s] (vB r):=by
 rw[NF]at hm;refine dh (call268 _) func268 ntmps268 λM X w=>?_;refine uO [] ?_;obtain⟨y3,cg,hm⟩:=ah hm;cases hm;exact uZ [] [fF (gT (!(s==[]))) λhg=>a7L m _ _ _ (bT (hg.1) cg)]

def T7(m:Nat)(s:a7):Option Bool:=Option.bind (NF m s) λy3=>Option.bind (cond y3 (Bl m s) (some default)) λy4=>some (cond y3 (s==y4) false)
theorem a7M(m)(s)(r)(hm:T7 m s=some r):Rt 312 [vS s] (vB r):=by
 rw[T7]at hm;refine dh (call312 _) func312 ntmps312 λM X w=>?_;refine uO [] ?_;obtain⟨y3,cg,y4,qC,hm⟩:=pr hm;cases hm;exact uZ [] [kc (a0I m _ _ cg),fF (gT y3) λhg=>G7 m _ _ (bT (hg.1) qC)]

def a0J(m:Nat)(c_:fZ):Nat→Int→Option Unit
 |0,_=>none
 |kk+1,bJ=>cond (decide (bJ<ln c_.bC)) (none) (some ())
def T8(m:Nat)(c_:fZ)(p:wJ):Option Bool:=lt (cond (!(c_.Tag==[])) (!(c_.Tag==[42])) false) λx9=>Option.bind (cond x9 (T7 m c_.Tag) (some default)) λcK=>lt (cond (cond x9 (!cK) false) true (cond (c_.Tag==[]) (ln c_.bC==0) false)) λfN=>lt (cond fN true (decide (64<ln c_.bC))) λlH=>cond lH (none) (Option.bind (a0J m c_ m 0) λ(eV:Unit)=>some true)
theorem a7N{aF:Gh}(m)(c_)(p)(r)(hm:T8 m c_ p=some r)(w)(hL:Rd [eI rh c_.bC aF] w):Rb 293 [vG [vS c_.Tag,vL aF c_.bC],vG [vI p.dC,vB p.has]] (vB r) w:=by
 rw[T8]at hm;refine cu hL (call293 _) func293 ntmps293 λM X w=>(aM ?_);refine uM [] [0] [0] (oB [vS c_.Tag,vL aF c_.bC] rfl) λb1=>?_;refine uM [] [0,1] [1] (oB [vI p.dC,vB p.has] rfl) λb4=>?_;refine uP 3 [] (aC (az ?_));obtain⟨x9,wM,cK,nF,hm⟩:=sB hm;obtain⟨fN,oO,lH,u4,hm⟩:=eL hm;refine gu [kb 1 0,bO (gT (!(c_.Tag==[]))) 1 0,bO (gT x9) 1 0,fF (gT x9) λhg=>a7M m _ _ (bT (hg.1) nF),bO (gF (cond x9 (!cK) false)) 1 0,bO ((c_.Tag==[])=true∧cond x9 (!cK) false=false∧True) 1 1,bO (gF fN) 1 1] hm ?_ (he:=by subst wM oO u4;kernel_rfl);intro hm;refine aq ?_;obtain⟨eV,hz,hm⟩:=ah hm;refine uK [2,3] [] [] [eB b4 [vI p.dC,vB p.has],eB b1 [vS c_.Tag,vL aF c_.bC],eI rh c_.bC aF] ?_ ?_;replace hm:=hz;refine uA 5 (vI 0) [] (aL ?_);refine eQ [] [5] (λbJ=>[vI bJ]) (λ_=>[eB b4 [vI p.dC,vB p.has],eB b1 [vS c_.Tag,vL aF c_.bC],eI rh c_.bC aF]) hm (λkk bJ hm=>?_);rw[a0J]at hm;refine az (uI [kb 1 1] hm ?_ ?_);intro hm;refine aq (az (aL ?_));intro _ _ kB hS;exact cN hm;intro hm;refine bn ?_;cases hm;exact te;refine aB [] ?_;cases hm;exact uZ [] []

def a0K(m:Nat)(v_:List ax)(p:wJ)(c9:a7):Nat→Int→Option (fZ×Int×Bool)
 |0,_=>none
 |kk+1,v23=>Option.bind (T4 v_ v23 p) λkD=>cond (!kD.2.2) (none) (cond (kD.2.1==v23) (Option.bind (T8 m (fZ.mk c9 []) p) λfT=>some (fZ.mk c9 ([]:List fA),v23,fT)) (none))
def T9(m:Nat)(v_:List ax)(i:Int)(p:wJ):Option (fZ×Int×Bool):=Option.bind (wL v_ i 1 []) λdD=>cond dD (aH (0≤i∧i<ln v_)<|Option.bind (Bl m (gi v_ i).aY.db) λc9=>a0K m v_ p c9 m (J (i+1))) (none)
theorem a7O{al:Gh}(m)(v_)(i)(p)(r)(hm:T9 m v_ i p=some r):Dm 263 [vL al v_,vI i,vG [vI p.dC,vB p.has]] [eI aa v_ al] (λ(aG:Gh)=>vW [vG [vS r.1.Tag,vL aG r.1.bC],vI r.2.1,vB r.2.2]) (λaG=>[eO 159 rh r.1.bC aG]):=by
 rw[T9]at hm;refine gI (call263 _) func263 ntmps263 λM X w=>(aM ?_);refine uM [] [0] [2] (oB [vI p.dC,vB p.has] rfl) λb1=>?_;refine uM [] [0,1] [] (oA [vN,vO]) λb4=>?_;refine uP 4 [] (aC (aM ?_));refine uM [] [0,1,2] [] (oA [vN,vO]) λb9=>aC (az ?_);obtain⟨dD,jc,hm⟩:=ah hm;refine uR [] [9,15] [vP b9,vB dD] [kr λ_ hS=>zt (al:=al) _ _ _ _ _ jc _ (aK bc (hS.im 3 rfl))] ?_;refine ZK hm ?_;intro hm;refine aM ?_;obtain⟨iP,c9,pU,hm⟩:=kv hm;refine uB 8 [15] [22,23] [vS c9,vP b9] [ki 3 iP,kj 3 1 iP,kc (G7 m _ _ pU)] ?_;refine uL [0] [1,2,3] [22,23] (oS [vS c9,vO] rfl rfl) (aC ?_);refine uW [] [0,1,5,6,9] [vL al v_,vI (J (i+1)),vP b1,vP b4,vP b9] [] (aL ?_);refine eQ [] [1] (λv23=>[vI v23]) (λ_=>[eB b9 [vS c9,vO],eB b4 [vN,vO],eB b1 [vI p.dC,vB p.has],eI aa v_ al]) hm (λkk v23 hm=>?_);rw[a0K]at hm;refine aL (aM (uB 3 [] [33,34,35] [vL al v_,vI v23,vG [vI p.dC,vB p.has]] [kE 2 2] ?_));obtain⟨kD,DR,hm⟩:=ah hm;refine uQ [3] [0,1,2,3] [33,34,35] (a7K (al:=al) _ _ _ _ DR) λqF=>?_;refine uB 8 [36] [37,38,39] [.agg ⟨e2 kD.1 (gL [qF])⟩,vI kD.2.1,vB kD.2.2] [] ?_;refine uM [] [0,1,2,3,4] [] (oA [vU 0,vN,vU 0,vN,vF,vI 0,vI 0,vF,vO]) λTa=>?_;refine uL [0] [1,2,3,4,5] [37] (oS (e2 kD.1 (gL [qF])) rfl rfl) ?_;refine uB 12 [38,39] [0,1,5,6,9,10,11,12] [vL al v_,vI v23,vP b1,vP b4,vP b9,vP Ta,vI kD.2.1,vB kD.2.2] [] (aC (az ?_));refine su [12] [] hm ?_;intro hm;refine aq (az (uI [] hm ?_ ?_));intro hm;obtain⟨fT,DS,hm⟩:=ah hm;intro _ _ vi hS;refine ra (base:=fS [1,5,6,9] [vI v23,vP b1,vP b4,vP b9]) (L:=[eB Ta (e2 kD.1 (gL [qF])),eO 152 bH kD.1.ae qF,eB b9 [vS c9,vO],eB b4 [vN,vO],eB b1 [vI p.dC,vB p.has],eI aa v_ al]) 8 6 (λTb=>[vG [vS c9,vO],vI v23,vG [vS c9,vO],vG [vI p.dC,vB p.has],vB fT,undef,vI v23,vB fT]) (λTb=>[[],[],[],[],[],[eB b4 [vS c9,vO]],[],[]]) [[10],[],[10],[12],[],[11],[],[]] [[],[],[],[],[],[11],[],[]] [[0],[1],[2],[3],[2,3,4],[0,5],[1,6],[2,3,4,7]] [] (aw.aR (ks:=[1,5,6,9]) vi (by kernel_rfl)) (λ_ _ h=>by cases h) (by kernel_rfl) hS (by kernel_rfl) rfl rfl (by kernel_rfl) (by kernel_rfl) (by kernel_rfl) (mW (by kernel_rfl) _ _) ?a7P λ_ _ Tb ya hv hS=>?ajk
 case a7P=>
  refine⟨se (λ_ _=>[⟨some (vG [vS c9,vO]),rN b9 0 [vS c9,vO],λ_ hS=>(hS.bk 0 rfl).eK rfl⟩]),bz,se (λ_ _=>[⟨some (vG [vS c9,vO]),rN b9 0 [vS c9,vO],λ_ hS=>(hS.bk 0 rfl).eK rfl⟩]),se (λ_ _=>[⟨some (vG [vI p.dC,vB p.has]),rN b1 0 [vI p.dC,vB p.has],λ_ hS=>(hS.bk 0 rfl).eK rfl⟩]),se (λ_ _=>[⟨some (vB fT),rB 293 [vG [vS c9,vO],vG [vI p.dC,vB p.has]] (vB fT),λ_ _=>a7N (aF:=Gh.nil) m _ _ _ DS _ (aK bc (aP.nil (M:=F0) (g:=Gh.nil)))⟩]),?_,bz,bz,trivial⟩;intro o ho a w Tb M Hb hv hO aJ;obtain rfl:=cy ho;have H:=(Hb).add (hv 0 (by decide) (by decide) 47 rfl);have hS:=aJ;have hd:=hS.hand [0] [] rfl rfl;refine bh.mono (qy [vS c9,vO] H hd rfl rfl (by kernel_rfl) rfl rfl rfl) ?_;rintro v w2 hq;replace hS:=hS.join [0] [] rfl rfl hq;exact⟨gL [],(λ_ h=>by cases h),hS.aV [0] rfl⟩
 have vj:Fr 59 (fS [8,7,6] [vB fT,vI v23,vP b4]) _:=aw.add (aw.add (aw.aR (ks:=[6]) ya (by kernel_rfl)) (hv 6 7 rfl)) (hv 7 8 rfl);replace hS:SH M _ w [eB b4 [vS c9,vO],eB Ta (e2 kD.1 (gL [qF])),eO 152 bH kD.1.ae qF,eB b9 [vS c9,vO],eB b1 [vI p.dC,vB p.has],eI aa v_ al] _:=hS;clear hv ya;replace hS:=hS.aV [0,3,4,5] rfl;refine aN vj hS (aQ ?_);cases hm;refine cR 159 rh ?_;exact λ_ _ vj hS=>YR vj rfl (qx rfl (hS.bk 1 rfl) underlying155 rfl (by kernel_rfl)) rfl rfl ⟨_,rfl,Gh.nil,rfl,hS.aV [0] rfl⟩;intro hm;refine aq ?_;intro _ _ vi hS;exact cN hm

def a0L(m:Nat)(p:wJ)(ek:List ax):Nat→Int→Option (bM×Bool)
 |0,_=>none
 |kk+1,v25=>Option.bind (T9 m ek v25 p) λda=>cond (!da.2.2) (none) (aH (ln ([]:List fZ)+ln ([da.1]:List fZ)≤137438953472)<|lt (([]:List fZ)++([da.1]:List fZ)) λiQ=>cond (da.2.1==ln ek) (some (bM.mk 0 iQ ([]:List Int),decide (ln iQ≤64))) (none))
def NG(m:Nat)(v_:List ax)(p:wJ)(ik:Bool):Option (bM×Bool):=Option.bind (Bk m v_) λek=>cond ik (none) (a0L m p ek m 0)
theorem a7Q{al:Gh}(M:Av)(m)(v_)(p)(ik)(r)(hm:NG m v_ p ik=some r)(w:World)(hS:S0 M [eI aa v_ al] w):Calls prog 221 ⟨[vL al v_,vG [vI p.dC,vB p.has],vB ik]⟩ w (λe w'=>∃v,e=.returned v∧∃(aG:Gh)(dT:Gh),v=.tuple ⟨[.agg ⟨e0 r.1 (gL [aG,dT])⟩,vB r.2]⟩∧SH M (ay [eI aa v_ al]) w [eO 155 k6 r.1.bt aG,eO 5 (tI .u8) r.1.iM dT] w'):=by
 rw[NG]at hm;have aJ:SH M (ay [eI aa v_ al]) w [eI aa v_ al] w:=hS;generalize hX:ay [eI aa v_ al]=X at aJ⊢;clear hS hX;have hS:=aJ;clear aJ;refine eg func221 rfl ntmps221 rfl λ_ H=>?_;refine aN H hS (aM (eA [] [0] [0,2] [vL al v_,vB ik] (oB [vI p.dC,vB p.has] rfl) λb1=>?_));refine uM [] [0,1] [] (oA [vU 0,vO,vO]) λb4=>?_;refine uP 3 [] (aC (aM ?_));refine uM [] [0,1,2] [] (oA [vU 0,vO,vO]) λb9=>aC (aM ?_);refine uB 1 [0] [8,15] [vP b9,vL al v_] [] ?_;obtain⟨ek,sJ,hm⟩:=ah hm;refine uQ [3] [0,1,2,3] [15] (G4 (al:=al) m _ _ sJ) λg15=>?_;refine uB 3 [16] [0] [vL g15 ek] [] (aC (aB [0,1,2,3] ?_));refine uA 9 (vI 0) [] (az ?_);refine uR [2] [0,4,6,8,9,17] [vL g15 ek,vP b1,vP b4,vP b9,vI 0,vB ik] [] ?_;refine Dn hm ?_;intro hm;refine aq (aL (eQ [17] [9] (λv25=>[vI v25]) (λ_=>[eI aa ek g15,eB b9 [vU 0,vO,vO],eB b4 [vU 0,vO,vO],eB b1 [vI p.dC,vB p.has]]) hm (λkk v25 hm=>?_)));rw[a0L]at hm;refine aL (aM (uB 3 [9] [28,29,30] [vL g15 ek,vI v25,vG [vI p.dC,vB p.has]] [kE 3 2] ?_));obtain⟨da,u5,hm⟩:=ah hm;refine uQ [0] [0,1,2,3] [28,29,30] (a7O (al:=g15) m _ _ _ _ u5) λfe=>?_;refine uB 8 [31] [32,33,34] [vG [vS da.1.Tag,vL fe da.1.bC],vI da.2.1,vB da.2.2] [] ?_;refine uM [] [0,1,2,3,4] [] (oA [vN,vO]) λb35=>?_;refine uL [0] [1,2,3,4,5] [32] (oS [vS da.1.Tag,vL fe da.1.bC] rfl rfl) ?_;refine uB 12 [33,34] [0,4,6,8,11,12,13] [vL g15 ek,vP b1,vP b4,vP b9,vP b35,vI da.2.1,vB da.2.2] [] (aC (az ?_));refine su [13] [] hm ?_;intro hm;refine aq (aM (uB 3 [11] [39,40] [vO,vG [vS da.1.Tag,vL fe da.1.bC]] [kb 3 1,kE 0 2] ?_));refine jI [1,0,2,3,4,5] ?_;refine uM [0] [0,1,2,3,4,5] [40] (oL k6 155 (vG [vN,vO]) [da.1] [gL [fe]] (λhd=>bd.cons (a0q (hd.im 0 rfl)) bd.nil) rfl) λlE=>?_;refine cR 155 k6 ?_;obtain⟨DO,iQ,SX,hm⟩:=cv hm;refine uM [0,1] [2,3,4,5,6,7] [39,41] (oP k6 (vG [vN,vO]) Gh.nil lE SX DO rfl rfl) λk8=>?_;refine uB 6 [] [42,43] [vL k8 iQ,vA b9 1] [] ?_;refine uL [5] [0,1,2,3,4,6,7] [42,43] (oS [vU 0,vL k8 iQ,vO] rfl rfl) (aC (aB [0,1,5,6,7] (az ?_)));refine uI [] hm ?_ ?_;intro hm;intro _ _ yb hS;refine ra (base:=fS [6,8] [vP b4,vP b9]) (L:=[eB b9 [vU 0,vL k8 iQ,vO],eO 155 k6 iQ k8,eI aa ek g15,eB b4 [vU 0,vO,vO],eB b1 [vI p.dC,vB p.has]]) 7 5 (λTc=>[vG [vU 0,vL k8 iQ,vO],vA b9 1,vL k8 iQ,vI (ln iQ),vB (decide (ln iQ≤64)),undef,vB (decide (ln iQ≤64))]) (λTc=>[[],[],[],[],[],[eB b4 [vU 0,vL k8 iQ,vO]],[]]) [[7,8],[7,8],[7,8],[8],[],[8,10],[]] [[],[],[],[],[],[10],[]] [[0],[1],[1,2],[1,2,3],[1,2,3,4],[0,5],[1,2,3,4,6]] [] (aw.aR (ks:=[6,8]) yb (by kernel_rfl)) (λ_ _ h=>by cases h) (by kernel_rfl) hS (by kernel_rfl) rfl rfl (by kernel_rfl) (by kernel_rfl) (by kernel_rfl) (mW (by kernel_rfl) _ _) ?a7R λ_ _ Tc tX hv hS=>?ajl
 case a7R=>
  refine⟨se (λ_ _=>[⟨some (vG [vU 0,vL k8 iQ,vO]),rN b9 0 [vU 0,vL k8 iQ,vO],λ_ hS=>(hS.bk 0 rfl).eK rfl⟩]),bz,se (λ_ _=>[⟨some (vL k8 iQ),rA b9 1 (vL k8 iQ),λ_ hS=>(hS.bk 0 rfl).cd rfl⟩]),bz,bz,?_,bz,trivial⟩;intro o ho a w Tc M Hb hv hO aJ;obtain rfl:=cy ho;have H:=(Hb).add (hv 0 (by decide) (by decide) 48 rfl);have hS:=aJ;have hd:=hS.hand [1] [0] rfl rfl;refine bh.mono (qy [vU 0,vL k8 iQ,vO] H hd rfl rfl (by kernel_rfl) rfl rfl rfl) ?_;rintro v w2 hq;replace hS:=hS.join [1] [0] rfl rfl hq;exact⟨gL [],(λ_ h=>by cases h),hS.aV [0,1] rfl⟩
 have Bn:Fr 75 (fS [7,6] [vB (decide (ln iQ≤64)),vP b4]) _:=aw.add (aw.aR (ks:=[6]) tX (by kernel_rfl)) (hv 6 7 rfl);replace hS:SH M _ w [eB b4 [vU 0,vL k8 iQ,vO],eB b9 [vU 0,vL k8 iQ,vO],eO 155 k6 iQ k8,eI aa ek g15,eB b1 [vI p.dC,vB p.has]] _:=hS;clear hv tX;refine aN Bn hS (aQ ?_);cases hm;refine cR 5 (tI .u8) ?_;exact λ_ _ Bn hS=>pM Bn rfl (qx rfl (hS.bk 1 rfl) underlying152 rfl (by kernel_rfl)) rfl ⟨_,rfl,k8,Gh.nil,rfl,hS.aV [3,0] rfl⟩;intro hm;refine aq ?_;intro _ _ yb hS;exact cN hm
theorem a7S{al:Gh}(m)(v_)(p)(ik)(r)(hm:NG m v_ p ik=some r)(M:Av)(w:World)(hS:S0 M [eI aa v_ al] w):eZ prog 221 ⟨[vL al v_,vG [vI p.dC,vB p.has],vB ik]⟩ w (λv w'=>∃(aG:Gh)(dT:Gh),v=.tuple ⟨[.agg ⟨e0 r.1 (gL [aG,dT])⟩,vB r.2]⟩∧SH M (ay [eI aa v_ al]) w [eO 155 k6 r.1.bt aG,eO 5 (tI .u8) r.1.iM dT] w'):=⟨call221 _,a7Q M m v_ p ik r hm w hS⟩

def Td(m:Nat)(p:wJ)(ik:Bool)(cK:List (List ax)):Nat→List bM→Int→Option (List bM)
 |0,_,_=>none
 |kk+1,v21,v23=>cond (decide (v23<ln cK)) (aH (0≤v23∧v23<ln cK)<|Option.bind (NG m (gi cK v23) p ik) λdH=>cond dH.2 (aH (ln v21+ln ([dH.1]:List bM)≤137438953472)<|lt (v21++([dH.1]:List bM)) λqI=>Td m p ik cK kk qI (J (v23+1))) (none)) (some v21)
def Te(m:Nat)(v_:List ax)(p:wJ)(ik:Bool)(G8:Bool):Option ((List bM)×Bool):=Option.bind (G3 m v_ 18) λcK=>Option.bind (Td m p ik cK m ([]:List bM) 0) λ(fH:List bM)=>some (fH,true)
theorem a7T{al:Gh}(m)(v_)(p)(ik)(G8)(r)(hm:Te m v_ p ik G8=some r):Dm 170 [vL al v_,vG [vI p.dC,vB p.has],vB ik,vB G8] [eI aa v_ al] (λ(aG:Gh)=>vW [vL aG r.1,vB r.2]) (λaG=>[eO 152 bH r.1 aG]):=by
 rw[Te]at hm;refine gI (call170 _) func170 ntmps170 λM X w=>(aM ?_);refine uM [] [0] [1] (oB [vI p.dC,vB p.has] rfl) λb1=>?_;refine uP 3 [] (aC ?_);refine uA 10 vO [] (aM ?_);refine uB 1 [0] [15] [vL al v_] [] ?_;obtain⟨cK,nF,hm⟩:=ah hm;refine uQ [1] [0,1] [15] (NB (al:=al) m _ _ _ nF) λg11=>?_;refine uB 3 [16] [11] [vL g11 cK] [] (aC (aB [0,1] ?_));obtain⟨fH,hz,hm⟩:=ah hm;refine gv [2,3,5,11] [10] (λ(pS:Gh)=>[vL pS fH]) (λpS=>[eO 152 bH fH pS,eO 61 (Ty.sl aa) cK g11,eB b1 [vI p.dC,vB p.has]]) ?_ ?_;replace hm:=hz;refine uR [] [2,3,5,10,11,12] [vB ik,vB G8,vP b1,vO,vL g11 cK,vI 0] [] (aL ?_);refine cR 152 bH ?_;refine mw [] [10,12] (λv21 v23 g22=>[vL g22 v21,vI v23]) (λv21 _ g22=>[eO 152 bH v21 g22,eO 61 (Ty.sl aa) cK g11,eB b1 [vI p.dC,vB p.has]]) Gh.nil hm (λkk v21 v23 g22 hm=>?_);rw[Td]at hm;refine az (uI [] hm ?_ ?_);intro hm;refine aq (az (aL ?_));obtain⟨sH,dH,vk,hm⟩:=kv hm;intro _ _ JB hS;refine ra (base:=fS [2,3,5,10,11,12] [vB ik,vB G8,vP b1,vL g22 v21,vL g11 cK,vI v23]) (L:=[eO 152 bH v21 g22,eO 61 (Ty.sl aa) cK g11,eB b1 [vI p.dC,vB p.has]]) 13 3 (λiR=>[vL g11 cK,vI v23,.pointer (some ⟨ab g11.a,ao g11.a+v23.toNat*1,none⟩),.slice (g11.s v23.toNat 0).a (gi cK v23).length (g11.s v23.toNat 0).c,vG [vI p.dC,vB p.has],vB ik,.tuple ⟨[.agg ⟨e0 dH.1 (iR 6)⟩,vB dH.2]⟩,.tuple ⟨[.agg ⟨e0 dH.1 (iR 6)⟩,vB dH.2]⟩,.agg ⟨e0 dH.1 (iR 6)⟩,vB dH.2,.pointer (some ⟨ab (iR 10 0).a,0,none⟩),undef,vB dH.2]) (λiR=>[[],[],[],[eI aa (gi cK v23) (g11.s v23.toNat 0)],[],[],[eO 155 k6 dH.1.bt (iR 6 0),eO 5 (tI .u8) dH.1.iM (iR 6 1)],[],[],[],[eB (ab (iR 10 0).a) [vU 0,vO,vO]],[eB (ab (iR 10 0).a) (e0 dH.1 (iR 6))],[]]) [[],[],[14],[14],[15],[],[3],[],[6],[6],[],[6,10],[]] [[],[],[],[],[],[],[],[],[],[],[],[10],[]] [[0],[1],[0,1,2],[0,1,2,3],[4],[5],[0,1,2,3,4,5,6],[0,1,2,3,4,5,6,7],[0,1,2,3,4,5,6,7,8],[0,1,2,3,4,5,6,7,9],[10],[0,1,2,3,4,5,6,7,8,10,11],[0,1,2,3,4,5,6,7,9,12]] [] (aw.aR (ks:=[2,3,5,10,11,12]) JB (by kernel_rfl)) (λ_ _ h=>by cases h) (by kernel_rfl) hS (by kernel_rfl) rfl rfl (by kernel_rfl) (by kernel_rfl) (by kernel_rfl) (mW (by kernel_rfl) _ _) ?Tf λ_ _ iR wN hv hS=>?a7U
 case Tf=>
  refine⟨bz,bz,se (λ_ _=>[⟨none,λ_=>dW g11.a∧0≤v23∧v23<ln cK,λ_ hS=>(hS.cD 0 rfl).j3 sH⟩]),?_,se (λ_ _=>[⟨some (vG [vI p.dC,vB p.has]),rN b1 0 [vI p.dC,vB p.has],λ_ hS=>(hS.bk 0 rfl).eK rfl⟩]),bz,?_,bz,bz,bz,?_,?_,bz,trivial⟩;intro o ho a w iR M Hb hv hO aJ;obtain rfl:=cy ho;have H:=(Hb).add (hv 2 (by decide) (by decide) 26 rfl);have hS:=aJ;refine bh.mono (oC [.slice (g11.s v23.toNat 0).a (gi cK v23).length (g11.s v23.toNat 0).c] (.slice (g11.s v23.toNat 0).a (gi cK v23).length (g11.s v23.toNat 0).c) (some (λwz=>V.cd ⟨ab g11.a,ao g11.a+v23.toNat*1,none⟩ (.slice (g11.s v23.toNat 0).a (gi cK v23).length (g11.s v23.toNat 0).c) wz)) [] H rfl (by kernel_rfl) (λq e=>by cases e;exact((hS.cD 0 rfl).cd sH 0 rfl))) ?_;rintro v w2 ⟨rfl,hq⟩;replace hS:=hS.below hq.below;replace hS:=hS.fl (fk ((hS.ow 0 rfl).el sH));exact⟨gL [],λ_ _=>rfl,hS.aV [0,1] rfl⟩;intro o ho a w iR M Hb hv hO aJ;obtain rfl:=cy ho;have H:=(((Hb).add (hv 3 (by decide) (by decide) 27 rfl)).add (hv 4 (by decide) (by decide) 28 rfl)).add (hv 5 (by decide) (by decide) 29 rfl);have hS:=aJ;have hd:=hS.hand [0] [0] rfl rfl;refine bh.mono (dw H rfl rfl (a7S (al:=g11.s v23.toNat 0) m _ _ _ _ vk _ _ hd)) ?_;rintro v w2 hq;obtain⟨n9,fb,rfl,hq⟩:=hq;replace hS:=hS.join [0] [0] rfl rfl hq;exact⟨gL [n9,fb],λ_ _=>rfl,hS.aV [0,1,2] rfl⟩;intro o ho a w iR M Hb hv hO aJ;obtain rfl:=cy ho;have H:=Hb;have hS:=aJ;have hd:=hS.hand [] [] rfl rfl;refine bh.mono (ux [vU 0,vO,vO] (z:=vG [vU 0,vO,vO]) hd (by kernel_rfl) rfl) ?_;rintro v w2 hq;obtain⟨b34,rfl,hq⟩:=hq;replace hS:=hS.join [] [] rfl rfl hq;exact⟨gL [Gh.mk (some ⟨b34,0,none⟩) 0 λ_ _=>.nil],λ_ _=>rfl,hS.aV [0] rfl⟩;intro o ho a w iR M Hb hv hO aJ;obtain rfl:=cy ho;have H:=((Hb).add (hv 10 (by decide) (by decide) 13 rfl)).add (hv 8 (by decide) (by decide) 31 rfl);have hS:=aJ;have hd:=hS.hand [2] [0,1] rfl rfl;refine bh.mono (qy (e0 dH.1 (iR 6)) H hd rfl rfl (by kernel_rfl) rfl rfl rfl) ?_;rintro v w2 hq;replace hS:=hS.join [2] [0,1] rfl rfl hq;exact⟨gL [],(λ_ h=>by cases h),hS.aV [0,1,2] rfl⟩
 have kC:Fr 41 (fS [14,13,2,3,5,10,11,12] [vB dH.2,.pointer (some ⟨ab (iR 10 0).a,0,none⟩),vB ik,vB G8,vP b1,vL g22 v21,vL g11 cK,vI v23]) _:=aw.add (aw.add (aw.aR (ks:=[2,3,5,10,11,12]) wN (by kernel_rfl)) (hv 10 13 rfl)) (hv 12 14 rfl);replace hS:SH M _ w [eI aa (gi cK v23) (g11.s v23.toNat 0),eO 155 k6 dH.1.bt (iR 6 0),eO 5 (tI .u8) dH.1.iM (iR 6 1),eB (ab (iR 10 0).a) (e0 dH.1 (iR 6)),eO 152 bH v21 g22,eO 61 (Ty.sl aa) cK g11,eB b1 [vI p.dC,vB p.has]] _:=hS;clear hv wN;generalize ab (iR 10 0).a=NH at kC hS;generalize iR 6 0=oV at kC hS;generalize iR 6 1=ig at kC hS;replace hS:=hS.aV [1,2,3,4,5,6] rfl;refine aN kC hS (uR [14] [13,33] [vP NH,vB dH.2] [] ?_);refine ZK hm ?_;intro hm;refine dB (uB 2 [10,13,33] [34,35] [vL g22 v21,.agg ⟨e0 dH.1 (gL [oV,ig])⟩] [kE 2 3] ?_);refine jI [0,1,2,3,4,5] ?_;refine jI [1,0,2,3,4,5] ?_;refine uM [1,0] [0,1,2,3,4,5] [35] (oL bH 152 (vG [vU 0,vO,vO]) [dH.1] [gL [oV,ig]] (λhd=>bd.cons (a0p (hd.im 0 rfl) (hd.im 1 rfl)) bd.nil) rfl) λja=>?_;obtain⟨wO,qI,JC,hm⟩:=cv hm;refine uM [4,0] [1,2,3,5,6] [34,36] (oP bH (vG [vU 0,vO,vO]) g22 ja JC wO rfl rfl) λnI=>?_;refine uB 5 [37] [10] [vL nI qI] [] (aC (aB [0,5,6] ?_));exact wy [] nI hm;intro hm;refine bn ?_;cases hm;exact tg g22;intro pS;refine aB [0] ?_;refine uR [10] [8,9] [vL pS fH,vT] [] (aQ ?_);cases hm;exact de pS [0] fa

def a0M(m:Nat)(l_:List bM)(v9:Int)(jA:Int):Nat→Int→Int→Option Int
 |0,_,_=>none
 |kk+1,v26,gO=>lt (decide (gO<ln (gi (gi l_ v9).bt jA).bC)) λvl=>cond vl (none) (some v26)
def Tg(m:Nat)(l_:List bM)(v9:Int):Nat→Int→Int→Option Int
 |0,_,_=>none
 |kk+1,bx,jA=>aH (0≤v9∧v9<ln l_)<|cond (decide (jA<ln (gi l_ v9).bt)) (Option.bind (aH (0≤jA∧jA<ln (gi l_ v9).bt)<|a0M m l_ v9 jA m bx 0) λ(z20:Int)=>Tg m l_ v9 kk z20 (J (jA+1))) (some bx)
def Th(m:Nat)(l_:List bM):Nat→Int→Int→Option Int
 |0,_,_=>none
 |kk+1,v8,v9=>cond (decide (v9<ln l_)) (Option.bind (Tg m l_ v9 m v8 0) λ(z12:Int)=>Th m l_ kk z12 (J (v9+1))) (some v8)
def Ti(m:Nat)(l_:List bM):Option Int:=Option.bind (Th m l_ m (ln l_) 0) λ(z5:Int)=>some z5
theorem a7V{a6:Gh}(m)(l_)(r)(hm:Ti m l_=some r)(w)(hL:Rd [eI bH l_ a6] w):Rb 171 [vL a6 l_] (vI r) w:=by
 rw[Ti]at hm;refine cu hL (call171 _) func171 ntmps171 λM X w=>?_;refine uO [] ?_;refine uA 3 (vI (ln l_)) [] ?_;obtain⟨z5,hz,hm⟩:=ah hm;refine uK [0] [3] [vI z5] [eI bH l_ a6] ?_ ?_;replace hm:=hz;refine uA 4 (vI 0) [] (aL ?_);refine iX [] [3,4] (λv8 v9=>[vI v8,vI v9]) (λ_ _=>[eI bH l_ a6]) hm (λkk v8 v9 hm=>?_);rw[Th]at hm;refine az (uI [] hm ?_ ?_);intro hm;refine aq ?_;obtain⟨z12,hz,hm⟩:=ah hm;refine uK [] [3] [vI z12] [eI bH l_ a6] ?_ ?_;replace hm:=hz;refine aL (uA 5 (vI 0) [] (aL ?_));refine iX [] [0,4,3,5] (λbx jA=>[vL a6 l_,vI v9,vI bx,vI jA]) (λ_ _=>[eI bH l_ a6]) hm (λkk bx jA hm=>?_);rw[Tg]at hm;refine az ?_;obtain⟨fw,hm⟩:=bW hm;refine uI [ki 0 fw,kj 0 1 fw] hm ?_ ?_;intro hm;refine aq ?_;obtain⟨z20,hz,hm⟩:=ah hm;refine uK [] [3] [vI z20] [eI bH l_ a6] ?_ ?_;replace hm:=hz;refine aL ?_;obtain⟨n7,hm⟩:=bW hm;refine uA 6 (.slice ((a6.s v9.toNat 0).s jA.toNat 0).a (gi (gi l_ v9).bt jA).bC.length ((a6.s v9.toNat 0).s jA.toNat 0).c) [ki 0 fw,kj 0 1 fw,⟨none,λ_=>dW (a6.s v9.toNat 0).a∧0≤jA∧jA<ln (gi l_ v9).bt,λ_ hS=>(lq ((hS.im 0 rfl).el fw)).j3 n7⟩,⟨some (.slice ((a6.s v9.toNat 0).s jA.toNat 0).a (gi (gi l_ v9).bt jA).bC.length ((a6.s v9.toNat 0).s jA.toNat 0).c),λwz=>V.cd ⟨ab (a6.s v9.toNat 0).a,ao (a6.s v9.toNat 0).a+jA.toNat*2+1,none⟩ (.slice ((a6.s v9.toNat 0).s jA.toNat 0).a (gi (gi l_ v9).bt jA).bC.length ((a6.s v9.toNat 0).s jA.toNat 0).c) wz,λ_ hS=>(lq ((hS.im 0 rfl).el fw)).cd n7 1 rfl⟩] ?_;refine uA 7 (vI 0) [] (aL ?_);refine iX [] [3,7] (λv26 gO=>[vI v26,vI gO]) (λ_ _=>[eI bH l_ a6]) hm (λkk v26 gO hm=>?_);rw[a0M]at hm;refine az ?_;obtain⟨vl,JD,hm⟩:=bl hm;refine uI [] hm ?_ ?_ (he:=by subst JD;kernel_rfl);intro hm;refine aq (az (aL ?_));intro _ _ Bm hS;exact cN hm;intro hm;refine bn ?_;cases hm;exact te;exact jz [] hm;intro hm;refine bn ?_;cases hm;exact te;exact jz [] hm;intro hm;refine bn ?_;cases hm;exact te;refine aB [] ?_;cases hm;exact uZ [] []

def Tj(m:Nat)(v_:List ax):Option ((List bM)×Int):=Option.bind (Te m v_ (wJ.mk 0 false) false false) λy5=>cond (!y5.2) (none) (Option.bind (Ti m y5.1) λek=>cond (decide (64<ek)) (none) (some (y5.1,0)))
theorem a7W{al:Gh}(m)(v_)(r)(hm:Tj m v_=some r):Dm 121 [vL al v_] [eI aa v_ al] (λ(aG:Gh)=>vW [vL aG r.1,vI r.2]) (λaG=>[eO 152 bH r.1 aG]):=by
 rw[Tj]at hm;refine gI (call121 _) func121 ntmps121 λM X w=>?_;refine uO [] (aM ?_);refine uB 2 [0] [7,8] [vL al v_,vG [vI 0,vF]] [] ?_;obtain⟨y5,iN,hm⟩:=ah hm;refine uQ [0] [0] [7,8] (a7T (al:=al) m _ _ _ _ _ iN) λg6=>?_;refine uB 8 [9] [4,5] [vL g6 y5.1,vB y5.2] [] (aC (aB [0] (az ?_)));refine su [5] [] hm ?_;intro hm;refine aq (az ?_);obtain⟨ek,sJ,hm⟩:=ah hm;refine gu [kr λ_ hS=>a7V (a6:=g6) m _ _ sJ _ (aK bc (hS.cD 0 rfl))] hm ?_;intro hm;refine aq (uR [4] [2,3] [vL g6 y5.1,vI 0] [] (aQ ?_));cases hm;exact de g6 [0] fa

def Tk(m:Nat)(v_:List ax):Option (cT×Bool):=Option.bind (Bk m v_) λy8=>aH ((ln y8==0)=false→0≤(0:Int)∧(0:Int)<ln y8)<|lt (cond (ln y8==0) true ((gi y8 (0:Int)).aY.an !=1)) λoG=>cond oG (some (cT.mk [] ([]:List ax) false,false)) (none)
theorem a7X{al:Gh}(m)(v_)(r)(hm:Tk m v_=some r):Dm 173 [vL al v_] [eI aa v_ al] (λ(aG:Gh)=>.tuple ⟨[.agg ⟨e8 r.1 (gL [aG])⟩,vB r.2]⟩) (λaG=>[eO 163 aa r.1.Value aG]):=by
 rw[Tk]at hm;refine gI (call173 _) func173 ntmps173 λM X w=>(aM ?_);refine uM [] [0] [] (oA [vN,vO,vF]) λb1=>?_;refine uP 2 [] (aC (aM ?_));refine uB 1 [0] [5] [vL al v_] [] ?_;obtain⟨y8,kw,hm⟩:=ah hm;refine uQ [1] [0,1] [5] (G4 (al:=al) m _ _ kw) λg9=>?_;refine uB 3 [6] [0] [vL g9 y8] [] (aC (aB [0,1] (az ?_)));obtain⟨iP,oG,zk,hm⟩:=cv hm;refine uI [ku (gF (ln y8==0)) 0 λhg=>iP hg.1,mv (gF (ln y8==0)) 0 0 λhg=>iP hg.1] hm ?_ ?_ (he:=by subst zk;kernel_rfl);intro hm;refine aM (uB 1 [0] [18] [vG [vN,vO,vF]] [] ?_);refine uL [1] [0] [18] (oS [vN,vO,vF] rfl rfl) ?_;refine uB 3 [] [2,3] [vP b1,vF] [] (aC (aB [0] (aQ ?_)));cases hm;refine cR 163 aa ?_;exact de Gh.nil [0] (lV 1 underlying63);intro hm;refine aq ?_;intro _ _ nJ hS;exact cN hm

def Tl(m:Nat)(y7:List (List ax)):Nat→Int→Option Unit
 |0,_=>none
 |kk+1,bZ=>cond (cond (decide (bZ<ln y7)) true false) (aH (0≤bZ∧bZ<ln y7)<|Option.bind (Tk m (gi y7 bZ)) λcJ=>cond cJ.2 (none) (Tl m y7 kk (J (bZ+1)))) (some ())
def Tm(m:Nat)(v_:List ax):Option (List cT):=Option.bind (G3 m v_ 17) λy7=>Option.bind (Tl m y7 m 0) λ(iO:Unit)=>some ([]:List cT)
theorem a7Y{al:Gh}(m)(v_)(r)(hm:Tm m v_=some r):Dm 122 [vL al v_] [eI aa v_ al] (λ(aG:Gh)=>vL aG r) (λaG=>[eO 63 dE r aG]):=by
 rw[Tm]at hm;refine gI (call122 _) func122 ntmps122 λM X w=>?_;refine uO [] ?_;refine uA 3 vO [] (aM ?_);refine uB 1 [0] [8] [vL al v_] [] ?_;obtain⟨y7,rj,hm⟩:=ah hm;refine uQ [0] [0] [8] (NB (al:=al) m _ _ _ rj) λg8=>?_;refine uB 3 [9] [4] [vL g8 y7] [] (aC (aB [0] ?_));obtain⟨iO,hz,hm⟩:=ah hm;refine uK [4] [] [] [eO 61 (Ty.sl aa) y7 g8] ?_ ?_;replace hm:=hz;refine uA 5 (vI 0) [] (aL ?_);refine eQ [] [4,3,5] (λbZ=>[vL g8 y7,vO,vI bZ]) (λ_=>[eO 61 (Ty.sl aa) y7 g8]) hm (λkk bZ hm=>?_);rw[Tl]at hm;refine az (uI [] hm ?_ ?_);intro hm;refine aq (az (aL (aM ?_)));obtain⟨Bo,hm⟩:=bW hm;refine uB 4 [] [25] [.slice (g8.s bZ.toNat 0).a (gi y7 bZ).length (g8.s bZ.toNat 0).c] [kI 0 Bo,kJ 0 0 Bo] ?_;intro _ _ lF hS;replace hS:=hS.fl (fk ((hS.ow 0 rfl).el Bo));obtain⟨cJ,o7,hm⟩:=ah hm;refine aN lF hS (uQ [0] [0,1] [25] (a7X (al:=g8.s bZ.toNat 0) m _ _ o7) λfO=>?_);refine uB 8 [26] [27,28] [.agg ⟨e8 cJ.1 (gL [fO])⟩,vB cJ.2] [] ?_;refine uM [] [0,1,2] [] (oA [vN,vO,vF]) λJE=>?_;refine uL [0] [1,2,3] [27] (oS (e8 cJ.1 (gL [fO])) rfl rfl) ?_;refine uB 11 [28] [7] [vB cJ.2] [] (aC (aB [0,1,3] ?_));refine uR [7] [3,4,5,6,29] [vO,vL g8 y7,vI bZ,vP JE,vB cJ.2] [] ?_;refine Dn hm ?_;intro hm;refine aq (uW [6,29] [5] [vI (J (bZ+1))] [] (aB [2] ?_));exact ZR hm;intro hm;refine bn ?_;cases hm;exact te;refine aB [] (uR [3] [2] [vO] [] (aQ ?_));cases hm;refine cR 63 dE ?_;exact de Gh.nil [0] bp

def G9(m:Nat)(a_:a7)(b_:a7):Option Bool:=Option.bind (Bl m a_) λy3=>Option.bind (Bl m b_) λy4=>some (y3==y4)
theorem NI(m)(a_)(b_)(r)(hm:G9 m a_ b_=some r):Rt 123 [vS a_,vS b_] (vB r):=by
 rw[G9]at hm;refine dh (call123 _) func123 ntmps123 λM X w=>?_;refine uO [] ?_;obtain⟨y3,cg,y4,qC,hm⟩:=pr hm;cases hm;exact uZ [] [kc (G7 m _ _ cg),kc (G7 m _ _ qC)]

def NJ(m:Nat)(v_:List ax)(i:Int)(s:a7):Option Bool:=aH (decide (i<ln v_)=true→0≤i∧i<ln v_)<|lt (cond (decide (i<ln v_)) ((gi v_ i).aY.an==1) false) λx4=>aH (x4=true→0≤i∧i<ln v_)<|Option.bind (cond x4 (G9 m (gi v_ i).aY.db s) (some default)) λy6=>some (cond x4 y6 false)
theorem a0N{al:Gh}(m)(v_)(i)(s)(r)(hm:NJ m v_ i s=some r)(w)(hL:Rd [eI aa v_ al] w):Rb 225 [vL al v_,vI i,vS s] (vB r) w:=by
 rw[NJ]at hm;refine cu hL (call225 _) func225 ntmps225 λM X w=>?_;refine uO [] ?_;obtain⟨lv,x4,mF,hm⟩:=cv hm;obtain⟨Dy,y6,gK,hm⟩:=kv hm;refine uR [0,1,2] [6] [vB (cond x4 y6 false)] [ku (gT (decide (i<ln v_))) 0 λhg=>lv hg.1,mv (gT (decide (i<ln v_))) 0 0 λhg=>lv hg.1,ku (gT x4) 0 λhg=>Dy hg.1,mv (gT x4) 0 1 λhg=>Dy hg.1,fF (gT x4) λhg=>NI m _ _ _ (bT (hg.1) gK)] ?_ (he:=by subst mF;kernel_rfl);refine aB [] (aQ ?_);cases hm;exact bi [] bp

def NK(v_:List ax)(i:Int)(k_:Int):Option Bool:=aH (decide (i<ln v_)=true→0≤i∧i<ln v_)<|lt (cond (decide (i<ln v_)) ((gi v_ i).aY.an==k_) false) λx4=>some x4
theorem a0O{al:Gh}(v_)(i)(k_)(r)(hm:NK v_ i k_=some r)(w)(hL:Rd [eI aa v_ al] w):Rb 227 [vL al v_,vI i,vU k_] (vB r) w:=by
 rw[NK]at hm;refine cu hL (call227 _) func227 ntmps227 λM X w=>?_;refine uO [] ?_;obtain⟨lv,x4,mF,hm⟩:=cv hm;refine uR [0,1,2] [6] [vB x4] [ku (gT (decide (i<ln v_))) 0 λhg=>lv hg.1,mv (gT (decide (i<ln v_))) 0 0 λhg=>lv hg.1] ?_ (he:=by subst mF;kernel_rfl);refine aB [] (aQ ?_);cases hm;exact bi [] bp

def Tn(m:Nat)(s:a7):Nat→Int→Option Unit
 |0,_=>none
 |kk+1,v12=>cond (decide (v12<ln s)) (aH (0≤v12∧v12<ln s)<|cond (bR s v12==0) (none) (Tn m s kk (J (v12+1)))) (some ())
def To(m:Nat)(s:a7):Option Bool:=lt (cond (s==[]) true (decide (64<ln s))) λx3=>Option.bind (cond x3 (some default) (Bl m s)) λy4=>lt (cond (cond x3 true (!(s==y4))) true (s==[97,110,100])) λx5=>lt (cond (cond x5 true (s==[111,114])) true (s==[110,111,116])) λx6=>cond (cond x6 true (s==[111,110,108,121])) (none) (Option.bind (Tn m s m 0) λ(z9:Unit)=>some true)
theorem a7Z(m)(s)(r)(hm:To m s=some r):Rt 229 [vS s] (vB r):=by
 rw[To]at hm;refine dh (call229 _) func229 ntmps229 λM X w=>?_;refine uO [] (az ?_);obtain⟨x3,iD,y4,qC,hm⟩:=sB hm;obtain⟨x5,DQ,x6,oH,hm⟩:=eL hm;refine gu [fF (gF x3) λhg=>G7 m _ _ (bF (hg.1) qC)] hm ?_ (he:=by subst iD DQ oH;kernel_rfl);intro hm;refine aq ?_;obtain⟨z9,hz,hm⟩:=ah hm;refine uK [0] [] [] [] ?_ ?_;replace hm:=hz;refine uA 3 (vI 0) [] (aL ?_);refine eQ [] [3] (λv12=>[vI v12]) (λ_=>[]) hm (λkk v12 hm=>?_);rw[Tn]at hm;refine az (uI [] hm ?_ ?_);intro hm;refine aq (az (aL ?_));obtain⟨iP,hm⟩:=bW hm;refine gu [kh iP] hm ?_;intro hm;exact aq (gw [] hm);intro hm;refine bn ?_;cases hm;exact te;cases hm;exact uZ [] []

def a0P(m:Nat)(v_:List ax):Nat→Int→Option Int
 |0,_=>none
 |kk+1,v4=>Option.bind (NK v_ v4 13) λy5=>cond y5 (none) (some v4)
def Tp(m:Nat)(v_:List ax)(i:Int):Option Int:=Option.bind (a0P m v_ m i) λ(z3:Int)=>some z3
theorem a81{al:Gh}(m)(v_)(i)(r)(hm:Tp m v_ i=some r)(w)(hL:Rd [eI aa v_ al] w):Rb 226 [vL al v_,vI i] (vI r) w:=by
 rw[Tp]at hm;refine cu hL (call226 _) func226 ntmps226 λM X w=>?_;refine uO [] ?_;obtain⟨z3,hz,hm⟩:=ah hm;refine uK [0] [1] [vI z3] [eI aa v_ al] ?_ ?_;replace hm:=hz;refine aL (eQ [] [1] (λv4=>[vI v4]) (λ_=>[eI aa v_ al]) hm (λkk v4 hm=>?_));rw[a0P]at hm;refine az ?_;obtain⟨y5,iN,hm⟩:=ah hm;refine uI [kr λ_ hS=>a0O (al:=al) _ _ _ _ iN _ (aK bc (hS.im 0 rfl))] hm ?_ ?_;intro hm;refine aq (aL ?_);intro _ _ H7 hS;exact cN hm;intro hm;refine bn ?_;cases hm;exact te;refine aB [] ?_;cases hm;exact uZ [] []

def a0Q(m:Nat)(y6:List ax):Nat→Int→Option Unit
 |0,_=>none
 |kk+1,ff=>cond (decide (ff<ln y6)) (none) (some ())
def NL(m:Nat)(v_:List ax):Option bu:=Option.bind (Bk m v_) λy6=>Option.bind (NJ m y6 0 [110,111,116]) λgM=>Option.bind (cond gM (some default) (NJ m y6 0 [111,110,108,121])) λcS=>cond (cond gM true cS) (none) (Option.bind (NK y6 0 1) λda=>cond da (aH (0≤(0:Int)∧(0:Int)<ln y6)<|Option.bind (Bl m (gi y6 (0:Int)).aY.db) λeM=>Option.bind (To m eM) λjJ=>cond (!jJ) (none) (aH (ln ([]:List bu)+ln ([bu.mk 4 eM 0 (cT.mk [] [] false) []]:List bu)≤137438953472)<|lt (([]:List bu)++([bu.mk 4 eM 0 (cT.mk [] [] false) []]:List bu)) λpZ=>Option.bind (Option.bind (Tp m y6 1) λGa=>a0Q m y6 m Ga) λ(DT:Unit)=>cond gM (none) (some (bu.mk 1 [] 0 (cT.mk [] ([]:List ax) false) pZ)))) (none))
theorem a82{al:Gh}(M:Av)(m)(v_)(r)(hm:NL m v_=some r)(w:World)(hS:S0 M [eI aa v_ al] w):Calls prog 176 ⟨[vL al v_]⟩ w (λe w'=>∃v,e=.returned v∧∃(aG:Gh)(dT:Gh),v=.agg ⟨e4 r (gL [aG,dT])⟩∧SH M (ay [eI aa v_ al]) w [eO 163 aa r.aS.Value aG,eO 66 bq r.ae dT] w'):=by
 rw[NL]at hm;have aJ:SH M (ay [eI aa v_ al]) w [eI aa v_ al] w:=hS;generalize hX:ay [eI aa v_ al]=X at aJ⊢;clear hS hX;have hS:=aJ;clear aJ;refine eg func176 rfl ntmps176 rfl λ_ H=>?_;refine aN H hS (aM (eA [] [0] [0] [vL al v_] (oA [vU 0,vN,vI 0,vN,vO,vF,vO]) λb1=>aC (aM ?_)));refine uB 1 [0] [2,11] [vP b1,vL al v_] [] ?_;obtain⟨y6,gK,hm⟩:=ah hm;refine uQ [1] [0,1] [11] (G4 (al:=al) m _ _ gK) λg7=>?_;refine uB 3 [12] [0] [vL g7 y6] [] (aC (aB [0,1] (aM ?_)));refine uB 1 [] [13] [vG [vU 1,vN,vI 0,vN,vO,vF,vO]] [] ?_;refine uM [] [0,1] [] (oA [vU 0,vN,vI 0,vN,vO,vF,vO]) λBp=>?_;refine uL [0] [1,2] [13] (oS [vU 1,vN,vI 0,vN,vO,vF,vO] rfl rfl) (aC ?_);refine uR [] [0,2,3,4] [vL g7 y6,vP b1,vP Bp,vI 0] [] ?_;obtain⟨gM,wF,hm⟩:=ah hm;refine uA 5 (vB gM) [kr λ_ hS=>a0N (al:=g7) m _ _ _ _ wF _ (aK bc (hS.im 1 rfl))] (az ?_);obtain⟨cS,oW,hm⟩:=ah hm;refine gu [fv (gF gM) λ_ hS hg=>a0N (al:=g7) m _ _ _ _ (bF (hg.1) oW) _ (aK bc (hS.im 1 rfl))] hm ?_;intro hm;refine aq (az ?_);obtain⟨da,u5,hm⟩:=ah hm;refine RY [kr λ_ hS=>a0O (al:=g7) _ _ _ _ u5 _ (aK bc (hS.im 1 rfl))] hm ?_;intro hm;obtain⟨a0R,eM,wP,hm⟩:=kv hm;refine uA 6 (vS eM) [ki 1 a0R,kj 1 1 a0R,kc (G7 m _ _ wP)] (az ?_);obtain⟨jJ,yc,hm⟩:=ah hm;refine gu [kc (a7Z m _ _ yc)] hm ?_;intro hm;refine aq (dB (uB 4 [6] [43,45] [vO,vG [vU 4,vS eM,vI 0,vN,vO,vF,vO]] [kb 0 6] ?_));refine uM [] [0,1,2] [45] (oL bq 66 (vG [vU 0,vN,vI 0,vN,vO,vF,vO]) [bu.mk 4 eM 0 (cT.mk [] [] false) []] [gL [Gh.nil,Gh.nil]] (λ_=>bd.cons (Ss aP.nil aP.nil) bd.nil) rfl) λig=>?_;refine cR 66 bq ?_;obtain⟨rE,pZ,Tq,hm⟩:=cv hm;refine uM [0,1] [2,3,4] [43,46] (oP bq (vG [vU 0,vN,vI 0,vN,vO,vF,vO]) Gh.nil ig Tq rE rfl rfl) λjK=>?_;refine uB 7 [] [47,48] [vL jK pZ,vA Bp 6] [] ?_;refine pn [2] [0,1,3,4] [0,2,3,4,5] [vL g7 y6,vP b1,vP Bp,vI 0,vB gM] (oS [vU 1,vN,vI 0,vN,vO,vF,vL jK pZ] rfl rfl) (aC (aB [0,1,3,4] ?_));obtain⟨DT,hz,hm⟩:=ah hm;refine uK [0,4] [] [] [eB Bp [vU 1,vN,vI 0,vN,vO,vF,vL jK pZ],eO 66 bq pZ jK,eI aa y6 g7,eB b1 [vU 0,vN,vI 0,vN,vO,vF,vO]] ?_ ?_;replace hm:=hz;obtain⟨Ga,Tr,hm⟩:=ah hm;refine uA 4 (vI Ga) [kr λ_ hS=>a81 (al:=g7) m _ _ _ Tr _ (aK bc (hS.im 2 rfl))] (aL ?_);refine eQ [] [4] (λff=>[vI ff]) (λ_=>[eB Bp [vU 1,vN,vI 0,vN,vO,vF,vL jK pZ],eO 66 bq pZ jK,eI aa y6 g7,eB b1 [vU 0,vN,vI 0,vN,vO,vF,vO]]) hm (λkk ff hm=>?_);rw[a0Q]at hm;refine az (uI [] hm ?_ ?_);intro hm;refine aq (az (aL (az ?_)));intro _ _ Bh hS;exact cN hm;intro hm;refine bn ?_;cases hm;exact te;refine aB [0,1,3] (az ?_);refine su [5] [] hm ?_;intro hm;refine aq (aM (uB 1 [3] [104] [vG [vU 1,vN,vI 0,vN,vO,vF,vL jK pZ]] [⟨some (vG [vU 1,vN,vI 0,vN,vO,vF,vL jK pZ]),rN Bp 0 [vU 1,vN,vI 0,vN,vO,vF,vL jK pZ],λ_ hS=>(hS.bk 0 rfl).eK rfl⟩] ?_));refine uL [2] [0,1] [104] (oS [vU 1,vN,vI 0,vN,vO,vF,vL jK pZ] rfl rfl) (aC (aB [0,2] (aQ ?_)));cases hm;refine cR 163 aa ?_;exact λ_ _ Ts hS=>tJ Ts rfl (qx rfl (hS.bk 1 rfl) underlying66 rfl (by kernel_rfl)) ⟨_,rfl,Gh.nil,jK,rfl,hS.aV [0,2] rfl⟩
theorem a83{al:Gh}(m)(v_)(r)(hm:NL m v_=some r)(M:Av)(w:World)(hS:S0 M [eI aa v_ al] w):eZ prog 176 ⟨[vL al v_]⟩ w (λv w'=>∃(aG:Gh)(dT:Gh),v=.agg ⟨e4 r (gL [aG,dT])⟩∧SH M (ay [eI aa v_ al]) w [eO 163 aa r.aS.Value aG,eO 66 bq r.ae dT] w'):=⟨call176 _,a82 M m v_ r hm w hS⟩

def Tu(m:Nat)(cJ:List (List ax)):Nat→Int→List bu→Option (List bu)
 |0,_,_=>none
 |kk+1,cM,fP=>cond (decide (cM<ln cJ)) (aH (0≤cM∧cM<ln cJ)<|Option.bind (NL m (gi cJ cM)) λnK=>aH (ln fP+ln ([nK]:List bu)≤137438953472)<|lt (fP++([nK]:List bu)) λzu=>Tu m cJ kk (J (cM+1)) zu) (some fP)
def NM(m:Nat)(v_:List ax):Option (bu×Bool):=Option.bind (Bk m v_) λy8=>cond (ln y8==0) (none) (Option.bind (G3 m v_ 18) λcJ=>Option.bind (Tu m cJ m 0 ([]:List bu)) λ(z31:List bu)=>some (bu.mk 2 [] 0 (cT.mk [] ([]:List ax) false) z31,decide (ln cJ≤64)))
theorem a84{al:Gh}(M:Av)(m)(v_)(r)(hm:NM m v_=some r)(w:World)(hS:S0 M [eI aa v_ al] w):Calls prog 124 ⟨[vL al v_]⟩ w (λe w'=>∃v,e=.returned v∧∃(aG:Gh)(dT:Gh),v=.tuple ⟨[.agg ⟨e4 r.1 (gL [aG,dT])⟩,vB r.2]⟩∧SH M (ay [eI aa v_ al]) w [eO 163 aa r.1.aS.Value aG,eO 66 bq r.1.ae dT] w'):=by
 rw[NM]at hm;have aJ:SH M (ay [eI aa v_ al]) w [eI aa v_ al] w:=hS;generalize hX:ay [eI aa v_ al]=X at aJ⊢;clear hS hX;have hS:=aJ;clear aJ;refine eg func124 rfl ntmps124 rfl λ_ H=>?_;refine aN H hS (aM (eA [] [0] [0] [vL al v_] (oA [vU 0,vN,vI 0,vN,vO,vF,vO]) λb1=>?_));refine uP 2 [] (aC (az (aM ?_)));refine uB 1 [] [7] [vL al v_] [] ?_;obtain⟨y8,kw,hm⟩:=ah hm;refine uQ [1] [0,1] [7] (G4 (al:=al) m _ _ kw) λg9=>?_;refine uB 4 [8] [10] [vB (ln y8==0)] [] (aC (aB [1,2] ?_));refine Dn hm ?_;intro hm;refine aq (aM (uB 1 [10] [12] [vG [vU 2,vN,vI 0,vN,vO,vF,vO]] [] ?_));refine uM [] [0,1] [] (oA [vU 0,vN,vI 0,vN,vO,vF,vO]) λgN=>?_;refine uL [0] [1,2] [12] (oS [vU 2,vN,vI 0,vN,vO,vF,vO] rfl rfl) (aC (aM ?_));refine uB 1 [0] [2,4,13] [vP b1,vP gN,vL al v_] [] ?_;obtain⟨cJ,o7,hm⟩:=ah hm;refine uQ [2] [0,1,2] [13] (NB (al:=al) m _ _ _ o7) λfO=>?_;refine uB 3 [14] [5] [vL fO cJ] [] (aC (aB [0,1,2] ?_));obtain⟨z31,hz,hm⟩:=ah hm;refine gv [] [] (λ(jd:Gh)=>[]) (λjd=>[eO 66 bq z31 jd,eO 61 (Ty.sl aa) cJ fO,eB gN [vU 2,vN,vI 0,vN,vO,vF,vL jd z31],eB b1 [vU 0,vN,vI 0,vN,vO,vF,vO]]) ?_ ?_;replace hm:=hz;refine uA 6 (vI 0) [] (aL ?_);refine cR 66 bq ?_;refine mw [] [6] (λcM _ _=>[vI cM]) (λ_ fP mI=>[eO 66 bq fP mI,eO 61 (Ty.sl aa) cJ fO,eB gN [vU 2,vN,vI 0,vN,vO,vF,vL mI fP],eB b1 [vU 0,vN,vI 0,vN,vO,vF,vO]]) Gh.nil hm (λkk cM fP mI hm=>?_);rw[Tu]at hm;refine az (uI [] hm ?_ ?_);intro hm;refine aq (az (aL ?_));obtain⟨pX,nK,JF,hm⟩:=kv hm;obtain⟨JG,zu,a86,hm⟩:=cv hm;intro _ _ sK hS;refine Dq (base:=fS [2,4,5,6] [vP b1,vP gN,vL fO cJ,vI cM]) (L:=[eO 66 bq fP mI,eO 61 (Ty.sl aa) cJ fO,eB gN [vU 2,vN,vI 0,vN,vO,vF,vL mI fP],eB b1 [vU 0,vN,vI 0,vN,vO,vF,vO]]) 11 4 (λiS=>[vA gN 6,vL mI fP,vL fO cJ,vI cM,.pointer (some ⟨ab fO.a,ao fO.a+cM.toNat*1,none⟩),.slice (fO.s cM.toNat 0).a (gi cJ cM).length (fO.s cM.toNat 0).c,.agg ⟨e4 nK (iS 6)⟩,vK (iS 7 0) 1,.slice (iS 8 0).a zu.length (iS 8 0).c,vA gN 6,undef]) (λiS=>[[],[],[],[],[],[eI aa (gi cJ cM) (fO.s cM.toNat 0)],[eO 163 aa nK.aS.Value (iS 6 0),eO 66 bq nK.ae (iS 6 1)],[eO 66 bq ([nK]:List bu) (iS 7 0),eI bq nK.ae (iS 6 1),eI aa nK.aS.Value (iS 6 0)],[eO 66 bq zu (iS 8 0)],[],[eB gN [vU 2,vN,vI 0,vN,vO,vF,.slice (iS 8 0).a zu.length (iS 8 0).c]]]) [[11,13],[11,13],[],[],[12],[12],[5],[6],[7,11],[8,13],[8,13]] [[],[],[],[],[],[],[],[6],[11],[],[13]] [[0],[0,1],[2],[3],[2,3,4],[2,3,4,5],[2,3,4,5,6],[2,3,4,5,6,7],[0,1,2,3,4,5,6,7,8],[9],[0,1,2,3,4,5,6,7,8,9,10]] [] (aw.aR (ks:=[2,4,5,6]) sK (by kernel_rfl)) (λ_ _ h=>by cases h) (by kernel_rfl) hS (by kernel_rfl) rfl rfl (by kernel_rfl) (by kernel_rfl) (by kernel_rfl) (mW (by kernel_rfl) _ _) ?a88 λ_ _ iS vm hv hS=>?ajm
 case a88=>
  refine⟨bz,se (λ_ _=>[⟨some (vL mI fP),rA gN 6 (vL mI fP),λ_ hS=>(hS.bk 1 rfl).cd rfl⟩]),bz,bz,se (λ_ _=>[⟨none,λ_=>dW fO.a∧0≤cM∧cM<ln cJ,λ_ hS=>(hS.cD 0 rfl).j3 pX⟩]),?_,?_,?_,?_,bz,?_,trivial⟩;intro o ho a w iS M Hb hv hO aJ;obtain rfl:=cy ho;have H:=(Hb).add (hv 4 (by decide) (by decide) 25 rfl);have hS:=aJ;refine bh.mono (oC [.slice (fO.s cM.toNat 0).a (gi cJ cM).length (fO.s cM.toNat 0).c] (.slice (fO.s cM.toNat 0).a (gi cJ cM).length (fO.s cM.toNat 0).c) (some (λwz=>V.cd ⟨ab fO.a,ao fO.a+cM.toNat*1,none⟩ (.slice (fO.s cM.toNat 0).a (gi cJ cM).length (fO.s cM.toNat 0).c) wz)) [] H rfl (by kernel_rfl) (λq e=>by cases e;exact((hS.cD 0 rfl).cd pX 0 rfl))) ?_;rintro v w2 ⟨rfl,hq⟩;replace hS:=hS.below hq.below;replace hS:=hS.fl (fk ((hS.ow 0 rfl).el pX));exact⟨gL [],λ_ _=>rfl,hS.aV [0,1] rfl⟩;intro o ho a w iS M Hb hv hO aJ;obtain rfl:=cy ho;have H:=(Hb).add (hv 5 (by decide) (by decide) 26 rfl);have hS:=aJ;have hd:=hS.hand [0] [0] rfl rfl;refine bh.mono (dw H rfl rfl (a83 (al:=fO.s cM.toNat 0) m _ _ JF _ _ hd)) ?_;rintro v w2 hq;obtain⟨je,lE,rfl,hq⟩:=hq;replace hS:=hS.join [0] [0] rfl rfl hq;exact⟨gL [je,lE],λ_ _=>rfl,hS.aV [0,1,2] rfl⟩;intro o ho a w iS M Hb hv hO aJ;obtain rfl:=cy ho;have H:=(Hb).add (hv 6 (by decide) (by decide) 27 rfl);have hS:=aJ;replace hS:=SH.fK (hS.aV [0,1] rfl);replace hS:=SH.fK (hS.aV [1,0] rfl);have hd:=hS.hand [1,0] [0,1] rfl rfl;refine bh.mono (oM bq 66 (vG [vU 0,vN,vI 0,vN,vO,vF,vO]) [nK] [gL [iS 6 0,iS 6 1]] H hd rfl (bd.cons (Ss (hd.im 0 rfl) (hd.im 1 rfl)) bd.nil)) ?_;rintro v w2 hq;obtain⟨px,rfl,hq⟩:=hq;replace hS:=hS.join [1,0] [0,1] rfl rfl hq;exact⟨gL [px],λ_ _=>rfl,hS.aV [0,1,2] rfl⟩;intro o ho a w iS M Hb hv hO aJ;obtain rfl:=cy ho;have H:=((Hb).add (hv 1 (by decide) (by decide) 22 rfl)).add (hv 7 (by decide) (by decide) 28 rfl);have hS:=aJ;have hd:=hS.hand [3,0] [1,2] rfl rfl;refine bh.mono (B0 (T:=bq) (zv:=vG [vU 0,vN,vI 0,vN,vO,vF,vO]) (g1:=mI) (g2:=iS 7 0) (l1:=fP) (l2:=([nK]:List bu)) zu a86.symm H hd rfl rfl rfl rfl rfl rfl rfl (by kernel_rfl) (by kernel_rfl) rfl rfl JG) ?_;rintro v w2 hq;obtain⟨nL,rfl,hq⟩:=hq;replace hS:=hS.join [3,0] [1,2] rfl rfl hq;exact⟨gL [nL],λ_ _=>rfl,hS.aV [0,1,2,3] rfl⟩;intro o ho a w iS M Hb hv hO aJ;obtain rfl:=cy ho;have H:=((Hb).add (hv 8 (by decide) (by decide) 29 rfl)).add (hv 9 (by decide) (by decide) 30 rfl);have hS:=aJ;have hd:=hS.hand [1] [0] rfl rfl;refine bh.mono (qy [vU 2,vN,vI 0,vN,vO,vF,.slice (iS 8 0).a zu.length (iS 8 0).c] H hd rfl rfl (by kernel_rfl) rfl rfl rfl) ?_;rintro v w2 hq;replace hS:=hS.join [1] [0] rfl rfl hq;exact⟨gL [],(λ_ h=>by cases h),hS.aV [0,1] rfl⟩
 have JH:Fr 35 (fS [2,4,5,6] [vP b1,vP gN,vL fO cJ,vI cM]) _:=aw.aR (ks:=[2,4,5,6]) vm (by kernel_rfl);replace hS:SH M _ w [eI aa (gi cJ cM) (fO.s cM.toNat 0),eO 66 bq ([nK]:List bu) (iS 7 0),eI bq nK.ae (iS 6 1),eI aa nK.aS.Value (iS 6 0),eO 66 bq zu (iS 8 0),eB gN [vU 2,vN,vI 0,vN,vO,vF,.slice (iS 8 0).a zu.length (iS 8 0).c],eO 61 (Ty.sl aa) cJ fO,eB b1 [vU 0,vN,vI 0,vN,vO,vF,vO]] _:=hS;clear hv vm;generalize iS 7 0=zw at JH hS;generalize iS 6 1=JI at JH hS;generalize iS 6 0=jL at JH hS;generalize iS 8 0=oN at JH hS;replace hS:=hS.aV [4,5,6,7] rfl;refine aN JH hS (uV 6 (vI (J (cM+1))) [] (aB [0,2,1,3] ?_));exact uH oN hm;intro hm;refine bn ?_;cases hm;exact tg mI;intro jd;refine aM (uB 4 [4,5] [31,34] [vG [vU 2,vN,vI 0,vN,vO,vF,vL jd z31],vB (decide (ln cJ≤64))] [⟨some (vG [vU 2,vN,vI 0,vN,vO,vF,vL jd z31]),rN gN 0 [vU 2,vN,vI 0,vN,vO,vF,vL jd z31],λ_ hS=>(hS.bk 2 rfl).eK rfl⟩] ?_);refine uL [3] [0,1,2] [31] (oS [vU 2,vN,vI 0,vN,vO,vF,vL jd z31] rfl rfl) ?_;refine uB 6 [34] [3] [vB (decide (ln cJ≤64))] [] (aC (aB [0,1] (aQ ?_)));cases hm;refine cR 163 aa ?_;exact λ_ _ H71 hS=>pM H71 rfl (qx rfl (hS.bk 1 rfl) underlying66 rfl (by kernel_rfl)) rfl ⟨_,rfl,Gh.nil,jd,rfl,hS.aV [0,2] rfl⟩
theorem a89{al:Gh}(m)(v_)(r)(hm:NM m v_=some r)(M:Av)(w:World)(hS:S0 M [eI aa v_ al] w):eZ prog 124 ⟨[vL al v_]⟩ w (λv w'=>∃(aG:Gh)(dT:Gh),v=.tuple ⟨[.agg ⟨e4 r.1 (gL [aG,dT])⟩,vB r.2]⟩∧SH M (ay [eI aa v_ al]) w [eO 163 aa r.1.aS.Value aG,eO 66 bq r.1.ae dT] w'):=⟨call124 _,a84 M m v_ r hm w hS⟩

def Tw(m:Nat)(l_:List a7):Nat→Int→Option Unit
 |0,_=>none
 |kk+1,v9=>cond (decide (v9<ln l_)) (aH (0≤v9∧v9<ln l_)<|Option.bind (NF m (gi l_ v9)) λjM=>cond (!jM) (none) (Tw m l_ kk (J (v9+1)))) (some ())
def Tx(m:Nat)(l_:List a7):Option Bool:=lt (cond (decide (ln l_<1)) true (decide (16<ln l_))) λx3=>cond x3 (none) (Option.bind (Tw m l_ m 0) λ(z6:Unit)=>some true)
theorem a8a{a6:Gh}(m)(l_)(r)(hm:Tx m l_=some r)(w)(hL:Rd [eI tS l_ a6] w):Rb 234 [vL a6 l_] (vB r) w:=by
 rw[Tx]at hm;refine cu hL (call234 _) func234 ntmps234 λM X w=>?_;refine uO [] (az ?_);obtain⟨x3,iD,hm⟩:=bl hm;refine gu [] hm ?_ (he:=by subst iD;kernel_rfl);intro hm;refine aq ?_;obtain⟨z6,hz,hm⟩:=ah hm;refine uK [0] [] [] [eI tS l_ a6] ?_ ?_;replace hm:=hz;refine uA 3 (vI 0) [] (aL ?_);refine eQ [] [3] (λv9=>[vI v9]) (λ_=>[eI tS l_ a6]) hm (λkk v9 hm=>?_);rw[Tw]at hm;refine az (uI [] hm ?_ ?_);intro hm;refine aq (az (aL ?_));obtain⟨mG,jM,wQ,hm⟩:=kv hm;refine gu [ki 0 mG,kj 0 0 mG,kc (a0I m _ _ wQ)] hm ?_;intro hm;exact aq (gw [] hm);intro hm;refine bn ?_;cases hm;exact te;refine aB [] ?_;cases hm;exact uZ [] []

def Tz(m:Nat)(y5:List ax):Nat→List a7→Int→Option (List a7)
 |0,_,_=>none
 |kk+1,bJ,v20=>cond (decide (v20<ln y5)) (aH (0≤v20∧v20<ln y5)<|cond (Int.tmod v20 2==0) (cond ((gi y5 v20).aY.an !=1) (none) (aH (ln bJ+ln ([(gi y5 v20).aY.db]:List a7)≤137438953472)<|lt (bJ++([(gi y5 v20).aY.db]:List a7)) λDU=>Tz m y5 kk DU (J (v20+1)))) (none)) (some bJ)
def NN(m:Nat)(v_:List ax):Option ((List a7)×Bool):=Option.bind (Bk m v_) λy5=>Option.bind (Tz m y5 m ([]:List a7) 0) λ(iO:List a7)=>Option.bind (cond (Int.tmod (ln y5) 2==1) (Tx m iO) (some default)) λy56=>lt (cond (Int.tmod (ln y5) 2==1) y56 false) λkF=>some (iO,kF)
theorem a0S{al:Gh}(m)(v_)(r)(hm:NN m v_=some r):Dm 179 [vL al v_] [eI aa v_ al] (λ(aG:Gh)=>vW [vL aG r.1,vB r.2]) (λaG=>[eO 9 tS r.1 aG]):=by
 rw[NN]at hm;refine gI (call179 _) func179 ntmps179 λM X w=>?_;refine uO [] (aM ?_);refine uB 1 [0] [7] [vL al v_] [] ?_;obtain⟨y5,iN,hm⟩:=ah hm;refine uQ [0] [0] [7] (G4 (al:=al) m _ _ iN) λg6=>?_;refine uB 3 [8] [0] [vL g6 y5] [] (aC (aB [0] ?_));refine uA 4 vO [] ?_;obtain⟨iO,hz,hm⟩:=ah hm;refine gv [] [4] (λ(kV:Gh)=>[vL kV iO]) (λkV=>[eO 9 tS iO kV,eI aa y5 g6]) ?_ ?_;replace hm:=hz;refine uA 5 (vI 0) [] (aL ?_);refine cR 9 tS ?_;refine mw [] [0,4,5] (λbJ v20 g19=>[vL g6 y5,vL g19 bJ,vI v20]) (λbJ _ g19=>[eO 9 tS bJ g19,eI aa y5 g6]) Gh.nil hm (λkk bJ v20 g19 hm=>?_);rw[Tz]at hm;refine az (uI [] hm ?_ ?_);intro hm;refine aq (az (aL (aM ?_)));obtain⟨o8,hm⟩:=bW hm;refine uB 5 [] [19] [.agg ⟨e7 (gi y5 v20).aY⟩] [ki 1 o8,⟨some (.agg ⟨e7 (gi y5 v20).aY⟩),λwz=>V.bV (ab g6.a) (ao g6.a+v20.toNat*6) (e7 (gi y5 v20).aY) 0 wz,λ_ hS=>(hS.im 1 rfl).ef o8 0 rfl⟩] ?_;refine uM [] [0,1] [] (oA [vU 0,vN,vI 0,vN,vF]) λb26=>?_;refine uL [0] [1,2] [19] (oS (e7 (gi y5 v20).aY) rfl rfl) (aC ?_);refine RY [⟨none,λ_=>(2:Int)≠0,λ_ _=>(by show(2:Int)≠0;decide)⟩] hm ?_;intro hm;refine az (gu [kb 0 0] hm ?_);intro hm;refine aq (dB (uB 3 [4,6] [26,28] [vL g19 bJ,vS (gi y5 v20).aY.db] [kb 0 1] ?_));refine uM [] [0,1,2] [28] (oL tS 9 vN [(gi y5 v20).aY.db] [gL []] (λ_=>bd.cons trivial bd.nil) rfl) λmI=>?_;obtain⟨pX,DU,TA,hm⟩:=cv hm;refine uM [2,0] [1,3] [26,29] (oP tS vN g19 mI TA pX rfl rfl) λja=>?_;refine uB 6 [30] [0,4,5] [vL g6 y5,vL ja DU,vI v20] [] (aC (aB [0,3] ?_));exact wy [] ja hm;intro hm;refine bn ?_;cases hm;exact tg g19;intro kV;obtain⟨y56,a8b,kF,DV,hm⟩:=iL hm;refine uR [0,4] [2,3] [vL kV iO,vB kF] [⟨none,λ_=>(2:Int)≠0,λ_ _=>(by show(2:Int)≠0;decide)⟩,fv (gT (Int.tmod (ln y5) 2==1)) λ_ hS hg=>a8a (a6:=kV) m _ _ (bT (hg.1) a8b) _ (aK bc (hS.cD 0 rfl))] ?_ (he:=by subst DV;kernel_rfl);refine aB [0] (aQ ?_);cases hm;exact de kV [0] fa

def TC(m:Nat)(jq:List (List ax)):Nat→Int→List (List a7)→Option (List (List a7))
 |0,_,_=>none
 |kk+1,gy,Bq=>cond (decide (gy<ln jq)) (aH (0≤gy∧gy<ln jq)<|Option.bind (NN m (gi jq gy)) λyd=>cond (!yd.2) (none) (aH (ln Bq+ln ([yd.1]:List (List a7))≤137438953472)<|lt (Bq++([yd.1]:List (List a7))) λNO=>TC m jq kk (J (gy+1)) NO)) (some Bq)
def NP(m:Nat)(c_:oR):Option (bA×Bool):=cond c_.G0 (Option.bind (Bk m c_.jo) λfo=>cond (ln fo==0) (none) (Option.bind (NN m c_.jo) λdH=>some (bA.mk 4 ([]:List bM) ([]:List cT) (bu.mk 0 [] 0 (cT.mk [] ([]:List ax) false) ([]:List bu)) ([dH.1]:List (List a7)) ([]:List bA),dH.2))) (Option.bind (G3 m c_.jo 18) λjq=>Option.bind (TC m jq m 0 ([]:List (List a7))) λ(oX:List (List a7))=>some (bA.mk 5 ([]:List bM) ([]:List cT) (bu.mk 0 [] 0 (cT.mk [] ([]:List ax) false) ([]:List bu)) oX ([]:List bA),decide (ln jq≤64)))
theorem a8c{aF aj:Gh}(M:Av)(m)(c_)(r)(hm:NP m c_=some r)(w:World)(hS:S0 M [eI aa c_.jo aF,eI aa c_.lG aj] w):Calls prog 126 ⟨[.agg ⟨xY c_ (gL [aF,aj])⟩]⟩ w (λe w'=>∃v,e=.returned v∧∃(aG:Gh)(dT:Gh)(wR:Gh)(wS:Gh)(wT:Gh)(wU:Gh),v=.tuple ⟨[.agg ⟨e5 r.1 (gL [aG,dT,wR,wS,wT,wU])⟩,vB r.2]⟩∧SH M (ay [eI aa c_.jo aF,eI aa c_.lG aj]) w [eO 152 bH r.1.dF aG,eO 63 dE r.1.cP dT,eO 163 aa r.1.aT.aS.Value wR,eO 66 bq r.1.aT.ae wS,eO 38 (Ty.sl tS) r.1.bI wT,eO 68 bD r.1.bo wU] w'):=by
 rw[NP]at hm;have aJ:SH M (ay [eI aa c_.jo aF,eI aa c_.lG aj]) w [eI aa c_.jo aF,eI aa c_.lG aj] w:=hS;generalize hX:ay [eI aa c_.jo aF,eI aa c_.lG aj]=X at aJ⊢;clear hS hX;have hS:=aJ;clear aJ;refine eg func126 rfl ntmps126 rfl λ_ H=>?_;refine aN H hS (aM (eA [] [0,1] [] [] (oB (xY c_ (gL [aF,aj])) rfl) λb1=>?_));refine uM [] [0,1,2] [] (oA [vU 0,vO,vO,vU 0,vN,vI 0,vN,vO,vF,vO,vO,vO]) λb4=>?_;refine uP 3 [] (aC (az ?_));refine uI [kb 1 3] hm ?_ ?_;intro hm;refine aM (uB 1 [] [14] [vG [vU 4,vO,vO,vU 0,vN,vI 0,vN,vO,vF,vO,vO,vO]] [] ?_);refine uM [] [0,1,2,3] [] (oA [vU 0,vO,vO,vU 0,vN,vI 0,vN,vO,vF,vO,vO,vO]) λJJ=>?_;refine uL [0] [1,2,3,4] [14] (oS [vU 4,vO,vO,vU 0,vN,vI 0,vN,vO,vF,vO,vO,vO] rfl rfl) (aC (az (aM ?_)));refine uB 2 [] [16] [vL aF c_.jo] [kb 2 1] ?_;obtain⟨fo,tW,hm⟩:=ah hm;refine uQ [3] [0,1,2,3,4] [16] (G4 (al:=aF) m _ _ tW) λg21=>?_;refine uB 5 [17] [1,2,4,19] [vP b1,vP b4,vP JJ,vB (ln fo==0)] [] (aC (aB [1,2,3,4,5] ?_));refine Dn hm ?_;intro hm;refine aq (aM (uB 2 [1,19] [23] [vL aF c_.jo] [kb 2 1] ?_));obtain⟨dH,vk,hm⟩:=ah hm;refine uQ [3] [0,1,2,3,4] [23] (a0S (al:=aF) m _ _ vk) λn9=>?_;refine uB 8 [24] [5,6] [vL n9 dH.1,vB dH.2] [] (aC (aB [0,1,2] (aM ?_)));refine uB 1 [5] [27] [vL n9 dH.1] [] ?_;refine jI [0,1,2] ?_;refine uM [0] [0,1,2] [27] (oL (Ty.sl tS) 38 vO [dH.1] [gL [n9]] (λhd=>bd.cons (hd.im 0 rfl) bd.nil) rfl) λoQ=>?_;refine uB 3 [] [28,29] [vK oQ 1,vA JJ 10] [] ?_;refine pn [2] [0,1,3] [2,4,6] [vP b4,vP JJ,vB dH.2] (oS [vU 4,vO,vO,vU 0,vN,vI 0,vN,vO,vF,vO,vK oQ 1,vO] rfl rfl) (aC (aB [0,1,3] (aM ?_)));refine uB 2 [4,6] [30,31] [vG [vU 4,vO,vO,vU 0,vN,vI 0,vN,vO,vF,vO,vK oQ 1,vO],vB dH.2] [⟨some (vG [vU 4,vO,vO,vU 0,vN,vI 0,vN,vO,vF,vO,vK oQ 1,vO]),rN JJ 0 [vU 4,vO,vO,vU 0,vN,vI 0,vN,vO,vF,vO,vK oQ 1,vO],λ_ hS=>(hS.bk 0 rfl).eK rfl⟩] ?_;refine uL [2] [0,1] [30] (oS [vU 4,vO,vO,vU 0,vN,vI 0,vN,vO,vF,vO,vK oQ 1,vO] rfl rfl) ?_;refine uB 4 [31] [3] [vB dH.2] [] (aC (aB [0,2] (aQ ?_)));cases hm;refine cR 152 bH ?_;refine cR 63 dE ?_;refine cR 163 aa ?_;refine cR 66 bq ?_;refine cR 68 bD ?_;exact λ_ _ ye hS=>pM ye rfl (qx rfl (hS.bk 5 rfl) underlying68 rfl (by kernel_rfl)) rfl ⟨_,rfl,Gh.nil,Gh.nil,Gh.nil,Gh.nil,oQ,Gh.nil,rfl,hS.aV [4,3,2,1,6,0] rfl⟩;intro hm;refine aq (aM (uB 1 [] [32] [vG [vU 5,vO,vO,vU 0,vN,vI 0,vN,vO,vF,vO,vO,vO]] [] ?_));refine uM [] [0,1,2,3] [] (oA [vU 0,vO,vO,vU 0,vN,vI 0,vN,vO,vF,vO,vO,vO]) λwV=>?_;refine uL [0] [1,2,3,4] [32] (oS [vU 5,vO,vO,vU 0,vN,vI 0,vN,vO,vF,vO,vO,vO] rfl rfl) (aC (aM ?_));refine uB 2 [1] [34] [vL aF c_.jo] [kb 2 1] ?_;obtain⟨jq,DW,hm⟩:=ah hm;refine uQ [3] [0,1,2,3,4] [34] (NB (al:=aF) m _ _ _ DW) λiE=>?_;refine uB 4 [35] [2,7,8] [vP b4,vP wV,vL iE jq] [] (aC (aB [0,1,2] ?_));obtain⟨oX,hz,hm⟩:=ah hm;refine gv [] [] (λ(na:Gh)=>[]) (λna=>[eO 38 (Ty.sl tS) oX na,eO 61 (Ty.sl aa) jq iE,eB wV [vU 5,vO,vO,vU 0,vN,vI 0,vN,vO,vF,vO,vL na oX,vO],eB b4 [vU 0,vO,vO,vU 0,vN,vI 0,vN,vO,vF,vO,vO,vO]]) ?_ ?_;replace hm:=hz;refine uA 9 (vI 0) [] (aL ?_);refine cR 38 (Ty.sl tS) ?_;refine mw [] [9] (λgy _ _=>[vI gy]) (λ_ Bq qc=>[eO 38 (Ty.sl tS) Bq qc,eO 61 (Ty.sl aa) jq iE,eB wV [vU 5,vO,vO,vU 0,vN,vI 0,vN,vO,vF,vO,vL qc Bq,vO],eB b4 [vU 0,vO,vO,vU 0,vN,vI 0,vN,vO,vF,vO,vO,vO]]) Gh.nil hm (λkk gy Bq qc hm=>?_);rw[TC]at hm;refine az (uI [] hm ?_ ?_);intro hm;refine aq (az (aL (aM ?_)));obtain⟨Gb,hm⟩:=bW hm;refine uB 4 [] [46] [.slice (iE.s gy.toNat 0).a (gi jq gy).length (iE.s gy.toNat 0).c] [kI 1 Gb,kJ 1 0 Gb] ?_;intro _ _ Br hS;replace hS:=hS.fl (fk ((hS.ow 1 rfl).el Gb));obtain⟨yd,a8d,hm⟩:=ah hm;refine aN Br hS (uQ [0] [0,1,2,3,4] [46] (a0S (al:=iE.s gy.toNat 0) m _ _ a8d) λk9=>?_);refine uB 10 [47] [10,11] [vL k9 yd.1,vB yd.2] [] (aC (aB [0,2,3,4,5] (az ?_)));refine uR [11] [2,7,8,9,10,51] [vP b4,vP wV,vL iE jq,vI gy,vL k9 yd.1,vB (!yd.2)] [] ?_;refine Dn hm ?_;intro hm;refine aq (dB (uB 3 [10,51] [54,55] [vL qc Bq,vL k9 yd.1] [kb 3 10] ?_));refine jI [0,1,2,3,4] ?_;refine uM [0] [0,1,2,3,4] [55] (oL (Ty.sl tS) 38 vO [yd.1] [gL [k9]] (λhd=>bd.cons (hd.im 0 rfl) bd.nil) rfl) λg98=>?_;obtain⟨a8e,NO,a8f,hm⟩:=cv hm;refine uM [2,0] [1,3,4,5] [54,56] (oP (Ty.sl tS) vO qc g98 a8f a8e rfl rfl) λyf=>?_;refine uB 6 [] [57,58] [vL yf NO,vA wV 10] [] ?_;refine uL [4] [0,1,2,3,5] [57,58] (oS [vU 5,vO,vO,vU 0,vN,vI 0,vN,vO,vF,vO,vL yf NO,vO] rfl rfl) (aC (aB [0,1,4,5] ?_));refine uV 9 (vI (J (gy+1))) [] (aB [1,2,0,3] ?_);exact uH yf hm;intro hm;refine bn ?_;cases hm;exact tg qc;intro na;refine aM (uB 4 [7,8] [59,62] [vG [vU 5,vO,vO,vU 0,vN,vI 0,vN,vO,vF,vO,vL na oX,vO],vB (decide (ln jq≤64))] [⟨some (vG [vU 5,vO,vO,vU 0,vN,vI 0,vN,vO,vF,vO,vL na oX,vO]),rN wV 0 [vU 5,vO,vO,vU 0,vN,vI 0,vN,vO,vF,vO,vL na oX,vO],λ_ hS=>(hS.bk 2 rfl).eK rfl⟩] ?_);refine uL [3] [0,1,2] [59] (oS [vU 5,vO,vO,vU 0,vN,vI 0,vN,vO,vF,vO,vL na oX,vO] rfl rfl) ?_;refine uB 6 [62] [3] [vB (decide (ln jq≤64))] [] (aC (aB [0,1] (aQ ?_)));cases hm;refine cR 152 bH ?_;refine cR 63 dE ?_;refine cR 163 aa ?_;refine cR 66 bq ?_;refine cR 68 bD ?_;exact λ_ _ a8g hS=>pM a8g rfl (qx rfl (hS.bk 5 rfl) underlying68 rfl (by kernel_rfl)) rfl ⟨_,rfl,Gh.nil,Gh.nil,Gh.nil,Gh.nil,na,Gh.nil,rfl,hS.aV [4,3,2,1,6,0] rfl⟩
theorem a8h{aF aj:Gh}(m)(c_)(r)(hm:NP m c_=some r)(M:Av)(w:World)(hS:S0 M [eI aa c_.jo aF,eI aa c_.lG aj] w):eZ prog 126 ⟨[.agg ⟨xY c_ (gL [aF,aj])⟩]⟩ w (λv w'=>∃(aG:Gh)(dT:Gh)(wR:Gh)(wS:Gh)(wT:Gh)(wU:Gh),v=.tuple ⟨[.agg ⟨e5 r.1 (gL [aG,dT,wR,wS,wT,wU])⟩,vB r.2]⟩∧SH M (ay [eI aa c_.jo aF,eI aa c_.lG aj]) w [eO 152 bH r.1.dF aG,eO 63 dE r.1.cP dT,eO 163 aa r.1.aT.aS.Value wR,eO 66 bq r.1.aT.ae wS,eO 38 (Ty.sl tS) r.1.bI wT,eO 68 bD r.1.bo wU] w'):=⟨call126 _,a8c M m c_ r hm w hS⟩

def NQ(m:Nat)(c_:oR):Option (bA×Bool):=cond (c_.At==[]) (Option.bind (Tj m c_.jo) λjM=>cond (cond (!c_.G0) true (jM.2 !=0)) (none) (Option.bind (Tm m c_.lG) λcJ=>some (bA.mk 1 jM.1 cJ (bu.mk 0 [] 0 (cT.mk [] ([]:List ax) false) ([]:List bu)) ([]:List (List a7)) ([]:List bA),true))) (Option.bind (G9 m c_.At [109,101,100,105,97]) λrF=>cond (cond rF c_.G0 false) (Option.bind (NM m c_.jo) λfT=>some (bA.mk 2 ([]:List bM) ([]:List cT) fT.1 ([]:List (List a7)) ([]:List bA),fT.2)) (Option.bind (G9 m c_.At [115,117,112,112,111,114,116,115]) λDX=>cond (cond DX c_.G0 false) (none) (Option.bind (G9 m c_.At [108,97,121,101,114]) λy74=>cond y74 (Option.bind (NP m c_) λDY=>some (DY.1,DY.2)) (none))))
theorem a8i{aF aj:Gh}(M:Av)(m)(c_)(r)(hm:NQ m c_=some r)(w:World)(hS:S0 M [eI aa c_.jo aF,eI aa c_.lG aj] w):Calls prog 79 ⟨[.agg ⟨xY c_ (gL [aF,aj])⟩]⟩ w (λe w'=>∃v,e=.returned v∧∃(aG:Gh)(dT:Gh)(wR:Gh)(wS:Gh)(wT:Gh)(wU:Gh),v=.tuple ⟨[.agg ⟨e5 r.1 (gL [aG,dT,wR,wS,wT,wU])⟩,vB r.2]⟩∧SH M (ay [eI aa c_.jo aF,eI aa c_.lG aj]) w [eO 152 bH r.1.dF aG,eO 63 dE r.1.cP dT,eO 163 aa r.1.aT.aS.Value wR,eO 66 bq r.1.aT.ae wS,eO 38 (Ty.sl tS) r.1.bI wT,eO 68 bD r.1.bo wU] w'):=by
 rw[NQ]at hm;have aJ:SH M (ay [eI aa c_.jo aF,eI aa c_.lG aj]) w [eI aa c_.jo aF,eI aa c_.lG aj] w:=hS;generalize hX:ay [eI aa c_.jo aF,eI aa c_.lG aj]=X at aJ⊢;clear hS hX;have hS:=aJ;clear aJ;refine eg func79 rfl ntmps79 rfl λ_ H=>?_;refine aN H hS (aM (eA [] [0,1] [] [] (oB (xY c_ (gL [aF,aj])) rfl) λb1=>?_));refine uM [] [0,1,2] [] (oA [vU 0,vO,vO,vU 0,vN,vI 0,vN,vO,vF,vO,vO,vO]) λb4=>?_;refine uP 3 [] (aC (az ?_));refine uI [kb 1 0] hm ?_ ?_;intro hm;refine aM (uB 2 [] [15] [vL aF c_.jo] [kb 1 1] ?_);obtain⟨jM,wQ,hm⟩:=ah hm;refine uQ [2] [0,1,2,3] [15] (a7W (al:=aF) m _ _ wQ) λg14=>?_;refine uB 8 [16] [4,5] [vL g14 jM.1,vI jM.2] [] (aC (az ?_));refine su [5] [kb 2 3] hm ?_;intro hm;refine aq (aM (uB 3 [1,4] [27,29] [vL g14 jM.1,vL aj c_.lG] [kb 2 2] ?_));obtain⟨cJ,o7,hm⟩:=ah hm;refine RX [4] [0,1,2,3,4] [2,27] [vP b4,vL g14 jM.1] (a7Y (al:=aj) m _ _ o7) λfO=>?_;refine uB 5 [27,30] [31] [vG [vU 1,vL g14 jM.1,vL fO cJ,vU 0,vN,vI 0,vN,vO,vF,vO,vO,vO]] [] ?_;refine uL [2] [0,1,3,4,5] [31] (oS [vU 1,vL g14 jM.1,vL fO cJ,vU 0,vN,vI 0,vN,vO,vF,vO,vO,vO] rfl rfl) ?_;refine uB 7 [] [3] [vT] [] (aC (aB [0,1,2] (aQ ?_)));cases hm;refine cR 163 aa ?_;refine cR 66 bq ?_;refine cR 38 (Ty.sl tS) ?_;refine cR 68 bD ?_;exact λ_ _ k7 hS=>pM k7 rfl (qx rfl (hS.bk 4 rfl) underlying68 rfl (by kernel_rfl)) rfl ⟨_,rfl,g14,fO,Gh.nil,Gh.nil,Gh.nil,Gh.nil,rfl,hS.aV [6,5,3,2,1,0] rfl⟩;intro hm;refine aq (az ?_);obtain⟨rF,JK,hm⟩:=ah hm;refine uA 38 (vB (cond rF c_.G0 false)) [kb 1 0,kc (NI m _ _ _ JK),bO (gT rF) 1 3] ?_;refine qB (λhc=>?_) (λhc=>?a8j)
 case a8j=>
  replace hm:=bF hc hm;refine aq (az ?_);obtain⟨DX,TD,hm⟩:=ah hm;refine su [38] [kb 1 0,kc (NI m _ _ _ TD),bO (gT DX) 1 3] hm ?_;intro hm;refine aq (az ?_);obtain⟨y74,a8k,hm⟩:=ah hm;refine uI [kb 1 0,kc (NI m _ _ _ a8k)] hm ?_ ?_;intro hm;refine aM (uB 1 [1] [67] [.agg ⟨xY c_ (gL [aF,aj])⟩] [kE 1 4] ?_);obtain⟨DY,a8l,hm⟩:=ah hm;intro _ _ H78 hS;have hd:=hS.hand [2,3] [0,1,2,3] rfl rfl;refine gn [68,2] [(2,[],vP b4)] H78 rfl rfl rfl rfl (dw H78 rfl rfl (a8h (aF:=aF) (aj:=aj) m _ _ a8l _ _ hd)) (λ_=>rfl) λ_ _ v NR hq=>?_;obtain⟨qc,zx,vh,jN,k9,TE,rfl,hq⟩:=hq;replace hS:=hS.join [2,3] [0,1,2,3] rfl rfl hq;refine aN NR hS (fG 4 [2,69,70] [vP b4,.agg ⟨e5 DY.1 (gL [qc,zx,vh,jN,k9,TE])⟩,vB DY.2] [] ?_);refine uL [6] [0,1,2,3,4,5,7,8,9] [69] (oS (e5 DY.1 (gL [qc,zx,vh,jN,k9,TE])) rfl rfl) ?_;refine uB 6 [70] [3] [vB DY.2] [] (aC (aB [0,1,2,3,4,5,6] (aQ ?_)));cases hm;exact λ_ _ Gd hS=>pM Gd rfl (qx rfl (hS.bk 0 rfl) underlying68 rfl (by kernel_rfl)) rfl ⟨_,rfl,qc,zx,vh,jN,k9,TE,rfl,hS.aV [1,2,3,4,5,6] rfl⟩;intro hm;refine aq ?_;intro _ _ NS hS;exact cN hm
 replace hm:=bT hc hm;refine aM (uB 2 [1,38] [41] [vL aF c_.jo] [kb 1 1] ?_);obtain⟨fT,DS,hm⟩:=ah hm;intro _ _ rG hS;have hd:=hS.hand [2] [0,1,2,3] rfl rfl;refine gn [42,2] [(2,[],vP b4)] rG rfl rfl rfl rfl (dw rG rfl rfl (a89 (al:=aF) m _ _ DS _ _ hd)) (λ_=>rfl) λ_ _ v ye hq=>?_;obtain⟨lE,px,rfl,hq⟩:=hq;replace hS:=hS.join [2] [0,1,2,3] rfl rfl hq;refine aN ye hS (fG 6 [2,43,44] [vP b4,.agg ⟨e4 fT.1 (gL [lE,px])⟩,vB fT.2] [] ?_);refine uM [] [0,1,2,3,4,5] [] (oA [vU 0,vN,vI 0,vN,vO,vF,vO]) λb54=>?_;refine uL [0] [1,2,3,4,5,6] [43] (oS (e4 fT.1 (gL [lE,px])) rfl rfl) ?_;refine uB 9 [44] [7] [vB fT.2] [] (aC (aB [0,1,2,3] (aM ?_)));refine uB 3 [6,7] [2,46,47] [vP b4,vG [vU 2,vO,vO,vU fT.1.an,vS fT.1.bm,vI fT.1.cU,vS fT.1.aS.bm,vL lE fT.1.aS.Value,vB fT.1.aS.lY,vL px fT.1.ae,vO,vO],vB fT.2] [kE 0 7] ?_;refine uL [3] [0,1,2] [46] (oS [vU 2,vO,vO,vU fT.1.an,vS fT.1.bm,vI fT.1.cU,vS fT.1.aS.bm,vL lE fT.1.aS.Value,vB fT.1.aS.lY,vL px fT.1.ae,vO,vO] rfl rfl) ?_;refine uB 5 [47] [3] [vB fT.2] [] (aC (aB [0,2,3] (aQ ?_)));cases hm;refine cR 152 bH ?_;refine cR 63 dE ?_;refine cR 38 (Ty.sl tS) ?_;refine cR 68 bD ?_;exact λ_ _ H66 hS=>pM H66 rfl (qx rfl (hS.bk 4 rfl) underlying68 rfl (by kernel_rfl)) rfl ⟨_,rfl,Gh.nil,Gh.nil,lE,px,Gh.nil,Gh.nil,rfl,hS.aV [3,2,5,6,1,0] rfl⟩
theorem a8m{aF aj:Gh}(m)(c_)(r)(hm:NQ m c_=some r)(M:Av)(w:World)(hS:S0 M [eI aa c_.jo aF,eI aa c_.lG aj] w):eZ prog 79 ⟨[.agg ⟨xY c_ (gL [aF,aj])⟩]⟩ w (λv w'=>∃(aG:Gh)(dT:Gh)(wR:Gh)(wS:Gh)(wT:Gh)(wU:Gh),v=.tuple ⟨[.agg ⟨e5 r.1 (gL [aG,dT,wR,wS,wT,wU])⟩,vB r.2]⟩∧SH M (ay [eI aa c_.jo aF,eI aa c_.lG aj]) w [eO 152 bH r.1.dF aG,eO 63 dE r.1.cP dT,eO 163 aa r.1.aT.aS.Value wR,eO 66 bq r.1.aT.ae wS,eO 38 (Ty.sl tS) r.1.bI wT,eO 68 bD r.1.bo wU] w'):=⟨call79 _,a8i M m c_ r hm w hS⟩

def NT(cz:Int):Bool:=lt (cond (cond (cz==2) true (cz==3)) true (cz==4)) λx3=>x3
theorem a8n(cz:Int):Rt 80 [vU cz] (vB (NT cz)):=by
 generalize hm:NT cz=r;rw[NT]at hm;refine dh (call80 _) func80 ntmps80 λM X w=>?_;refine uO [] ?_;obtain⟨x3,iD,hm⟩:=bl hm;refine uR [0] [2] [vB x3] [] ?_ (he:=by subst iD;kernel_rfl);refine aQ ?_;subst hm;exact bi [] bp

def a8o(eG:(List ax)→Bool→Int→Option ((List bA)×Int)):Prop:=∀(al:Gh)(M:Av)(v_:List ax)(top:Bool)(room:Int)(r:(List bA)×Int),eG v_ top room=some r→∀w,S0 M [eI aa v_ al] w→Calls prog 51 ⟨[vL al v_,vB top,vI room]⟩ w (λe w'=>∃v,e=.returned v∧∃(aG:Gh),v=vW [vL aG r.1,vI r.2]∧SH M (ay [eI aa v_ al]) w [eO 68 bD r.1 aG] w')
def TF(m:Nat)(y7:List oR)(a0T:(List ax)→Bool→Int→Option ((List bA)×Int)):Nat→Int→List bA→Int→Option (Int×(List bA))
 |0,_,_,_=>none
 |kk+1,bJ,dt,v21=>lt (cond (decide (v21<ln y7)) (decide (0<bJ)) false) λlI=>cond lI (Option.bind (aH (0≤v21∧v21<ln y7)<|Option.bind (NQ m (gi y7 v21)) λdn=>cond (!dn.2) (some (bJ,dt)) (Option.bind (cond (NT dn.1.an) (Option.bind (a0T (gi y7 v21).lG false (J (bJ-1))) λwW=>some (wW.2,wW.1)) (some (J (bJ-1),dn.1.bo))) λ(z59:Int×(List bA))=>aH (ln dt+ln ([bA.mk dn.1.an dn.1.dF dn.1.cP dn.1.aT dn.1.bI z59.2]:List bA)≤137438953472)<|lt (dt++([bA.mk dn.1.an dn.1.dF dn.1.cP dn.1.aT dn.1.bI z59.2]:List bA)) λTG=>some (z59.1,TG))) λ(z25:Int×(List bA))=>TF m y7 a0T kk z25.1 z25.2 (J (v21+1))) (some (bJ,dt))
def NU(m:Nat):Nat→List ax→Bool→Int→Option ((List bA)×Int)
 |0,_,_,_=>none
 |k+1,v_,top,room=>Option.bind (SW m v_ top) λy7=>Option.bind (TF m y7 (NU m k) m room ([]:List bA) 0) λ(iO:Int×(List bA))=>some (iO.2,iO.1)
theorem a8p(m:Nat):∀(k:Nat),a8o (NU m k):=by
 intro k
 induction k with
 |zero=>intro al M v_ top room r hm;exact cN hm
 |succ k ih=>
  intro al M v_ top room r hm w hS;rw[NU]at hm;have aJ:SH M (ay [eI aa v_ al]) w [eI aa v_ al] w:=hS;generalize hX:ay [eI aa v_ al]=X at aJ⊢;clear hS hX;have hS:=aJ;clear aJ;refine eg func51 rfl ntmps51 rfl λ_ H=>?_;refine aN H hS (dp [0,1,2] [vL al v_,vB top,vI room] [] ?_);refine uA 8 vO [] (aM ?_);refine uB 2 [0,1] [13,14] [vL al v_,vB top] [] ?_;obtain⟨y7,rj,hm⟩:=ah hm;refine uQ [0] [0] [13,14] (a7F (al:=al) m _ _ _ rj) λg8=>?_;refine uB 4 [15] [9] [vL g8 y7] [] (aC (aB [0] ?_));obtain⟨iO,hz,hm⟩:=ah hm;refine gv [9] [2,8] (λ(vn:Gh)=>[vI iO.1,vL vn iO.2]) (λvn=>[eO 68 bD iO.2 vn,eO 145 pu y7 g8]) ?_ ?_;replace hm:=hz;refine uA 10 (vI 0) [] (aL ?_);refine cR 68 bD ?_;refine N7 [] [9,2,8,10] (λbJ dt v21 g20=>[vL g8 y7,vI bJ,vL g20 dt,vI v21]) (λ_ dt _ g20=>[eO 68 bD dt g20,eO 145 pu y7 g8]) Gh.nil hm (λkk bJ dt v21 g20 hm=>?_);rw[TF]at hm;refine az ?_;obtain⟨lI,u6,hm⟩:=bl hm;refine uI [] hm ?_ ?_ (he:=by subst u6;kernel_rfl);intro hm;refine aq ?_;obtain⟨z25,hz,hm⟩:=ah hm;refine gv [] [2,8] (λ(o9:Gh)=>[vI z25.1,vL o9 z25.2]) (λo9=>[eO 68 bD z25.2 o9,eO 145 pu y7 g8]) ?_ ?_;replace hm:=hz;refine aL (aM ?_);obtain⟨mf,hm⟩:=bW hm;refine uB 4 [] [30] [.agg ⟨xY (gi y7 v21) (g8.s v21.toNat)⟩] [kI 1 mf,⟨some (.agg ⟨xY (gi y7 v21) (g8.s v21.toNat)⟩),λwz=>V.bV (ab g8.a) (ao g8.a+v21.toNat*4) (xY (gi y7 v21) (g8.s v21.toNat)) 0 wz,λ_ hS=>(hS.cD 1 rfl).ef mf 0 rfl⟩] ?_;intro _ _ lA hS;replace hS:=hS.fl (a7D ((hS.ow 1 rfl).el mf));replace hS:=hS.fl (a0H ((hS.ow 2 rfl).el mf));obtain⟨dn,JL,hm⟩:=ah hm;have hd:=hS.hand [1,0] [0,1,2,3] rfl rfl;refine gn [31,2,8,9,10] (fS [2,8,9,10] [vI bJ,vL g20 dt,vL g8 y7,vI v21]) lA rfl rfl rfl rfl (dw lA rfl rfl (a8m (aF:=g8.s v21.toNat 0) (aj:=g8.s v21.toNat 1) m _ _ JL _ _ hd)) (λ_=>rfl) λ_ _ v wX hq=>?_;obtain⟨fb,o6,py,oQ,ig,mg,rfl,hq⟩:=hq;replace hS:=hS.join [1,0] [0,1,2,3] rfl rfl hq;refine aN wX hS (fG 8 [2,8,9,10,32,33] [vI bJ,vL g20 dt,vL g8 y7,vI v21,.agg ⟨e5 dn.1 (gL [fb,o6,py,oQ,ig,mg])⟩,vB dn.2] [] ?_);refine uM [] [0,1,2,3,4,5,6,7,8,9] [] (oA [vU 0,vO,vO,vU 0,vN,vI 0,vN,vO,vF,vO,vO,vO]) λJM=>?_;refine uL [0] [1,2,3,4,5,6,7,8,9,10] [32] (oS (e5 dn.1 (gL [fb,o6,py,oQ,ig,mg])) rfl rfl) ?_;refine uB 11 [33] [12] [vB dn.2] [] (aC (aB [0,1,2,3,4,5,6,9,10] (az ?_)));refine uJ [12] [] hm ?_ ?_;intro hm;refine bn ?_;cases hm;refine aB [7,8] ?_;exact tg g20;intro hm;refine aq (uR [] [2,8,9,10,11] [vI (J (bJ-1)),vL g20 dt,vL g8 y7,vI v21,vP JM] [] ?_);obtain⟨z59,hz,hm⟩:=ah hm;refine gv [] [2] (λ(jB:Gh)=>[vI z59.1]) (λjB=>[eO 68 bD z59.2 jB,eB JM [vU dn.1.an,vL fb dn.1.dF,vL o6 dn.1.cP,vU dn.1.aT.an,vS dn.1.aT.bm,vI dn.1.aT.cU,vS dn.1.aT.aS.bm,vL py dn.1.aT.aS.Value,vB dn.1.aT.aS.lY,vL oQ dn.1.aT.ae,vL ig dn.1.bI,vL jB z59.2],eO 152 bH dn.1.dF fb,eO 63 dE dn.1.cP o6,eO 163 aa dn.1.aT.aS.Value py,eO 66 bq dn.1.aT.ae oQ,eO 38 (Ty.sl tS) dn.1.bI ig,eO 68 bD dt g20,eO 145 pu y7 g8]) ?_ ?_;replace hm:=hz;refine uI [kb 0 0,kc (a8n dn.1.an)] hm ?_ ?_;intro hm;refine dB (uB 6 [2] [46,47] [.slice (g8.s v21.toNat 1).a (gi y7 v21).lG.length (g8.s v21.toNat 1).c,vI (J (bJ-1))] [kI 8 mf,kJ 8 2 mf] ?_);intro _ _ mh hS;replace hS:=hS.fl (a0H ((hS.ow 8 rfl).el mf));obtain⟨wW,TH,hm⟩:=ah hm;refine aN mh hS (uM [0] [0,1,2,3,4,5,6,7,8,9] [46,47] (λ_ _ mh hd=>dw mh rfl rfl (⟨call51 _,ih (g8.s v21.toNat 1) _ _ _ _ _ TH _ hd⟩:eZ _ _ _ _ _)) λrH=>?_);refine uB 11 [48] [49,50,51] [vL rH wW.1,vI wW.2,vA JM 11] [] ?_;refine uL [2] [0,1,3,4,5,6,7,8,9,10] [49,51] (oS [vU dn.1.an,vL fb dn.1.dF,vL o6 dn.1.cP,vU dn.1.aT.an,vS dn.1.aT.bm,vI dn.1.aT.cU,vS dn.1.aT.aS.bm,vL py dn.1.aT.aS.Value,vB dn.1.aT.aS.lY,vL oQ dn.1.aT.ae,vL ig dn.1.bI,vL rH wW.1] rfl rfl) ?_;refine uB 13 [50] [2] [vI wW.2] [] (aC (aB [0,1,3,4,5,6,7,8,9,10] ?_));cases hm;refine aB [1,0,2,3,4,5,6,8,9] ?_;exact tg rH;intro hm;refine aq ?_;cases hm;refine aB [6,0,1,2,3,4,5,7,8] ?_;exact tg mg;intro jB;refine dB (uB 2 [8,11] [52,53] [vL g20 dt,vG [vU dn.1.an,vL fb dn.1.dF,vL o6 dn.1.cP,vU dn.1.aT.an,vS dn.1.aT.bm,vI dn.1.aT.cU,vS dn.1.aT.aS.bm,vL py dn.1.aT.aS.Value,vB dn.1.aT.aS.lY,vL oQ dn.1.aT.ae,vL ig dn.1.bI,vL jB z59.2]] [kE 1 12] ?_);refine jI [2,0,1,3,4,5,6,7,8] ?_;refine jI [3,0,1,2,4,5,6,7,8] ?_;refine jI [4,0,1,2,3,5,6,7,8] ?_;refine jI [5,0,1,2,3,4,6,7,8] ?_;refine jI [6,0,1,2,3,4,5,7,8] ?_;refine jI [5,0,1,2,3,4,6,7,8] ?_;refine uM [5,4,3,2,1,0] [0,1,2,3,4,5,6,7,8] [53] (oL bD 68 (vG [vU 0,vO,vO,vU 0,vN,vI 0,vN,vO,vF,vO,vO,vO]) [bA.mk dn.1.an dn.1.dF dn.1.cP dn.1.aT dn.1.bI z59.2] [gL [fb,o6,py,oQ,ig,jB]] (λhd=>bd.cons (a0r (hd.im 0 rfl) (hd.im 1 rfl) (hd.im 2 rfl) (hd.im 3 rfl) (hd.im 4 rfl) (hd.im 5 rfl)) bd.nil) rfl) λTI=>?_;obtain⟨TJ,TG,a8q,hm⟩:=cv hm;refine uM [8,0] [1,2,3,4,5,6,7,9] [52,54] (oP bD (vG [vU 0,vO,vO,vU 0,vN,vI 0,vN,vO,vF,vO,vO,vO]) g20 TI a8q TJ rfl rfl) λkY=>?_;refine uB 5 [55] [8] [vL kY TG] [] (aC (aB [0,9] ?_));cases hm;exact tg kY;intro o9;exact ZU [] o9 hm;intro hm;refine bn ?_;cases hm;exact tg g20;intro vn;refine aB [0] ?_;refine uR [2,8] [6,7] [vL vn iO.2,vI iO.1] [] (aQ ?_);cases hm;exact de vn [0] fa
def a0U(m:Nat)(v_:List ax)(top:Bool)(room:Int):Option ((List bA)×Int):=NU m m v_ top room
theorem a8r{al:Gh}(m)(v_)(top)(room)(r)(hm:a0U m v_ top room=some r)(M:Av)(w:World)(hS:S0 M [eI aa v_ al] w):eZ prog 51 ⟨[vL al v_,vB top,vI room]⟩ w (λv w'=>∃(aG:Gh),v=vW [vL aG r.1,vI r.2]∧SH M (ay [eI aa v_ al]) w [eO 68 bD r.1 aG] w'):=⟨call51 _,a8p m m al M v_ top room r hm w hS⟩

def TK(m:Nat)(s:a7):Option (sE×Int):=Option.bind (SU m s) λy8=>cond (y8.2 !=0) (none) (Option.bind (a0U m y8.1 true 64) λfx=>some (sE.mk fx.1,0))
theorem a8s(m)(s)(r)(hm:TK m s=some r):Dm 33 [vS s] [] (λ(aG:Gh)=>vW [vG [vL aG r.1.bo],vI r.2]) (λaG=>[eO 68 bD r.1.bo aG]):=by
 rw[TK]at hm;refine gI (call33 _) func33 ntmps33 λM X w=>(aM ?_);refine uM [] [] [] (oA [vO]) λb1=>?_;refine uP 2 [] (aC (aM ?_));refine uB 1 [0] [9] [vS s] [] ?_;obtain⟨y8,kw,hm⟩:=ah hm;refine uQ [] [0] [9] (a7B m _ _ kw) λg9=>?_;refine uB 7 [10] [4,5] [vL g9 y8.1,vI y8.2] [] (aC (az ?_));refine gu [] hm ?_;intro hm;refine aq (aM (uB 1 [4,5] [18] [vL g9 y8.1] [] ?_));refine jI [0,1] ?_;obtain⟨fx,qG,hm⟩:=ah hm;refine uQ [0] [0,1] [18] (a8r (al:=g9) m _ _ _ _ qG) λg20=>?_;refine uB 7 [19] [2,6] [vP b1,vL g20 fx.1] [] (aC (aB [0,2] (aM ?_)));refine uB 2 [6] [23] [vG [vL g20 fx.1]] [] ?_;refine uL [1] [0] [23] (oS [vL g20 fx.1] rfl rfl) ?_;refine uB 4 [] [3] [vI 0] [] (aC (aQ ?_));cases hm;exact de g20 [1] (lV 0 underlying25)

def TL(m:Nat)(origin:Int)(s:a7):Option cQ:=Option.bind (TK m s) λy6=>some (cQ.mk origin (sE.mk y6.1.bo))
theorem a8t(m)(origin)(s)(r)(hm:TL m origin s=some r):Dm 19 [vU origin,vS s] [] (λ(aG:Gh)=>vG [vU r.dZ,vL aG r.dm.bo]) (λaG=>[eO 68 bD r.dm.bo aG]):=by
 rw[TL]at hm;refine gI (call19 _) func19 ntmps19 λM X w=>(aM ?_);refine uM [] [] [] (oA [vU 0,vO]) λb1=>aC (aM ?_);refine uB 1 [1] [4,8] [vP b1,vS s] [] ?_;obtain⟨y6,gK,hm⟩:=ah hm;refine uQ [] [0] [8] (a8s m _ _ gK) λg7=>?_;refine uB 5 [9] [10,11] [vG [vL g7 y6.1.bo],vI y6.2] [] ?_;refine uM [] [0,1] [] (oA [vO]) λJJ=>?_;refine uL [0] [1,2] [10] (oS [vL g7 y6.1.bo] rfl rfl) ?_;refine uB 8 [11] [] [] [] (aC (aM ?_));refine uB 3 [0,5] [4,14] [vP b1,vG [vU origin,vL g7 y6.1.bo]] [kE 0 1] ?_;refine uL [2] [0,1] [14] (oS [vU origin,vL g7 y6.1.bo] rfl rfl) (aC (aB [0,2] (aQ ?_)));cases hm;exact de g7 [1] (Jb 0 underlying27)

def NV(m:Nat)(s:a7):Option (List cQ):=Option.bind (TL m 3 s) λy5=>some ([y5]:List cQ)
theorem a0V(m)(s)(r)(hm:NV m s=some r):Dm 9 [vS s] [] (λ(aG:Gh)=>vL aG r) (λaG=>[eO 27 dG r aG]):=by
 rw[NV]at hm;refine gI (call9 _) func9 ntmps9 λM X w=>?_;refine uO [] (aM ?_);refine uB 1 [0] [3] [vS s] [] ?_;obtain⟨y5,iN,hm⟩:=ah hm;refine uQ [] [] [3] (a8t m _ _ _ iN) λg6=>?_;refine jI [0] ?_;refine uM [0] [0] [4] (oL dG 27 (vG [vU 0,vO]) [y5] [gL [g6]] (λhd=>bd.cons (Jl (hd.im 0 rfl)) bd.nil) rfl) λg10=>?_;refine uB 4 [5] [2] [vK g10 1] [] (aC (aB [0] (aQ ?_)));cases hm;exact de g10 [0] bp

theorem a8u(x0:a7)(x1:Int)(w:World):Rb 235 [vS x0,vU x1] (vI (FD x0 x1)) w:=a5j func235 (by kernel_rfl) rfl (by kernel_rfl) (by kernel_rfl) _ _ w

structure zy where
  rules:Int
  depth:Int
  bad:Bool
instance:Inhabited zy:=⟨⟨default,default,default⟩⟩
def a8v:Ty zy where
  z:=3
  enc:=λx g=>[vI x.rules,vI x.depth,vB x.bad]
  bK:=λ_ _ _ _=>True
  len:=λ_ _=>rfl
  one:=λ_ _=>rfl
  kp:=λ_ _ _=>trivial
  bS:=λ_ _=>trivial
  fresh:=λ_=>trivial
def Ge(x:zy):List Value:=a8v.enc x (gL [])
def stringslite_IndexByte(s:a7)(c_:Int):Int:=(FD s c_)
theorem a0W(s:a7)(c_:Int):Rt 182 [vS s,vU c_] (vI (stringslite_IndexByte s c_)):=by
 generalize hm:stringslite_IndexByte s c_=r;rw[stringslite_IndexByte]at hm;refine dh (call182 _) func182 ntmps182 λM X w=>?_;refine uO [] ?_;refine uR [0,1] [4] [vI (FD s c_)] [⟨some (vI (FD s c_)),rB 235 [vS s,vU c_] (vI (FD s c_)),λ_ _=>a8u _ _ _⟩] (aQ ?_);subst hm;exact bi [] bp

def strings_IndexByte(s:a7)(c_:Int):Int:=(stringslite_IndexByte s c_)
theorem JN(s:a7)(c_:Int):Rt 130 [vS s,vU c_] (vI (strings_IndexByte s c_)):=by
 generalize hm:strings_IndexByte s c_=r;rw[strings_IndexByte]at hm;refine dh (call130 _) func130 ntmps130 λM X w=>?_;refine uO [] ?_;refine uR [0,1] [4] [vI (stringslite_IndexByte s c_)] [kc (a0W s c_)] (aQ ?_);subst hm;exact bi [] bp

def NW(s:a7):Bool:=lt (cond (s==[]) true (decide (64<ln s))) λx3=>lt (cond x3 true (decide (0≤strings_IndexByte s 0))) λx4=>x4
theorem a8w(s:a7):Rt 129 [vS s] (vB (NW s)):=by
 generalize hm:NW s=r;rw[NW]at hm;refine dh (call129 _) func129 ntmps129 λM X w=>?_;refine uO [] ?_;obtain⟨x3,iD,x4,mF,hm⟩:=eL hm;refine uR [0] [2] [vB x4] [fF (gF x3) λhg=>JN s 0] ?_ (he:=by subst iD mF;kernel_rfl);refine aQ ?_;subst hm;exact bi [] bp

def Gf(m:Nat)(s:List a7):Nat→Int→Option (Sum Int Unit)
 |0,_=>none
 |kk+1,v6=>cond (decide (v6<ln s)) (aH (0≤v6∧v6<ln s)<|cond (NW (gi s v6)) (some (.inl v6)) (Gf m s kk (J (v6+1)))) (some (.inr ()))
def NX(m:Nat)(s:List a7):Option Int:=Option.bind (Gf m s m 0) λ(z3:Sum Int Unit)=>dk z3 λdv=>some (-1)
theorem a8x{ba:Gh}(m)(s)(r)(hm:NX m s=some r)(w)(hL:Rd [eI tS s ba] w):Rb 181 [vL ba s,.func (.func 129) ⟨[]⟩ ⟨[]⟩] (vI r) w:=by
 rw[NX]at hm;refine cu hL (call181 _) func181 ntmps181 λM X w=>?_;refine uO [] ?_;obtain⟨z3,hz,eW⟩:=ah hm;intro _ _ H2 hS;refine di (λa' w'=>∃dv:Unit,z3=Sum.inr dv∧Fr 19 [] a'∧SH M X w [eI tS s ba] w') ?_ ?_;replace hm:=hz;refine aN H2 hS (uR [] [7,8] [vI (ln s),vI 0] [] (aL ?_));refine eQ [] [8] (λv6=>[vI v6]) (λ_=>[eI tS s ba]) hm (λkk v6 hm=>?_);rw[Gf]at hm;refine uA 9 (vB (decide (v6<ln s))) [] (az ?_);refine uC hm ?_ ?_;intro hm;refine aq (az (aL (uR [9] [5] [vI v6] [] ?_)));obtain⟨dq,hm⟩:=bW hm;refine uI [ki 0 dq,kj 0 0 dq,kc (a8w (gi s v6))] hm ?_ ?_;intro hm;cases hm;have hm:=eW;cases hm;exact uZ [] [];intro hm;exact aq (gw [] hm);intro hm;refine bn ?_;cases hm;exact λ_ _ H8 hS=>⟨_,rfl,aw.aR (ks:=[]) H8 (by kernel_rfl),hS⟩;rintro _ _ ⟨dv,hz,H,hS⟩;subst hz;replace hm:=ee eW;replace hS:SH M _ w [] _:=hS.aV [] rfl;refine aN H hS ?_;cases hm;exact uZ [] []

def NY(m:Nat)(s:List a7):Option Bool:=Option.bind (NX m s) λy3=>some (decide (0≤y3))
theorem a8y{ba:Gh}(m)(s)(r)(hm:NY m s=some r)(w)(hL:Rd [eI tS s ba] w):Rb 128 [vL ba s,.func (.func 129) ⟨[]⟩ ⟨[]⟩] (vB r) w:=by
 rw[NY]at hm;refine cu hL (call128 _) func128 ntmps128 λM X w=>?_;refine uO [] ?_;obtain⟨y3,cg,hm⟩:=ah hm;refine uR [0,1] [4] [vB (decide (0≤y3))] [kr λ_ hS=>a8x (ba:=ba) m _ _ cg _ (aK bc (hS.im 0 rfl))] (aB [] (aQ ?_));cases hm;exact bi [] bp

def JO(m:Nat)(l_:List a7):Option Bool:=lt (cond (decide (0<ln l_)) (decide (ln l_≤16)) false) λx3=>Option.bind (cond x3 (NY m l_) (some default)) λy4=>some (cond x3 (!y4) false)
theorem a8z{a6:Gh}(m)(l_)(r)(hm:JO m l_=some r)(w)(hL:Rd [eI tS l_ a6] w):Rb 86 [vL a6 l_] (vB r) w:=by
 rw[JO]at hm;refine cu hL (call86 _) func86 ntmps86 λM X w=>?_;refine uO [] ?_;obtain⟨x3,iD,y4,qC,hm⟩:=sB hm;refine uR [0] [2] [vB (cond x3 (!y4) false)] [fv (gT x3) λ_ hS hg=>a8y (ba:=a6) m _ _ (bT (hg.1) qC) _ (aK bc (hS.im 0 rfl))] ?_ (he:=by subst iD;kernel_rfl);refine aB [] (aQ ?_);cases hm;exact bi [] bp

def NZ(m:Nat)(l_:List a7):Option Bool:=Option.bind (JO m l_) λy3=>some (!y3)
theorem a8A{a6:Gh}(m)(l_)(r)(hm:NZ m l_=some r)(w)(hL:Rd [eI tS l_ a6] w):Rb 85 [vL a6 l_] (vB r) w:=by
 rw[NZ]at hm;refine cu hL (call85 _) func85 ntmps85 λM X w=>?_;refine uO [] ?_;obtain⟨y3,cg,hm⟩:=ah hm;refine uR [0] [2] [vB (!y3)] [kr λ_ hS=>a8z (a6:=a6) m _ _ cg _ (aK bc (hS.im 0 rfl))] (aB [] (aQ ?_));cases hm;exact bi [] bp

def Gg(m:Nat)(s:List (List a7)):Nat→Int→Option (Sum Int Unit)
 |0,_=>none
 |kk+1,v6=>cond (decide (v6<ln s)) (aH (0≤v6∧v6<ln s)<|Option.bind (NZ m (gi s v6)) λdD=>cond dD (some (.inl v6)) (Gg m s kk (J (v6+1)))) (some (.inr ()))
def O0(m:Nat)(s:List (List a7)):Option Int:=Option.bind (Gg m s m 0) λ(z3:Sum Int Unit)=>dk z3 λdv=>some (-1)
theorem a8B{ba:Gh}(m)(s)(r)(hm:O0 m s=some r)(w)(hL:Rd [eI (Ty.sl tS) s ba] w):Rb 34 [vL ba s,.func (.func 85) ⟨[]⟩ ⟨[]⟩] (vI r) w:=by
 rw[O0]at hm;refine cu hL (call34 _) func34 ntmps34 λM X w=>?_;refine uO [] ?_;obtain⟨z3,hz,eW⟩:=ah hm;intro _ _ H2 hS;refine di (λa' w'=>∃dv:Unit,z3=Sum.inr dv∧Fr 19 [] a'∧SH M X w [eI (Ty.sl tS) s ba] w') ?_ ?_;replace hm:=hz;refine aN H2 hS (uR [] [7,8] [vI (ln s),vI 0] [] (aL ?_));refine eQ [] [8] (λv6=>[vI v6]) (λ_=>[eI (Ty.sl tS) s ba]) hm (λkk v6 hm=>?_);rw[Gg]at hm;refine uA 9 (vB (decide (v6<ln s))) [] (az ?_);refine uC hm ?_ ?_;intro hm;refine aq (az (aL (uR [9] [5] [vI v6] [] ?_)));obtain⟨dq,dD,jc,hm⟩:=kv hm;refine uI [ki 0 dq,kj 0 0 dq,kr λ_ hS=>a8A (a6:=ba.s v6.toNat 0) m _ _ jc _ (aK bc (fk ((hS.im 0 rfl).el dq)))] hm ?_ ?_;intro hm;cases hm;have hm:=eW;cases hm;exact uZ [] [];intro hm;exact aq (gw [] hm);intro hm;refine bn ?_;cases hm;exact λ_ _ H8 hS=>⟨_,rfl,aw.aR (ks:=[]) H8 (by kernel_rfl),hS⟩;rintro _ _ ⟨dv,hz,H,hS⟩;subst hz;replace hm:=ee eW;replace hS:SH M _ w [] _:=hS.aV [] rfl;refine aN H hS ?_;cases hm;exact uZ [] []

def JP(m:Nat)(s:List (List a7)):Option Bool:=Option.bind (O0 m s) λy3=>some (decide (0≤y3))
theorem a8C{ba:Gh}(m)(s)(r)(hm:JP m s=some r)(w)(hL:Rd [eI (Ty.sl tS) s ba] w):Rb 84 [vL ba s,.func (.func 85) ⟨[]⟩ ⟨[]⟩] (vB r) w:=by
 rw[JP]at hm;refine cu hL (call84 _) func84 ntmps84 λM X w=>?_;refine uO [] ?_;obtain⟨y3,cg,hm⟩:=ah hm;refine uR [0,1] [4] [vB (decide (0≤y3))] [kr λ_ hS=>a8B (ba:=ba) m _ _ cg _ (aK bc (hS.im 0 rfl))] (aB [] (aQ ?_));cases hm;exact bi [] bp

def a8D(eG:(List bM)→Option Int):Prop:=∀(a6:Gh)(M:Av)(l_:List bM)(r:Int),eG l_=some r→∀w,S0 M [eI bH l_ a6] w→Calls prog 87 ⟨[vL a6 l_]⟩ w (λe w'=>∃v,e=.returned v∧v=vI r∧SH M (ay [eI bH l_ a6]) w [] w')
def Bs(m:Nat)(l_:List bM)(v9:Int)(v24:Int)(Bt:(List bM)→Option Int):Nat→Int→Int→Option Int
 |0,_,_=>none
 |kk+1,cX,dc=>lt (decide (dc<ln (gi (gi l_ v9).bt v24).bC)) λmH=>cond mH (Option.bind (aH (0≤dc∧dc<ln (gi (gi l_ v9).bt v24).bC)<|lt (gi (gi (gi l_ v9).bt v24).bC dc).an λpz=>lt (gi (gi (gi l_ v9).bt v24).bC dc).bm λBu=>lt (gi (gi (gi l_ v9).bt v24).bC dc).Op λBv=>lt (gi (gi (gi l_ v9).bt v24).bC dc).Value λBw=>lt (gi (gi (gi l_ v9).bt v24).bC dc).Bg λrI=>lt (gi (gi (gi l_ v9).bt v24).bC dc).mB.A λwY=>lt (gi (gi (gi l_ v9).bt v24).bC dc).mB.B λiT=>lt (gi (gi (gi l_ v9).bt v24).bC dc).Of λzz=>lt (cond (cond (pz==9) true (pz==10)) (!zz) false) λsM=>lt (cond sM (wY==0&&(iT==1&&true)) false) λzp=>lt (cond (pz==3) true (cond (decide (9≤pz)) (!zp) false)) λu7=>cond u7 (Option.bind (Bt (gi (gi (gi l_ v9).bt v24).bC dc).ae) λTM=>lt (if cX<J (TM+1)then J (TM+1)else cX) λtY=>some tY) (some cX)) λ(rJ:Int)=>Bs m l_ v9 v24 Bt kk rJ (J (dc+1))) (some cX)
def Bx(m:Nat)(l_:List bM)(v9:Int)(Bt:(List bM)→Option Int):Nat→Int→Int→Option Int
 |0,_,_=>none
 |kk+1,v23,v24=>cond (decide (v24<ln (gi l_ v9).bt)) (Option.bind (aH (0≤v24∧v24<ln (gi l_ v9).bt)<|Bs m l_ v9 v24 Bt m v23 0) λ(fB:Int)=>Bx m l_ v9 Bt kk fB (J (v24+1))) (some v23)
def Bz(m:Nat)(l_:List bM)(Bt:(List bM)→Option Int):Nat→Int→Int→Option Int
 |0,_,_=>none
 |kk+1,v8,v9=>cond (decide (v9<ln l_)) (Option.bind (aH (0≤v9∧v9<ln l_)<|Bx m l_ v9 Bt m v8 0) λ(z12:Int)=>Bz m l_ Bt kk z12 (J (v9+1))) (some v8)
def rK(m:Nat):Nat→List bM→Option Int
 |0,_=>none
 |k+1,l_=>Option.bind (Bz m l_ (rK m k) m 0 0) λ(z5:Int)=>some z5
theorem a8E(m:Nat):∀(k:Nat),a8D (rK m k):=by
 intro k
 induction k with
 |zero=>intro a6 M l_ r hm;exact cN hm
 |succ k ih=>
  intro a6 M l_ r hm w hS;rw[rK]at hm;have aJ:SH M (ay [eI bH l_ a6]) w [eI bH l_ a6] w:=hS;generalize hX:ay [eI bH l_ a6]=X at aJ⊢;clear hS hX;have hS:=aJ;clear aJ;refine eg func87 rfl ntmps87 rfl λ_ H=>?_;refine aN H hS (dp [0] [vL a6 l_] [] ?_);refine uA 3 (vI 0) [] ?_;obtain⟨z5,hz,hm⟩:=ah hm;refine uK [0] [3] [vI z5] [eI bH l_ a6] ?_ ?_;replace hm:=hz;refine uR [0] [12,13,14] [vL a6 l_,vI (ln l_),vI 0] [] (aL ?_);refine iX [] [3,14] (λv8 v9=>[vI v8,vI v9]) (λ_ _=>[eI bH l_ a6]) hm (λkk v8 v9 hm=>?_);rw[Bz]at hm;refine uA 15 (vB (decide (v9<ln l_))) [] (az ?_);refine uC hm ?_ ?_;intro hm;refine aq ?_;obtain⟨z12,hz,hm⟩:=ah hm;refine uK [15] [3] [vI z12] [eI bH l_ a6] ?_ ?_;replace hm:=hz;refine aL (aM ?_);obtain⟨cH,hm⟩:=bW hm;refine uB 2 [15] [3,12,13,14,17] [vI v8,vL a6 l_,vI (ln l_),vI v9,.agg ⟨e0 (gi l_ v9) (a6.s v9.toNat)⟩] [ki 0 cH,⟨some (.agg ⟨e0 (gi l_ v9) (a6.s v9.toNat)⟩),λwz=>V.bV (ab a6.a) (ao a6.a+v9.toNat*3) (e0 (gi l_ v9) (a6.s v9.toNat)) 0 wz,λ_ hS=>(hS.im 0 rfl).ef cH 0 rfl⟩] ?_;refine uM [] [0] [] (oA [vU 0,vO,vO]) λrL=>?_;refine uL [0] [1] [17] (oS (e0 (gi l_ v9) (a6.s v9.toNat)) rfl rfl) (aC ?_);refine uR [5] [19,20,21] [.slice (a6.s v9.toNat 0).a (gi l_ v9).bt.length (a6.s v9.toNat 0).c,vI (ln (gi l_ v9).bt),vI 0] [kb 0 1] (aB [1] (aL ?_));refine iX [] [3,21] (λv23 v24=>[vI v23,vI v24]) (λ_ _=>[eI bH l_ a6]) hm (λkk v23 v24 hm=>?_);rw[Bx]at hm;refine uA 22 (vB (decide (v24<ln (gi l_ v9).bt))) [] (az ?_);refine uC hm ?_ ?_;intro hm;refine aq ?_;obtain⟨fB,hz,hm⟩:=ah hm;refine uK [22] [3] [vI fB] [eI bH l_ a6] ?_ ?_;replace hm:=hz;refine aL (aM ?_);obtain⟨oc,hm⟩:=bW hm;refine uB 2 [22] [3,12,13,14,19,20,21,24] [vI v23,vL a6 l_,vI (ln l_),vI v9,.slice (a6.s v9.toNat 0).a (gi l_ v9).bt.length (a6.s v9.toNat 0).c,vI (ln (gi l_ v9).bt),vI v24,vG [vS (gi (gi l_ v9).bt v24).Tag,.slice ((a6.s v9.toNat 0).s v24.toNat 0).a (gi (gi l_ v9).bt v24).bC.length ((a6.s v9.toNat 0).s v24.toNat 0).c]] [⟨none,λ_=>dW (a6.s v9.toNat 0).a∧0≤v24∧v24<ln (gi l_ v9).bt,λ_ hS=>(lq ((hS.im 0 rfl).el cH)).j3 oc⟩,⟨some (vG [vS (gi (gi l_ v9).bt v24).Tag,.slice ((a6.s v9.toNat 0).s v24.toNat 0).a (gi (gi l_ v9).bt v24).bC.length ((a6.s v9.toNat 0).s v24.toNat 0).c]),λwz=>V.bV (ab (a6.s v9.toNat 0).a) (ao (a6.s v9.toNat 0).a+v24.toNat*2) [vS (gi (gi l_ v9).bt v24).Tag,.slice ((a6.s v9.toNat 0).s v24.toNat 0).a (gi (gi l_ v9).bt v24).bC.length ((a6.s v9.toNat 0).s v24.toNat 0).c] 0 wz,λ_ hS=>(lq ((hS.im 0 rfl).el cH)).ef oc 0 rfl⟩] ?_;refine uM [] [0] [] (oA [vN,vO]) λJE=>?_;refine uL [0] [1] [24] (oS [vS (gi (gi l_ v9).bt v24).Tag,.slice ((a6.s v9.toNat 0).s v24.toNat 0).a (gi (gi l_ v9).bt v24).bC.length ((a6.s v9.toNat 0).s v24.toNat 0).c] rfl rfl) (aC ?_);refine uR [7] [26,27,28] [.slice ((a6.s v9.toNat 0).s v24.toNat 0).a (gi (gi l_ v9).bt v24).bC.length ((a6.s v9.toNat 0).s v24.toNat 0).c,vI (ln (gi (gi l_ v9).bt v24).bC),vI 0] [kb 0 1] (aB [1] (aL ?_));refine iX [] [3,28] (λcX dc=>[vI cX,vI dc]) (λ_ _=>[eI bH l_ a6]) hm (λkk cX dc hm=>?_);rw[Bs]at hm;obtain⟨mH,wI,hm⟩:=bl hm;refine uA 29 (vB mH) [] ?_ (he:=by subst wI;kernel_rfl);refine az (uC hm ?_ ?_);intro hm;refine aq ?_;obtain⟨rJ,hz,hm⟩:=ah hm;refine uK [29] [3] [vI rJ] [eI bH l_ a6] ?_ ?_;replace hm:=hz;refine aL (aM ?_);obtain⟨JQ,pz,TN,hm⟩:=cv hm;obtain⟨Bu,TO,Bv,TP,hm⟩:=eL hm;obtain⟨Bw,TQ,rI,JR,hm⟩:=eL hm;obtain⟨wY,TR,iT,DZ,hm⟩:=eL hm;obtain⟨zz,TS,hm⟩:=bl hm;refine uB 2 [29] [3,12,13,14,19,20,21,26,27,28,31] [vI cX,vL a6 l_,vI (ln l_),vI v9,.slice (a6.s v9.toNat 0).a (gi l_ v9).bt.length (a6.s v9.toNat 0).c,vI (ln (gi l_ v9).bt),vI v24,.slice ((a6.s v9.toNat 0).s v24.toNat 0).a (gi (gi l_ v9).bt v24).bC.length ((a6.s v9.toNat 0).s v24.toNat 0).c,vI (ln (gi (gi l_ v9).bt v24).bC),vI dc,vG [vU pz,vS Bu,vU Bv,vS Bw,vB rI,vI wY,vI iT,vB zz,.slice (((a6.s v9.toNat 0).s v24.toNat 0).s dc.toNat 0).a (gi (gi (gi l_ v9).bt v24).bC dc).ae.length (((a6.s v9.toNat 0).s v24.toNat 0).s dc.toNat 0).c]] [⟨none,λ_=>dW ((a6.s v9.toNat 0).s v24.toNat 0).a∧0≤dc∧dc<ln (gi (gi l_ v9).bt v24).bC,λ_ hS=>(sC ((lq ((hS.im 0 rfl).el cH)).el oc)).j3 JQ⟩,⟨some (.agg ⟨e2 (gi (gi (gi l_ v9).bt v24).bC dc) (((a6.s v9.toNat 0).s v24.toNat 0).s dc.toNat)⟩),λwz=>V.bV (ab ((a6.s v9.toNat 0).s v24.toNat 0).a) (ao ((a6.s v9.toNat 0).s v24.toNat 0).a+dc.toNat*9) (e2 (gi (gi (gi l_ v9).bt v24).bC dc) (((a6.s v9.toNat 0).s v24.toNat 0).s dc.toNat)) 0 wz,λ_ hS=>(sC ((lq ((hS.im 0 rfl).el cH)).el oc)).ef JQ 0 rfl⟩] ?_ (he:=by subst TN TO TP TQ JR TR DZ TS;kernel_rfl);refine uM [] [0] [] (oA [vU 0,vN,vU 0,vN,vF,vI 0,vI 0,vF,vO]) λb55=>?_;refine uL [0] [1] [31] (oS [vU pz,vS Bu,vU Bv,vS Bw,vB rI,vI wY,vI iT,vB zz,.slice (((a6.s v9.toNat 0).s v24.toNat 0).s dc.toNat 0).a (gi (gi (gi l_ v9).bt v24).bC dc).ae.length (((a6.s v9.toNat 0).s v24.toNat 0).s dc.toNat 0).c] rfl rfl) (aC ?_);refine uA 10 (vB (cond (pz==9) true (pz==10))) [kb 0 0,bO (gF (pz==9)) 0 0] ?_;obtain⟨sM,E0,zp,Jx,hm⟩:=eL hm;refine uR [10] [11] [vB zp] [bO (gT (cond (pz==9) true (pz==10))) 0 7,⟨some (vG [vI wY,vI iT]),λwz=>sM=true∧True→V.bV b55 5 [vI wY,vI iT] 0 wz,λ_ hS=>λhg=>(hS.bk 0 rfl).eK rfl⟩] ?_ (he:=by subst E0 Jx;kernel_rfl);obtain⟨u7,JS,hm⟩:=bl hm;refine uJ [11] [kb 0 0,bO (gF (pz==3)) 0 0] hm ?_ ?_ (he:=by subst JS;kernel_rfl);intro hm;obtain⟨TM,a8F,tY,Ju,hm⟩:=iL hm;refine uW [9] [3] [vI tY] [kb 0 8,kr λ_ hS=>iC (aK bc (Ng ((sC ((lq ((hS.im 1 rfl).el cH)).el oc)).el JQ))) (call87 _) (λw' h'=>ih (((a6.s v9.toNat 0).s v24.toNat 0).s dc.toNat 0) F0 _ _ a8F w' h')] ?_ (he:=by subst Ju;kernel_rfl);refine aB [1] ?_;cases hm;exact te;intro hm;refine aq ?_;cases hm;refine aB [1] ?_;exact te;exact jz [] hm;intro hm;refine bn ?_;cases hm;exact te;exact jz [] hm;intro hm;refine bn ?_;cases hm;exact te;exact jz [] hm;intro hm;refine bn ?_;cases hm;exact te;refine aB [] ?_;cases hm;exact uZ [] []
def a0X(m:Nat)(l_:List bM):Option Int:=rK m m l_
theorem a8G{a6:Gh}(m)(l_)(r)(hm:a0X m l_=some r)(w)(hL:Rd [eI bH l_ a6] w):Rb 87 [vL a6 l_] (vI r) w:=iC hL (call87 _) (λw' h=>a8E m m a6 F0 l_ r hm w' h)

structure iZ where
  dC:Int
  has:Bool
instance:Inhabited iZ:=⟨⟨default,default⟩⟩
def ajn:Ty iZ where
  z:=2
  enc:=λx g=>[vI x.dC,vB x.has]
  bK:=λ_ _ _ _=>True
  len:=λ_ _=>rfl
  one:=λ_ _=>rfl
  kp:=λ_ _ _=>trivial
  bS:=λ_ _=>trivial
  fresh:=λ_=>trivial
def JT(s:a7)(most:Int):Bool:=lt (cond (decide (most<ln s)) true (decide (0≤strings_IndexByte s 0))) λx3=>x3
theorem a0Y(s:a7)(most:Int):Rt 273 [vS s,vI most] (vB (JT s most)):=by
 generalize hm:JT s most=r;rw[JT]at hm;refine dh (call273 _) func273 ntmps273 λM X w=>?_;refine uO [] ?_;obtain⟨x3,iD,hm⟩:=bl hm;refine uR [0,1] [4] [vB x3] [fF (gF (decide (most<ln s))) λhg=>JN s 0] ?_ (he:=by subst iD;kernel_rfl);refine aQ ?_;subst hm;exact bi [] bp

def BA(s:a7):Bool:=lt (cond (!(s==[])) (!(JT s 64)) false) λx3=>x3
theorem a0Z(s:a7):Rt 269 [vS s] (vB (BA s)):=by
 generalize hm:BA s=r;rw[BA]at hm;refine dh (call269 _) func269 ntmps269 λM X w=>?_;refine uO [] ?_;obtain⟨x3,iD,hm⟩:=bl hm;refine uR [0] [2] [vB x3] [fF (gT (!(s==[]))) λhg=>a0Y s 64] ?_ (he:=by subst iD;kernel_rfl);refine aQ ?_;subst hm;exact bi [] bp

def BB(m:Nat)(s:a7):Nat→Int→List Int→Option (List Int)
 |0,_,_=>none
 |kk+1,aO,bx=>cond (decide (aO<ln (bG s))) (Option.bind (aH (0≤aO∧aO<ln (bG s))<|lt (cond (decide (65≤gi bx aO)) (decide (gi bx aO≤90)) false) λlI=>cond lI (lt (xG bx aO (fD .or .u8 (gi bx aO) 32)) λBC=>some BC) (some bx)) λ(j0:List Int)=>BB m s kk (J (aO+1)) j0) (some bx)
def zA(m:Nat)(s:a7):Option a7:=Option.bind (BB m s m 0 (bG s)) λ(cY:List Int)=>some (jx cY)
theorem JU(m)(s)(r)(hm:zA m s=some r):Rt 189 [vS s] (vS r):=by
 rw[zA]at hm;refine dh (call189 _) func189 ntmps189 λM X w=>?_;refine uO [] (aM ?_);refine uB 1 [0] [6] [vS s] [] ?_;intro _ _ H4 hS;have hd:=hS.hand [] [] rfl rfl;refine gn [7] [] H4 rfl rfl rfl rfl (IX (E:=5) H4 hd rfl (by kernel_rfl) (by kernel_rfl) (by kernel_rfl)) (λ_=>rfl) λ_ _ v H8 hq=>?_;obtain⟨b5,c6,rfl,T3,hq⟩:=hq;replace hS:=hS.join [] [] rfl rfl hq;refine aN H8 hS (fG 3 [3] [.slice (some ⟨b5,0,none⟩) (bG s).length c6] [] (aC ?_));obtain⟨cY,hz,hm⟩:=ah hm;refine uK [] [] [] [a8.row .u8 b5 cY (ln (bG s))] ?_ ?_;replace hm:=hz;refine uR [] [8,9,10] [.slice (some ⟨b5,0,none⟩) (bG s).length c6,vI (ln (bG s)),vI 0] [] (aL ?_);refine iX [] [10] (λaO _=>[vI aO]) (λ_ bx=>[a8.row .u8 b5 bx (ln (bG s))]) hm (λkk aO bx hm=>?_);rw[BB]at hm;refine uA 11 (vB (decide (aO<ln (bG s)))) [] (az ?_);refine uC hm ?_ ?_;intro hm;refine aq ?_;obtain⟨j0,hz,hm⟩:=ah hm;refine uK [11] [] [] [a8.row .u8 b5 j0 (ln (bG s))] ?_ ?_;replace hm:=hz;refine aL ?_;obtain⟨kZ,hm⟩:=bW hm;refine uR [11] [3,4,5,8,9,10] [.slice (some ⟨b5,0,none⟩) (bG s).length c6,vI aO,vU (gi bx aO),.slice (some ⟨b5,0,none⟩) (bG s).length c6,vI (ln (bG s)),vI aO] [⟨none,λ_=>dW (some ⟨b5,0,none⟩)∧0≤aO∧aO<ln (bG s),λ_ _=>⟨rfl,kZ⟩⟩,⟨some (vU (gi bx aO)),λwz=>V.cd ⟨b5,0+aO.toNat*1,none⟩ (vU (gi bx aO)) wz,λ_ hS=>Rw.FE (hS.rw 0 rfl) kZ⟩] ?_;obtain⟨lI,u6,hm⟩:=bl hm;refine uJ [5] [] hm ?_ ?_ (he:=by subst u6;kernel_rfl);intro hm;refine dB ?_;refine uB 6 [4] [25,26] [vU (fD .or .u8 (gi bx aO) 32),.pointer (some ⟨b5,0+aO.toNat*1,none⟩)] [⟨none,λ_=>dW (some ⟨b5,0,none⟩)∧0≤aO∧aO<ln (bG s),λ_ _=>⟨rfl,kZ⟩⟩,⟨some (vU (gi bx aO)),λwz=>V.cd ⟨b5,0+aO.toNat*1,none⟩ (vU (gi bx aO)) wz,λ_ hS=>Rw.FE (hS.rw 0 rfl) kZ⟩,⟨none,λ_=>dW (some ⟨b5,0,none⟩)∧0≤aO∧aO<ln (bG s),λ_ _=>⟨rfl,kZ⟩⟩] ?_;intro _ _ kA hS;have hd:=hS.hand [0] [] rfl rfl;refine uE [3,8,9,10] (fS [3,8,9,10] [.slice (some ⟨b5,0,none⟩) (bG s).length c6,.slice (some ⟨b5,0,none⟩) (bG s).length c6,vI (ln (bG s)),vI aO]) kA rfl rfl rfl (MM kA hd rfl rfl (by kernel_rfl) kZ) rfl λ_ _ lA hq=>?_;obtain⟨_,hq⟩:=hq;obtain⟨BC,JV,hm⟩:=bl hm;rw[←JV]at hq;replace hS:=hS.join [0] [] rfl rfl hq;refine aN lA hS (aC ?_);cases hm;exact te;intro hm;refine aq ?_;cases hm;exact te;exact jz [] hm;intro hm;refine bn ?_;cases hm;exact te;intro _ _ H hS;refine Fw [vS (jx cY)] [2] [(2,[],vS (jx cY))] [λwz=>∀w',Below wz.heap.size wz w'→(convert 150 9 (.slice (some ⟨b5,0,none⟩) (bG s).length c6)).run prog w'=.ok (vS (jx cY)) w'] H (by kernel_rfl) ⟨MF (E:=5) (by kernel_rfl) (by kernel_rfl) (by kernel_rfl) (hS.rw 0 rfl).1 (hS.rw 0 rfl).2,trivial⟩ λ_ _ kC hb=>?_;replace hS:=hS.below hb;replace hS:SH M _ w [] _:=hS.aV [] rfl;refine aN kC hS (aQ ?_);cases hm;exact bi [] bp

def Gi(m:Nat)(s:a7):Option Bool:=Option.bind (cond (BA s) (zA m s) (some default)) λy3=>some (cond (BA s) (y3==s) false)
theorem a10(m)(s)(r)(hm:Gi m s=some r):Rt 237 [vS s] (vB r):=by
 rw[Gi]at hm;refine dh (call237 _) func237 ntmps237 λM X w=>?_;refine uO [] ?_;obtain⟨y3,cg,hm⟩:=ah hm;cases hm;exact uZ [] [kc (a0Z s),fF (gT (BA s)) λhg=>JU m _ _ (bT (hg.1) cg)]

def JW(x_:fA):Bool×Bool:=lt (cond (x_.an==9) (x_.an==9) (x_.an==10)) λ(z8:Bool)=>cond z8 ((x_.Of,false)) (lt (cond (x_.an==11) (x_.an==11) (x_.an==12)) λ(cw:Bool)=>cond cw ((true,true)) (lt (cond (x_.an==13) (x_.an==13) (x_.an==14)) λ(z24:Bool)=>cond z24 ((true,false)) ((false,true))))
theorem a8H{dP:Gh}(x_:fA)(w)(hL:Rd [eI bH x_.ae dP] w):Rb 270 [.agg ⟨e2 x_ (gL [dP])⟩] (vW [vB (JW x_).1,vB (JW x_).2]) w:=by
 generalize hm:JW x_=r;rw[JW]at hm;refine cu hL (call270 _) func270 ntmps270 λM X w=>(aM ?_);refine uM [] [0] [0] (oB (e2 x_ (gL [dP])) rfl) λb1=>?_;refine uP 3 [] (aC (az ?_));refine uA 5 (vU x_.an) [kb 0 0] (aL ?_);obtain⟨z8,hz,hm⟩:=bl hm;refine uK [] [6] [vB z8] [eB b1 (e2 x_ (gL [dP])),eI bH x_.ae dP] ?_ ?_;replace hm:=hz.symm;refine uA 6 (vB (x_.an==9)) [] ?_;refine uC hm ?_ ?_;intro hm;refine aq ?_;subst hm;exact te;intro hm;refine uV 6 (vB (x_.an==10)) [] ?_;subst hm;exact te;refine qB (λhc=>?c38) (λhc=>?_)
 case c38=>
  replace hm:=bT hc hm;refine uR [1,5,6] [2,3] [vB x_.Of,vF] [kb 0 7] (aB [] (aQ ?_));subst hm;exact bi [] fa
 replace hm:=bF hc hm;obtain⟨cw,hz,hm⟩:=bl hm;refine uK [1,6] [11] [vB cw] [eB b1 (e2 x_ (gL [dP])),eI bH x_.ae dP] ?_ ?_;replace hm:=hz.symm;refine uR [1,6] [11] [vB (x_.an==11)] [] ?_;refine uC hm ?_ ?_;intro hm;refine aq ?_;subst hm;exact te;intro hm;refine uV 11 (vB (x_.an==12)) [] ?_;subst hm;exact te;refine aB [] (uC hm ?_ ?_);intro hm;refine uR [5,11] [2,3] [vT,vT] [] (aQ ?_);subst hm;exact bi [] fa;intro hm;obtain⟨z24,hz,hm⟩:=bl hm;refine uK [5,11] [14] [vB z24] [] ?_ ?_;replace hm:=hz.symm;refine uR [11] [14] [vB (x_.an==13)] [] ?_;refine uC hm ?_ ?_;intro hm;refine aq ?_;subst hm;exact te;intro hm;refine uW [5] [14] [vB (x_.an==14)] [] ?_;subst hm;exact te;refine uC hm ?_ ?_;intro hm;refine uR [14] [2,3] [vT,vF] [] (aQ ?_);subst hm;exact bi [] fa;intro hm;refine aq (uR [14] [2,3] [vF,vT] [] (aQ ?_));subst hm;exact bi [] fa

def Gj(p:iZ)(cz:Int):iZ×Bool:=lt (cond (p.dC==3) true (cond p.has (cz==14) false)) λfN=>cond fN ((iZ.mk 0 false,false)) ((iZ.mk (J (p.dC+1)) (cond p.has true (cz==14)),true))
theorem a8I(p:iZ)(cz:Int):Rt 271 [vG [vI p.dC,vB p.has],vU cz] (vW [vG [vI (Gj p cz).1.dC,vB (Gj p cz).1.has],vB (Gj p cz).2]):=by
 generalize hm:Gj p cz=r;rw[Gj]at hm;refine dh (call271 _) func271 ntmps271 λM X w=>(aM ?_);refine uM [] [] [0] (oB [vI p.dC,vB p.has] rfl) λb1=>?_;refine uM [] [0] [] (oA [vI 0,vF]) λb4=>?_;refine uP 3 [] (aC ?_);refine uR [1] [6] [vB (cz==14)] [] (az ?_);obtain⟨fN,oO,hm⟩:=bl hm;refine uI [kb 1 0,bO (gF (p.dC==3)) 1 1] hm ?_ ?_ (he:=by subst oO;kernel_rfl);intro hm;refine aM (uB 1 [2,6] [19] [vG [vI 0,vF]] [] ?_);refine uL [0] [1] [19] (oS [vI 0,vF] rfl rfl) ?_;refine uB 3 [] [5] [vF] [] (aC (aB [0] (aQ ?_)));subst hm;exact bi [] (lV 0 underlying219);intro hm;refine aq (aM (uB 9 [2,6] [28] [vG [vI (J (p.dC+1)),vB (cond p.has true (cz==14))]] [kb 1 0,kb 1 1] ?_));refine uL [0] [1] [28] (oS [vI (J (p.dC+1)),vB (cond p.has true (cz==14))] rfl rfl) ?_;refine uB 11 [] [5] [vT] [] (aC (aB [0] (aQ ?_)));subst hm;exact bi [] (lV 0 underlying219)

def E1(n_:Int):Bool:=lt (cond (decide ((-1000000000)≤n_)) (decide (n_≤1000000000)) false) λx3=>x3
theorem a11(n_:Int):Rt 300 [vI n_] (vB (E1 n_)):=by
 generalize hm:E1 n_=r;rw[E1]at hm;refine dh (call300 _) func300 ntmps300 λM X w=>?_;refine uO [] ?_;obtain⟨x3,iD,hm⟩:=bl hm;refine uR [0] [2] [vB x3] [] ?_ (he:=by subst iD;kernel_rfl);refine aQ ?_;subst hm;exact bi [] bp

def O1(a_:zj):Int:=lt (cond (!(E1 a_.A)) true (!(E1 a_.B))) λx6=>cond x6 (8) (0)
theorem a8J(a_:zj):Rt 274 [vG [vI a_.A,vI a_.B]] (vI (O1 a_)):=by
 generalize hm:O1 a_=r;rw[O1]at hm;refine dh (call274 _) func274 ntmps274 λM X w=>(aM ?_);refine uM [] [] [0] (oB [vI a_.A,vI a_.B] rfl) λb1=>?_;refine uP 2 [] (aC (az ?_));obtain⟨x6,oH,hm⟩:=bl hm;refine uR [1] [12] [vB x6] [kb 0 0,kc (a11 a_.A),bO (gF (!(E1 a_.A))) 0 1,fF (gF (!(E1 a_.A))) λhg=>a11 a_.B] ?_ (he:=by subst oH;kernel_rfl);refine aB [] (uC hm ?_ ?_);intro hm;refine uR [12] [2] [vI 8] [] (aQ ?_);subst hm;exact bi [] bp;intro hm;refine aq (uR [12] [2] [vI 0] [] (aQ ?_));subst hm;exact bi [] bp

def zB(eG:bM→iZ→Bool→Option Bool):Prop:=∀(aF:Gh)(aj:Gh)(M:Av)(c_:bM)(p:iZ)(ik:Bool)(r:Bool),eG c_ p ik=some r→∀w,S0 M [eI k6 c_.bt aF,eI (tI .u8) c_.iM aj] w→Calls prog 133 ⟨[.agg ⟨e0 c_ (gL [aF,aj])⟩,vG [vI p.dC,vB p.has],vB ik]⟩ w (λe w'=>∃v,e=.returned v∧v=vB r∧SH M (ay [eI k6 c_.bt aF,eI (tI .u8) c_.iM aj]) w [] w')
def O2(m:Nat)(fq:bM→iZ→Bool→Option Bool)(c_:bM)(u9:Int)(ua:Bool)(O3:Int)(TT:a7)(TU:Int)(TV:a7)(TW:Bool)(TX:Int)(TY:Int)(TZ:Bool)(O4:List bM):Option Bool:=Option.bind (fq c_ (iZ.mk u9 ua) (O3==14)) λy6=>some (!y6)
theorem a8K{aF aj:Gh}{bw:Nat}{cx:Nat}{U0:Gh}(m)(fq)(rM:zB fq)(c_)(u9)(ua)(O3)(TT)(TU)(TV)(TW)(TX)(TY)(TZ)(O4)(r)(hm:O2 m fq c_ u9 ua O3 TT TU TV TW TX TY TZ O4=some r)(w)(hL:Rd [eI k6 c_.bt aF,eI (tI .u8) c_.iM aj,a8.ro bw [vI u9,vB ua],a8.ro cx [vU O3,vS TT,vU TU,vS TV,vB TW,vI TX,vI TY,vB TZ,vL U0 O4],eI bH O4 U0] w):Rb 272 [.agg ⟨e0 c_ (gL [aF,aj])⟩,vP bw,vP cx] (vB r) w:=by
 rw[O2]at hm;refine cu hL (call272 _) func272 ntmps272 λM X w=>(aM ?_);refine uM [] [0,1,2,3,4] [0] (oB (e0 c_ (gL [aF,aj])) rfl) λb1=>?_;refine uP 2 [] (aC ?_);obtain⟨y6,gK,hm⟩:=ah hm;refine uR [1,2,3] [4] [vB (!y6)] [kE 0 3,⟨some (vG [vI u9,vB ua]),rN bw 0 [vI u9,vB ua],λ_ hS=>(hS.ro 3 rfl).eK rfl⟩,ko 4 0,kr λ_ hS=>iC (aK (aK bc (hS.im 2 rfl)) (hS.im 1 rfl)) (call133 _) (λw' h'=>rM aF aj F0 _ _ _ _ gK w' h')] (aB [] (aQ ?_));cases hm;exact bi [] bp
def JX(m:Nat)(fq:bM→iZ→Bool→Option Bool)(s:List bM)(jO:Int)(jP:Bool)(sN:Int)(sO:a7)(sP:Int)(sQ:a7)(sR:Bool)(sS:Int)(sT:Int)(sU:Bool)(pA:List bM):Nat→Int→Option (Sum Int Unit)
 |0,_=>none
 |kk+1,v6=>cond (decide (v6<ln s)) (aH (0≤v6∧v6<ln s)<|Option.bind (O2 m fq (gi s v6) jO jP sN sO sP sQ sR sS sT sU pA) λdD=>cond dD (some (.inl v6)) (JX m fq s jO jP sN sO sP sQ sR sS sT sU pA kk (J (v6+1)))) (some (.inr ()))
def O5(m:Nat)(fq:bM→iZ→Bool→Option Bool)(s:List bM)(jO:Int)(jP:Bool)(sN:Int)(sO:a7)(sP:Int)(sQ:a7)(sR:Bool)(sS:Int)(sT:Int)(sU:Bool)(pA:List bM):Option Int:=Option.bind (JX m fq s jO jP sN sO sP sQ sR sS sT sU pA m 0) λ(z3:Sum Int Unit)=>dk z3 λdv=>some (-1)
theorem a8L{ba:Gh}{il:Nat}{wZ:Nat}{ub:Gh}(m)(fq)(rM:zB fq)(s)(jO)(jP)(sN)(sO)(sP)(sQ)(sR)(sS)(sT)(sU)(pA)(r)(hm:O5 m fq s jO jP sN sO sP sQ sR sS sT sU pA=some r)(w)(hL:Rd [eI bH s ba,a8.ro il [vI jO,vB jP],a8.ro wZ [vU sN,vS sO,vU sP,vS sQ,vB sR,vI sS,vI sT,vB sU,vL ub pA],eI bH pA ub] w):Rb 183 [vL ba s,.func (.func 272) ⟨[]⟩ ⟨[vP il,vP wZ]⟩] (vI r) w:=by
 rw[O5]at hm;refine cu hL (call183 _) func183 ntmps183 λM X w=>?_;refine uO [] ?_;obtain⟨z3,hz,eW⟩:=ah hm;intro _ _ H2 hS;refine di (λa' w'=>∃dv:Unit,z3=Sum.inr dv∧Fr 19 [] a'∧SH M X w [eI bH s ba,a8.ro il [vI jO,vB jP],a8.ro wZ [vU sN,vS sO,vU sP,vS sQ,vB sR,vI sS,vI sT,vB sU,vL ub pA],eI bH pA ub] w') ?_ ?_;replace hm:=hz;refine aN H2 hS (uR [] [7,8] [vI (ln s),vI 0] [] (aL ?_));refine eQ [] [8] (λv6=>[vI v6]) (λ_=>[eI bH s ba,a8.ro il [vI jO,vB jP],a8.ro wZ [vU sN,vS sO,vU sP,vS sQ,vB sR,vI sS,vI sT,vB sU,vL ub pA],eI bH pA ub]) hm (λkk v6 hm=>?_);rw[JX]at hm;refine uA 9 (vB (decide (v6<ln s))) [] (az ?_);refine uC hm ?_ ?_;intro hm;refine aq (az (aL (uR [9] [5] [vI v6] [] ?_)));obtain⟨dq,dD,jc,hm⟩:=kv hm;refine uI [ki 0 dq,⟨some (.agg ⟨e0 (gi s v6) (ba.s v6.toNat)⟩),λwz=>V.bV (ab ba.a) (ao ba.a+v6.toNat*3) (e0 (gi s v6) (ba.s v6.toNat)) 0 wz,λ_ hS=>(hS.im 0 rfl).ef dq 0 rfl⟩,kr λ_ hS=>a8K (aF:=ba.s v6.toNat 0) (aj:=ba.s v6.toNat 1) (bw:=il) (cx:=wZ) (U0:=ub) m _ rM _ _ _ _ _ _ _ _ _ _ _ _ _ jc _ (aK (aK (iB (iB (aK bc (hS.im 3 rfl)) (hS.ro 2 rfl)) (hS.ro 1 rfl)) (a0o ((hS.im 0 rfl).el dq))) (lq ((hS.im 0 rfl).el dq)))] hm ?_ ?_;intro hm;cases hm;have hm:=eW;cases hm;exact uZ [] [];intro hm;exact aq (gw [] hm);intro hm;refine bn ?_;cases hm;exact λ_ _ H8 hS=>⟨_,rfl,aw.aR (ks:=[]) H8 (by kernel_rfl),hS⟩;rintro _ _ ⟨dv,hz,H,hS⟩;subst hz;replace hm:=ee eW;replace hS:SH M _ w [] _:=hS.aV [] rfl;refine aN H hS ?_;cases hm;exact uZ [] []
def JY(m:Nat)(fq:bM→iZ→Bool→Option Bool)(s:List bM)(jO:Int)(jP:Bool)(sN:Int)(sO:a7)(sP:Int)(sQ:a7)(sR:Bool)(sS:Int)(sT:Int)(sU:Bool)(pA:List bM):Option Bool:=Option.bind (O5 m fq s jO jP sN sO sP sQ sR sS sT sU pA) λy3=>some (decide (0≤y3))
theorem a8M{ba:Gh}{il:Nat}{wZ:Nat}{ub:Gh}(m)(fq)(rM:zB fq)(s)(jO)(jP)(sN)(sO)(sP)(sQ)(sR)(sS)(sT)(sU)(pA)(r)(hm:JY m fq s jO jP sN sO sP sQ sR sS sT sU pA=some r)(w)(hL:Rd [eI bH s ba,a8.ro il [vI jO,vB jP],a8.ro wZ [vU sN,vS sO,vU sP,vS sQ,vB sR,vI sS,vI sT,vB sU,vL ub pA],eI bH pA ub] w):Rb 131 [vL ba s,.func (.func 272) ⟨[]⟩ ⟨[vP il,vP wZ]⟩] (vB r) w:=by
 rw[JY]at hm;refine cu hL (call131 _) func131 ntmps131 λM X w=>?_;refine uO [] ?_;obtain⟨y3,cg,hm⟩:=ah hm;refine uR [0,1] [4] [vB (decide (0≤y3))] [kr λ_ hS=>a8L (ba:=ba) (il:=il) (wZ:=wZ) (ub:=ub) m _ rM _ _ _ _ _ _ _ _ _ _ _ _ _ cg _ (aK (iB (iB (aK bc (hS.im 3 rfl)) (hS.ro 2 rfl)) (hS.ro 1 rfl)) (hS.im 0 rfl))] (aB [] (aQ ?_));cases hm;exact bi [] bp
def JZ(m:Nat)(fq:bM→iZ→Bool→Option Bool)(x_:fA)(p:iZ):Option Bool:=lt (JW x_) λy9=>Option.bind (cond y9.1 (lt (Gj p x_.an) λe9=>lt (cond (!e9.2) true (cond (!y9.2) (ln x_.ae==0) false)) λlJ=>Option.bind (cond lJ (some default) (JY m fq x_.ae e9.1.dC e9.1.has x_.an x_.bm x_.Op x_.Value x_.Bg x_.mB.A x_.mB.B x_.Of x_.ae)) λkD=>cond (cond lJ true kD) (some (.inl false)) (some (.inr ()))) (cond (decide (0<ln x_.ae)) (some (.inl false)) (some (.inr ())))) λ(z12:Sum Bool Unit)=>dk z12 λU1=>lt (cond (!(x_.an==3)) (cond (cond (x_.Op !=0) true (!(x_.Value==[]))) true x_.Bg) false) λoT=>lt (cond oT true (cond (!(cond (x_.an==9) true (x_.an==10))) (cond x_.Of true (!(x_.mB.A==0&&(x_.mB.B==0&&true)))) false)) λmJ=>cond mJ (some false) (Option.bind (cond (x_.an==1) (some (x_.an==1)) (some (x_.an==2))) λ(kG:Bool)=>cond kG (some (BA x_.bm)) (cond (x_.an==3) (Option.bind (Gi m x_.bm) λK0=>lt (cond (cond K0 (decide (x_.Op≤6)) false) (!(JT x_.Value 400)) false) λyh=>lt (cond yh (cond (x_.Op !=0) true (cond (x_.Value==[]) (!x_.Bg) false)) false) λsM=>some sM) (lt (cond (x_.bm==[]) (decide (4≤x_.an)) false) λBD=>lt (cond (cond BD (decide (x_.an≤14)) false) (cond (!(cond (x_.an==9) true (x_.an==10))) true (O1 x_.mB==0)) false) λu7=>some u7)))
theorem a8N{dP:Gh}(m)(fq)(rM:zB fq)(x_)(p)(r)(hm:JZ m fq x_ p=some r)(w)(hL:Rd [eI bH x_.ae dP] w):Rb 238 [.agg ⟨e2 x_ (gL [dP])⟩,vG [vI p.dC,vB p.has]] (vB r) w:=by
 rw[JZ]at hm;refine cu hL (call238 _) func238 ntmps238 λM X w=>(aM ?_);refine uM [] [0] [0] (oB (e2 x_ (gL [dP])) rfl) λb1=>?_;refine uM [] [0,1] [1] (oB [vI p.dC,vB p.has] rfl) λb4=>?_;refine uP 3 [] (aC ?_);obtain⟨y9,oI,hm⟩:=bl hm;refine uR [] [5,6] [vB y9.1,vB y9.2] [kE 1 9,⟨some (vW [vB y9.1,vB y9.2]),rB 270 [.agg ⟨e2 x_ (gL [dP])⟩] (vW [vB y9.1,vB y9.2]),λ_ hS=>(by rw[oI];exact a8H (dP:=dP) x_ _ (aK bc (hS.im 2 rfl)))⟩] ?_ (he:=by subst oI;kernel_rfl);obtain⟨z12,hz,U2⟩:=ah hm;intro _ _ lz hS;refine di (λa' w'=>∃U1:Unit,z12=Sum.inr U1∧Fr 149 [(2,[],vP b1)] a'∧SH M X w [eB b4 [vI p.dC,vB p.has],eB b1 (e2 x_ (gL [dP])),eI bH x_.ae dP] w') ?_ ?_;replace hm:=hz;refine aN lz hS (uR [5] [16] [vB y9.1] [] ?_);refine uC hm ?_ ?_;intro hm;refine aM ?_;obtain⟨e9,qH,hm⟩:=bl hm;refine uB 7 [3,16] [22,23] [vG [vI e9.1.dC,vB e9.1.has],vB e9.2] [kE 0 2,kb 1 0,⟨some (vW [vG [vI e9.1.dC,vB e9.1.has],vB e9.2]),rB 271 [vG [vI p.dC,vB p.has],vU x_.an] (vW [vG [vI e9.1.dC,vB e9.1.has],vB e9.2]),λ_ _=>(by rw[qH];exact(a8I p x_.an).b)⟩] ?_ (he:=by subst qH;kernel_rfl);refine eA [] [0,1,2] [2,6,22,23] [vP b1,vB y9.2,vG [vI e9.1.dC,vB e9.1.has],vB e9.2] (oA [vI 0,vF]) λK1=>?_;refine uL [0] [1,2,3] [22] (oS [vI e9.1.dC,vB e9.1.has] rfl rfl) ?_;refine uB 10 [23] [8] [vB e9.2] [] (aC ?_);obtain⟨lJ,xa,kD,DR,hm⟩:=sB hm;refine uR [6,7,8] [41] [vB (cond lJ true kD)] [bO ((!y9.2)=true∧(!e9.2)=false∧True) 2 8,bO (gF lJ) 2 8,fv (gF lJ) λ_ hS hg=>a8M (ba:=dP) (il:=K1) (wZ:=b1) (ub:=dP) m _ rM _ _ _ _ _ _ _ _ _ _ _ _ _ (bF (hg.1) DR) _ (aK (iB (iB (aK bc (hS.im 3 rfl)) (hS.bk 2 rfl)) (hS.bk 0 rfl)) (hS.im 3 rfl))] ?_ (he:=by subst xa;kernel_rfl);refine aB [1,2,3] ?_;refine uC hm ?_ ?_;intro hm;cases hm;have hm:=U2;cases hm;exact uZ [] [];intro hm;refine aq ?_;cases hm;exact λ_ _ lA hS=>⟨_,rfl,aw.aR (ks:=[2]) lA (by kernel_rfl),hS⟩;intro hm;refine uJ [3,6,16] [kb 1 8] hm ?_ ?_;intro hm;cases hm;have hm:=U2;cases hm;exact uZ [] [];intro hm;refine aq ?_;cases hm;exact λ_ _ uc hS=>⟨_,rfl,aw.aR (ks:=[2]) uc (by kernel_rfl),hS⟩;rintro _ _ ⟨U1,hz,H,hS⟩;subst hz;replace hm:=ee U2;replace hS:=hS.aV [1,2] rfl;refine aN H hS (uA 9 (vB (x_.an==3)) [kb 0 0] ?_);refine uA 10 (vB (cond (x_.an==9) true (x_.an==10))) [kb 0 0,bO (gF (x_.an==9)) 0 0] (az ?_);obtain⟨oT,DN,mJ,zE,hm⟩:=eL hm;refine uR [9] [86] [vB mJ] [bO (gT (!(x_.an==3))) 0 2,bO ((x_.Op !=0)=false∧(!(x_.an==3))=true∧True) 0 3,bO (cond (x_.Op !=0) true (!(x_.Value==[]))=false∧(!(x_.an==3))=true∧True) 0 4,bO ((!(cond (x_.an==9) true (x_.an==10)))=true∧oT=false∧True) 0 7,⟨some (vG [vI x_.mB.A,vI x_.mB.B]),λwz=>x_.Of=false∧(!(cond (x_.an==9) true (x_.an==10)))=true∧oT=false∧True→V.bV b1 5 [vI x_.mB.A,vI x_.mB.B] 0 wz,λ_ hS=>λhg=>(hS.bk 0 rfl).eK rfl⟩] ?_ (he:=by subst DN zE;kernel_rfl);refine uC hm ?_ ?_;intro hm;refine uR [2,10,86] [4] [vF] [] (aB [] (aQ ?_));cases hm;exact bi [] bp;intro hm;refine aq (az (uR [86] [88] [vU x_.an] [kb 0 0] (aL ?_)));obtain⟨kG,hz,hm⟩:=ah hm;refine uK [] [89] [vB kG] [eB b1 (e2 x_ (gL [dP])),eI bH x_.ae dP] ?_ ?_;replace hm:=hz;refine uA 89 (vB (x_.an==1)) [] ?_;refine uC hm ?_ ?_;intro hm;refine aq ?_;cases hm;exact te;intro hm;refine uW [] [2,10,88,89] [vP b1,vB (cond (x_.an==9) true (x_.an==10)),vU x_.an,vB (x_.an==2)] [] ?_;cases hm;exact te;refine qB (λhc=>?c70) (λhc=>?_)
 case c70=>
  replace hm:=bT hc hm;refine uR [2,10,88,89] [4] [vB (BA x_.bm)] [kb 0 1,kc (a0Z x_.bm)] (aB [] (aQ ?_));cases hm;exact bi [] bp
 replace hm:=bF hc hm;refine uJ [88,89] [] hm ?_ ?_;intro hm;obtain⟨K0,a8O,yh,U3,hm⟩:=iL hm;obtain⟨sM,E0,hm⟩:=bl hm;refine uR [2,10] [4] [vB sM] [kb 0 1,kc (a10 m _ _ a8O),bO (gT K0) 0 2,bO (gT (cond K0 (decide (x_.Op≤6)) false)) 0 3,fF (gT (cond K0 (decide (x_.Op≤6)) false)) λhg=>a0Y x_.Value 400,bO (gT yh) 0 2,bO ((x_.Op !=0)=false∧yh=true∧True) 0 3,bO ((x_.Value==[])=true∧(x_.Op !=0)=false∧yh=true∧True) 0 4] ?_ (he:=by subst U3 E0;kernel_rfl);refine aB [] (aQ ?_);cases hm;exact bi [] bp;intro hm;refine aq ?_;obtain⟨BD,U4,u7,JS,hm⟩:=eL hm;refine uR [2,10] [4] [vB u7] [kb 0 1,bO (gT (x_.bm==[])) 0 0,bO (gT BD) 0 0,⟨some (vG [vI x_.mB.A,vI x_.mB.B]),λwz=>(!(cond (x_.an==9) true (x_.an==10)))=false∧cond BD (decide (x_.an≤14)) false=true∧True→V.bV b1 5 [vI x_.mB.A,vI x_.mB.B] 0 wz,λ_ hS=>λhg=>(hS.bk 0 rfl).eK rfl⟩,fF ((!(cond (x_.an==9) true (x_.an==10)))=false∧cond BD (decide (x_.an≤14)) false=true∧True) λhg=>a8J x_.mB] ?_ (he:=by subst U4 JS;kernel_rfl);refine aB [] (aQ ?_);cases hm;exact bi [] bp
def Gk(m:Nat)(fq:bM→iZ→Bool→Option Bool)(c_:fZ)(p:iZ):Nat→Int→Option (Sum Bool Unit)
 |0,_=>none
 |kk+1,dt=>cond (decide (dt<ln c_.bC)) (aH (0≤dt∧dt<ln c_.bC)<|Option.bind (JZ m fq (gi c_.bC dt) p) λj8=>cond (!j8) (some (.inl false)) (Gk m fq c_ p kk (J (dt+1)))) (some (.inr ()))
def K3(m:Nat)(fq:bM→iZ→Bool→Option Bool)(c_:fZ)(p:iZ):Option Bool:=lt (cond (!(c_.Tag==[])) (!(c_.Tag==[42])) false) λx9=>Option.bind (cond x9 (Gi m c_.Tag) (some default)) λcK=>lt (cond (cond x9 (!cK) false) true (decide (64<ln c_.bC))) λfN=>cond fN (some false) (Option.bind (Gk m fq c_ p m 0) λ(cw:Sum Bool Unit)=>dk cw λE3=>lt (cond (!(c_.Tag==[])) true (decide (0<ln c_.bC))) λmH=>some mH)
theorem a8P{aF:Gh}(m)(fq)(rM:zB fq)(c_)(p)(r)(hm:K3 m fq c_ p=some r)(w)(hL:Rd [eI rh c_.bC aF] w):Rb 186 [vG [vS c_.Tag,vL aF c_.bC],vG [vI p.dC,vB p.has]] (vB r) w:=by
 rw[K3]at hm;refine cu hL (call186 _) func186 ntmps186 λM X w=>(aM ?_);refine uM [] [0] [0] (oB [vS c_.Tag,vL aF c_.bC] rfl) λb1=>?_;refine uM [] [0,1] [1] (oB [vI p.dC,vB p.has] rfl) λb4=>?_;refine uP 3 [] (aC (az ?_));obtain⟨x9,wM,cK,nF,hm⟩:=sB hm;obtain⟨fN,oO,hm⟩:=bl hm;refine uI [kb 1 0,bO (gT (!(c_.Tag==[]))) 1 0,bO (gT x9) 1 0,fF (gT x9) λhg=>a10 m _ _ (bT (hg.1) nF),bO (gF (cond x9 (!cK) false)) 1 1] hm ?_ ?_ (he:=by subst wM oO;kernel_rfl);intro hm;refine uR [2,3] [4] [vF] [] (aB [] (aQ ?_));cases hm;exact bi [] bp;intro hm;refine aq ?_;obtain⟨cw,hz,K4⟩:=ah hm;intro _ _ zF hS;refine di (λa' w'=>∃E3:Unit,cw=Sum.inr E3∧Fr 48 [(2,[],vP b1)] a'∧SH M X w [eB b4 [vI p.dC,vB p.has],eB b1 [vS c_.Tag,vL aF c_.bC],eI rh c_.bC aF] w') ?_ ?_;replace hm:=hz;refine aN zF hS (uR [] [28,29,30] [vL aF c_.bC,vI (ln c_.bC),vI 0] [kb 1 1] (aL ?_));refine eQ [] [30] (λdt=>[vI dt]) (λ_=>[eB b4 [vI p.dC,vB p.has],eB b1 [vS c_.Tag,vL aF c_.bC],eI rh c_.bC aF]) hm (λkk dt hm=>?_);rw[Gk]at hm;refine uA 31 (vB (decide (dt<ln c_.bC))) [] (az ?_);refine uC hm ?_ ?_;intro hm;refine aq (az (aL (aM ?_)));obtain⟨jn,hm⟩:=bW hm;refine uB 2 [31] [2,3,28,29,30,33] [vP b1,vP b4,vL aF c_.bC,vI (ln c_.bC),vI dt,.agg ⟨e2 (gi c_.bC dt) (aF.s dt.toNat)⟩] [ki 2 jn,⟨some (.agg ⟨e2 (gi c_.bC dt) (aF.s dt.toNat)⟩),λwz=>V.bV (ab aF.a) (ao aF.a+dt.toNat*9) (e2 (gi c_.bC dt) (aF.s dt.toNat)) 0 wz,λ_ hS=>(hS.im 2 rfl).ef jn 0 rfl⟩] ?_;refine uM [] [0,1,2] [] (oA [vU 0,vN,vU 0,vN,vF,vI 0,vI 0,vF,vO]) λb25=>?_;refine uL [0] [1,2,3] [33] (oS (e2 (gi c_.bC dt) (aF.s dt.toNat)) rfl rfl) (aC ?_);obtain⟨j8,DC,hm⟩:=ah hm;refine uR [6] [37] [vB (!j8)] [kE 0 9,kE 1 2,kr λ_ hS=>a8N (dP:=aF.s dt.toNat 0) m _ rM _ _ _ DC _ (aK bc (Ng ((hS.im 3 rfl).el jn)))] (aB [1,2,3] ?_);refine uC hm ?_ ?_;intro hm;cases hm;have hm:=K4;cases hm;exact uZ [] [];intro hm;exact aq (gw [] hm);intro hm;refine bn ?_;cases hm;exact λ_ _ pw hS=>⟨_,rfl,aw.aR (ks:=[2]) pw (by kernel_rfl),hS⟩;rintro _ _ ⟨E3,hz,H,hS⟩;subst hz;replace hm:=ee K4;replace hS:=hS.aV [1,2] rfl;obtain⟨mH,wI,hm⟩:=bl hm;refine aN H hS (uR [2] [4] [vB mH] [kb 0 0,bO (gF (!(c_.Tag==[]))) 0 1] ?_ (he:=by subst wI;kernel_rfl));refine aB [] (aQ ?_);cases hm;exact bi [] bp
def O6(m:Nat)(fq:bM→iZ→Bool→Option Bool)(x_:fZ)(u9:Int)(ua:Bool):Option Bool:=Option.bind (K3 m fq x_ (iZ.mk u9 ua)) λy6=>some (!y6)
theorem a8Q{dP:Gh}{bw:Nat}(m)(fq)(rM:zB fq)(x_)(u9)(ua)(r)(hm:O6 m fq x_ u9 ua=some r)(w)(hL:Rd [eI rh x_.bC dP,a8.ro bw [vI u9,vB ua]] w):Rb 185 [vG [vS x_.Tag,vL dP x_.bC],vP bw] (vB r) w:=by
 rw[O6]at hm;refine cu hL (call185 _) func185 ntmps185 λM X w=>(aM ?_);refine uM [] [0,1] [0] (oB [vS x_.Tag,vL dP x_.bC] rfl) λb1=>?_;refine uP 2 [] (aC ?_);obtain⟨y6,gK,hm⟩:=ah hm;refine uR [1,2] [3] [vB (!y6)] [kE 0 2,⟨some (vG [vI u9,vB ua]),rN bw 0 [vI u9,vB ua],λ_ hS=>(hS.ro 2 rfl).eK rfl⟩,kr λ_ hS=>a8P (aF:=dP) m _ rM _ _ _ gK _ (aK bc (hS.im 1 rfl))] (aB [] (aQ ?_));cases hm;exact bi [] bp
def K5(m:Nat)(fq:bM→iZ→Bool→Option Bool)(s:List fZ)(jO:Int)(jP:Bool):Nat→Int→Option (Sum Int Unit)
 |0,_=>none
 |kk+1,v6=>cond (decide (v6<ln s)) (aH (0≤v6∧v6<ln s)<|Option.bind (O6 m fq (gi s v6) jO jP) λdD=>cond dD (some (.inl v6)) (K5 m fq s jO jP kk (J (v6+1)))) (some (.inr ()))
def O7(m:Nat)(fq:bM→iZ→Bool→Option Bool)(s:List fZ)(jO:Int)(jP:Bool):Option Int:=Option.bind (K5 m fq s jO jP m 0) λ(z3:Sum Int Unit)=>dk z3 λdv=>some (-1)
theorem a8R{ba:Gh}{il:Nat}(m)(fq)(rM:zB fq)(s)(jO)(jP)(r)(hm:O7 m fq s jO jP=some r)(w)(hL:Rd [eI k6 s ba,a8.ro il [vI jO,vB jP]] w):Rb 236 [vL ba s,.func (.func 185) ⟨[]⟩ ⟨[vP il]⟩] (vI r) w:=by
 rw[O7]at hm;refine cu hL (call236 _) func236 ntmps236 λM X w=>?_;refine uO [] ?_;obtain⟨z3,hz,eW⟩:=ah hm;intro _ _ H2 hS;refine di (λa' w'=>∃dv:Unit,z3=Sum.inr dv∧Fr 19 [] a'∧SH M X w [eI k6 s ba,a8.ro il [vI jO,vB jP]] w') ?_ ?_;replace hm:=hz;refine aN H2 hS (uR [] [7,8] [vI (ln s),vI 0] [] (aL ?_));refine eQ [] [8] (λv6=>[vI v6]) (λ_=>[eI k6 s ba,a8.ro il [vI jO,vB jP]]) hm (λkk v6 hm=>?_);rw[K5]at hm;refine uA 9 (vB (decide (v6<ln s))) [] (az ?_);refine uC hm ?_ ?_;intro hm;refine aq (az (aL (uR [9] [5] [vI v6] [] ?_)));obtain⟨dq,dD,jc,hm⟩:=kv hm;refine uI [ki 0 dq,⟨some (vG [vS (gi s v6).Tag,.slice (ba.s v6.toNat 0).a (gi s v6).bC.length (ba.s v6.toNat 0).c]),λwz=>V.bV (ab ba.a) (ao ba.a+v6.toNat*2) [vS (gi s v6).Tag,.slice (ba.s v6.toNat 0).a (gi s v6).bC.length (ba.s v6.toNat 0).c] 0 wz,λ_ hS=>(hS.im 0 rfl).ef dq 0 rfl⟩,kr λ_ hS=>a8Q (dP:=ba.s v6.toNat 0) (bw:=il) m _ rM _ _ _ _ jc _ (aK (iB bc (hS.ro 1 rfl)) (sC ((hS.im 0 rfl).el dq)))] hm ?_ ?_;intro hm;cases hm;have hm:=eW;cases hm;exact uZ [] [];intro hm;exact aq (gw [] hm);intro hm;refine bn ?_;cases hm;exact λ_ _ H8 hS=>⟨_,rfl,aw.aR (ks:=[]) H8 (by kernel_rfl),hS⟩;rintro _ _ ⟨dv,hz,H,hS⟩;subst hz;replace hm:=ee eW;replace hS:SH M _ w [] _:=hS.aV [] rfl;refine aN H hS ?_;cases hm;exact uZ [] []
def O8(m:Nat)(fq:bM→iZ→Bool→Option Bool)(s:List fZ)(jO:Int)(jP:Bool):Option Bool:=Option.bind (O7 m fq s jO jP) λy3=>some (decide (0≤y3))
theorem a8S{ba:Gh}{il:Nat}(m)(fq)(rM:zB fq)(s)(jO)(jP)(r)(hm:O8 m fq s jO jP=some r)(w)(hL:Rd [eI k6 s ba,a8.ro il [vI jO,vB jP]] w):Rb 184 [vL ba s,.func (.func 185) ⟨[]⟩ ⟨[vP il]⟩] (vB r) w:=by
 rw[O8]at hm;refine cu hL (call184 _) func184 ntmps184 λM X w=>?_;refine uO [] ?_;obtain⟨y3,cg,hm⟩:=ah hm;refine uR [0,1] [4] [vB (decide (0≤y3))] [kr λ_ hS=>a8R (ba:=ba) (il:=il) m _ rM _ _ _ _ cg _ (aK (iB bc (hS.ro 1 rfl)) (hS.im 0 rfl))] (aB [] (aQ ?_));cases hm;exact bi [] bp
def Gl(m:Nat)(c_:bM):Nat→Int→Option (Sum Bool Unit)
 |0,_=>none
 |kk+1,dt=>cond (decide (dt<ln c_.iM)) (aH (0≤dt∧dt<ln c_.iM)<|lt (cond (decide (gi c_.iM dt<1)) true (decide (4<gi c_.iM dt))) λlJ=>cond lJ (some (.inl false)) (Gl m c_ kk (J (dt+1)))) (some (.inr ()))
def Gn(m:Nat):Nat→bM→iZ→Bool→Option Bool
 |0,_,_,_=>none
 |k+1,c_,p,ik=>lt (cond (!(ik==(c_.Jh !=0))) true (decide (4<c_.Jh))) λx9=>lt (cond x9 true (J (ln c_.iM+1) !=ln c_.bt)) λoY=>lt (cond oY true (decide (64<ln c_.bt))) λfN=>cond fN (some false) (Option.bind (Gl m c_ m 0) λ(cw:Sum Bool Unit)=>dk cw λE3=>Option.bind (O8 m (Gn m k) c_.bt p.dC p.has) λjJ=>some (!jJ))
theorem a8T(m:Nat):∀(k:Nat),zB (Gn m k):=by
 intro k
 induction k with
 |zero=>intro aF aj M c_ p ik r hm;exact cN hm
 |succ k ih=>
  intro aF aj M c_ p ik r hm w hS;rw[Gn]at hm;have aJ:SH M (ay [eI k6 c_.bt aF,eI (tI .u8) c_.iM aj]) w [eI k6 c_.bt aF,eI (tI .u8) c_.iM aj] w:=hS;generalize hX:ay [eI k6 c_.bt aF,eI (tI .u8) c_.iM aj]=X at aJ⊢;clear hS hX;have hS:=aJ;clear aJ;refine eg func133 rfl ntmps133 rfl λ_ H=>?_;refine aN H hS (aM (eA [] [0,1] [1,2] [vG [vI p.dC,vB p.has],vB ik] (oB (e0 c_ (gL [aF,aj])) rfl) λb1=>?_));refine uM [] [0,1,2] [1] (oB [vI p.dC,vB p.has] rfl) λb4=>?_;refine uP 3 [] (aC (az ?_));obtain⟨x9,wM,oY,xb,hm⟩:=eL hm;obtain⟨fN,oO,hm⟩:=bl hm;refine uJ [2] [kb 1 0,bO (gF (!(ik==(c_.Jh !=0)))) 1 0,bO (gF x9) 1 2,bO (gF x9) 1 1,bO (gF oY) 1 1] hm ?_ ?_ (he:=by subst wM xb oO;kernel_rfl);intro hm;refine uR [3,4] [6] [vF] [] (aB [] (aQ ?_));cases hm;exact bi [] bp;intro hm;refine aq ?_;obtain⟨cw,hz,K4⟩:=ah hm;refine uS (z:=cw) [] [] (λE3=>[]) (λE3=>[eB b4 [vI p.dC,vB p.has],eB b1 (e0 c_ (gL [aF,aj])),eI k6 c_.bt aF,eI (tI .u8) c_.iM aj]) ?_ ?_;replace hm:=hz;refine uR [] [36,37,38] [vL aj c_.iM,vI (ln c_.iM),vI 0] [kb 1 2] (aL ?_);refine eQ [] [38] (λdt=>[vI dt]) (λ_=>[eB b4 [vI p.dC,vB p.has],eB b1 (e0 c_ (gL [aF,aj])),eI k6 c_.bt aF,eI (tI .u8) c_.iM aj]) hm (λkk dt hm=>?_);rw[Gl]at hm;refine uA 39 (vB (decide (dt<ln c_.iM))) [] (az ?_);refine uC hm ?_ ?_;intro hm;refine aq (az (aL ?_));obtain⟨jn,hm⟩:=bW hm;refine uR [39] [3,4,8,36,37,38] [vP b1,vP b4,vU (gi c_.iM dt),vL aj c_.iM,vI (ln c_.iM),vI dt] [ki 3 jn,kj 3 0 jn] ?_;obtain⟨lJ,xa,hm⟩:=bl hm;refine uJ [8] [] hm ?_ ?_ (he:=by subst xa;kernel_rfl);intro hm;cases hm;have hm:=K4;cases hm;exact uZ [] [];intro hm;exact aq (gw [] hm);intro hm;refine bn ?_;cases hm;exact ts;rintro E3 hz;subst hz;replace hm:=ee K4;obtain⟨jJ,yc,hm⟩:=ah hm;refine uR [3,4] [6] [vB (!jJ)] [kb 1 1,kr λ_ hS=>a8S (ba:=aF) (il:=b4) m _ ih _ _ _ _ yc _ (aK (iB bc (hS.bk 0 rfl)) (hS.im 2 rfl))] (aB [] (aQ ?_));cases hm;exact bi [] bp
def a13(m:Nat)(c_:bM)(p:iZ)(ik:Bool):Option Bool:=Gn m m c_ p ik
theorem a8U{aF aj:Gh}(m)(c_)(p)(ik)(r)(hm:a13 m c_ p ik=some r)(w)(hL:Rd [eI k6 c_.bt aF,eI (tI .u8) c_.iM aj] w):Rb 133 [.agg ⟨e0 c_ (gL [aF,aj])⟩,vG [vI p.dC,vB p.has],vB ik] (vB r) w:=iC hL (call133 _) (λw' h=>a8T m m aF aj F0 c_ p ik r hm w' h)

def O9(m:Nat)(c_:bM):Option Bool:=Option.bind (a13 m c_ (iZ.mk 0 false) false) λy6=>some (!y6)
theorem a8V{aF aj:Gh}(m)(c_)(r)(hm:O9 m c_=some r)(w)(hL:Rd [eI k6 c_.bt aF,eI (tI .u8) c_.iM aj] w):Rb 132 [.agg ⟨e0 c_ (gL [aF,aj])⟩] (vB r) w:=by
 rw[O9]at hm;refine cu hL (call132 _) func132 ntmps132 λM X w=>(aM ?_);refine uM [] [0,1] [0] (oB (e0 c_ (gL [aF,aj])) rfl) λb1=>?_;refine uP 2 [] (aC ?_);obtain⟨y6,gK,hm⟩:=ah hm;refine uR [1] [2] [vB (!y6)] [kE 0 3,kr λ_ hS=>a8U (aF:=aF) (aj:=aj) m _ _ _ _ gK _ (aK (aK bc (hS.im 2 rfl)) (hS.im 1 rfl))] (aB [] (aQ ?_));cases hm;exact bi [] bp

def Gp(m:Nat)(s:List bM):Nat→Int→Option (Sum Int Unit)
 |0,_=>none
 |kk+1,v6=>cond (decide (v6<ln s)) (aH (0≤v6∧v6<ln s)<|Option.bind (O9 m (gi s v6)) λdD=>cond dD (some (.inl v6)) (Gp m s kk (J (v6+1)))) (some (.inr ()))
def Oa(m:Nat)(s:List bM):Option Int:=Option.bind (Gp m s m 0) λ(z3:Sum Int Unit)=>dk z3 λdv=>some (-1)
theorem a8W{ba:Gh}(m)(s)(r)(hm:Oa m s=some r)(w)(hL:Rd [eI bH s ba] w):Rb 183 [vL ba s,.func (.func 132) ⟨[]⟩ ⟨[]⟩] (vI r) w:=by
 rw[Oa]at hm;refine cu hL (call183 _) func183 ntmps183 λM X w=>?_;refine uO [] ?_;obtain⟨z3,hz,eW⟩:=ah hm;intro _ _ H2 hS;refine di (λa' w'=>∃dv:Unit,z3=Sum.inr dv∧Fr 19 [] a'∧SH M X w [eI bH s ba] w') ?_ ?_;replace hm:=hz;refine aN H2 hS (uR [] [7,8] [vI (ln s),vI 0] [] (aL ?_));refine eQ [] [8] (λv6=>[vI v6]) (λ_=>[eI bH s ba]) hm (λkk v6 hm=>?_);rw[Gp]at hm;refine uA 9 (vB (decide (v6<ln s))) [] (az ?_);refine uC hm ?_ ?_;intro hm;refine aq (az (aL (uR [9] [5] [vI v6] [] ?_)));obtain⟨dq,dD,jc,hm⟩:=kv hm;refine uI [ki 0 dq,⟨some (.agg ⟨e0 (gi s v6) (ba.s v6.toNat)⟩),λwz=>V.bV (ab ba.a) (ao ba.a+v6.toNat*3) (e0 (gi s v6) (ba.s v6.toNat)) 0 wz,λ_ hS=>(hS.im 0 rfl).ef dq 0 rfl⟩,kr λ_ hS=>a8V (aF:=ba.s v6.toNat 0) (aj:=ba.s v6.toNat 1) m _ _ jc _ (aK (aK bc (a0o ((hS.im 0 rfl).el dq))) (lq ((hS.im 0 rfl).el dq)))] hm ?_ ?_;intro hm;cases hm;have hm:=eW;cases hm;exact uZ [] [];intro hm;exact aq (gw [] hm);intro hm;refine bn ?_;cases hm;exact λ_ _ H8 hS=>⟨_,rfl,aw.aR (ks:=[]) H8 (by kernel_rfl),hS⟩;rintro _ _ ⟨dv,hz,H,hS⟩;subst hz;replace hm:=ee eW;replace hS:SH M _ w [] _:=hS.aV [] rfl;refine aN H hS ?_;cases hm;exact uZ [] []

def Oc(m:Nat)(s:List bM):Option Bool:=Option.bind (Oa m s) λy3=>some (decide (0≤y3))
theorem a8X{ba:Gh}(m)(s)(r)(hm:Oc m s=some r)(w)(hL:Rd [eI bH s ba] w):Rb 131 [vL ba s,.func (.func 132) ⟨[]⟩ ⟨[]⟩] (vB r) w:=by
 rw[Oc]at hm;refine cu hL (call131 _) func131 ntmps131 λM X w=>?_;refine uO [] ?_;obtain⟨y3,cg,hm⟩:=ah hm;refine uR [0,1] [4] [vB (decide (0≤y3))] [kr λ_ hS=>a8W (ba:=ba) m _ _ cg _ (aK bc (hS.im 0 rfl))] (aB [] (aQ ?_));cases hm;exact bi [] bp

def a8Y(eG:(List bM)→Option Int):Prop:=∀(a6:Gh)(M:Av)(l_:List bM)(r:Int),eG l_=some r→∀w,S0 M [eI bH l_ a6] w→Calls prog 134 ⟨[vL a6 l_]⟩ w (λe w'=>∃v,e=.returned v∧v=vI r∧SH M (ay [eI bH l_ a6]) w [] w')
def BE(m:Nat)(l_:List bM)(v9:Int)(v24:Int)(BF:(List bM)→Option Int):Nat→Int→Int→Option Int
 |0,_,_=>none
 |kk+1,cX,dc=>lt (decide (dc<ln (gi (gi l_ v9).bt v24).bC)) λmH=>cond mH (aH (0≤dc∧dc<ln (gi (gi l_ v9).bt v24).bC)<|lt (gi (gi (gi l_ v9).bt v24).bC dc).an λrO=>lt (gi (gi (gi l_ v9).bt v24).bC dc).bm λpz=>lt (gi (gi (gi l_ v9).bt v24).bC dc).Op λBu=>lt (gi (gi (gi l_ v9).bt v24).bC dc).Value λBv=>lt (gi (gi (gi l_ v9).bt v24).bC dc).Bg λBw=>lt (gi (gi (gi l_ v9).bt v24).bC dc).mB.A λrI=>lt (gi (gi (gi l_ v9).bt v24).bC dc).mB.B λwY=>lt (gi (gi (gi l_ v9).bt v24).bC dc).Of λiT=>Option.bind (BF (gi (gi (gi l_ v9).bt v24).bC dc).ae) λU5=>BE m l_ v9 v24 BF kk (J (cX+U5)) (J (dc+1))) (some cX)
def BG(m:Nat)(l_:List bM)(v9:Int)(BF:(List bM)→Option Int):Nat→Int→Int→Option Int
 |0,_,_=>none
 |kk+1,v23,v24=>cond (decide (v24<ln (gi l_ v9).bt)) (Option.bind (aH (0≤v24∧v24<ln (gi l_ v9).bt)<|BE m l_ v9 v24 BF m v23 0) λ(fB:Int)=>BG m l_ v9 BF kk fB (J (v24+1))) (some v23)
def BH(m:Nat)(l_:List bM)(BF:(List bM)→Option Int):Nat→Int→Int→Option Int
 |0,_,_=>none
 |kk+1,v8,v9=>cond (decide (v9<ln l_)) (Option.bind (aH (0≤v9∧v9<ln l_)<|BG m l_ v9 BF m v8 0) λ(z12:Int)=>BH m l_ BF kk z12 (J (v9+1))) (some v8)
def rP(m:Nat):Nat→List bM→Option Int
 |0,_=>none
 |k+1,l_=>Option.bind (BH m l_ (rP m k) m (ln l_) 0) λ(z5:Int)=>some z5
theorem a8Z(m:Nat):∀(k:Nat),a8Y (rP m k):=by
 intro k
 induction k with
 |zero=>intro a6 M l_ r hm;exact cN hm
 |succ k ih=>
  intro a6 M l_ r hm w hS;rw[rP]at hm;have aJ:SH M (ay [eI bH l_ a6]) w [eI bH l_ a6] w:=hS;generalize hX:ay [eI bH l_ a6]=X at aJ⊢;clear hS hX;have hS:=aJ;clear aJ;refine eg func134 rfl ntmps134 rfl λ_ H=>?_;refine aN H hS (dp [0] [vL a6 l_] [] ?_);refine uA 3 (vI (ln l_)) [] ?_;obtain⟨z5,hz,hm⟩:=ah hm;refine uK [0] [3] [vI z5] [eI bH l_ a6] ?_ ?_;replace hm:=hz;refine uR [0] [12,13,14] [vL a6 l_,vI (ln l_),vI 0] [] (aL ?_);refine iX [] [3,14] (λv8 v9=>[vI v8,vI v9]) (λ_ _=>[eI bH l_ a6]) hm (λkk v8 v9 hm=>?_);rw[BH]at hm;refine uA 15 (vB (decide (v9<ln l_))) [] (az ?_);refine uC hm ?_ ?_;intro hm;refine aq ?_;obtain⟨z12,hz,hm⟩:=ah hm;refine uK [15] [3] [vI z12] [eI bH l_ a6] ?_ ?_;replace hm:=hz;refine aL (aM ?_);obtain⟨cH,hm⟩:=bW hm;refine uB 2 [15] [3,12,13,14,17] [vI v8,vL a6 l_,vI (ln l_),vI v9,.agg ⟨e0 (gi l_ v9) (a6.s v9.toNat)⟩] [ki 0 cH,⟨some (.agg ⟨e0 (gi l_ v9) (a6.s v9.toNat)⟩),λwz=>V.bV (ab a6.a) (ao a6.a+v9.toNat*3) (e0 (gi l_ v9) (a6.s v9.toNat)) 0 wz,λ_ hS=>(hS.im 0 rfl).ef cH 0 rfl⟩] ?_;refine uM [] [0] [] (oA [vU 0,vO,vO]) λrL=>?_;refine uL [0] [1] [17] (oS (e0 (gi l_ v9) (a6.s v9.toNat)) rfl rfl) (aC ?_);refine uR [5] [19,20,21] [.slice (a6.s v9.toNat 0).a (gi l_ v9).bt.length (a6.s v9.toNat 0).c,vI (ln (gi l_ v9).bt),vI 0] [kb 0 1] (aB [1] (aL ?_));refine iX [] [3,21] (λv23 v24=>[vI v23,vI v24]) (λ_ _=>[eI bH l_ a6]) hm (λkk v23 v24 hm=>?_);rw[BG]at hm;refine uA 22 (vB (decide (v24<ln (gi l_ v9).bt))) [] (az ?_);refine uC hm ?_ ?_;intro hm;refine aq ?_;obtain⟨fB,hz,hm⟩:=ah hm;refine uK [22] [3] [vI fB] [eI bH l_ a6] ?_ ?_;replace hm:=hz;refine aL (aM ?_);obtain⟨oc,hm⟩:=bW hm;refine uB 2 [22] [3,12,13,14,19,20,21,24] [vI v23,vL a6 l_,vI (ln l_),vI v9,.slice (a6.s v9.toNat 0).a (gi l_ v9).bt.length (a6.s v9.toNat 0).c,vI (ln (gi l_ v9).bt),vI v24,vG [vS (gi (gi l_ v9).bt v24).Tag,.slice ((a6.s v9.toNat 0).s v24.toNat 0).a (gi (gi l_ v9).bt v24).bC.length ((a6.s v9.toNat 0).s v24.toNat 0).c]] [⟨none,λ_=>dW (a6.s v9.toNat 0).a∧0≤v24∧v24<ln (gi l_ v9).bt,λ_ hS=>(lq ((hS.im 0 rfl).el cH)).j3 oc⟩,⟨some (vG [vS (gi (gi l_ v9).bt v24).Tag,.slice ((a6.s v9.toNat 0).s v24.toNat 0).a (gi (gi l_ v9).bt v24).bC.length ((a6.s v9.toNat 0).s v24.toNat 0).c]),λwz=>V.bV (ab (a6.s v9.toNat 0).a) (ao (a6.s v9.toNat 0).a+v24.toNat*2) [vS (gi (gi l_ v9).bt v24).Tag,.slice ((a6.s v9.toNat 0).s v24.toNat 0).a (gi (gi l_ v9).bt v24).bC.length ((a6.s v9.toNat 0).s v24.toNat 0).c] 0 wz,λ_ hS=>(lq ((hS.im 0 rfl).el cH)).ef oc 0 rfl⟩] ?_;refine uM [] [0] [] (oA [vN,vO]) λJE=>?_;refine uL [0] [1] [24] (oS [vS (gi (gi l_ v9).bt v24).Tag,.slice ((a6.s v9.toNat 0).s v24.toNat 0).a (gi (gi l_ v9).bt v24).bC.length ((a6.s v9.toNat 0).s v24.toNat 0).c] rfl rfl) (aC ?_);refine uR [7] [26,27,28] [.slice ((a6.s v9.toNat 0).s v24.toNat 0).a (gi (gi l_ v9).bt v24).bC.length ((a6.s v9.toNat 0).s v24.toNat 0).c,vI (ln (gi (gi l_ v9).bt v24).bC),vI 0] [kb 0 1] (aB [1] (aL ?_));refine iX [] [3,28] (λcX dc=>[vI cX,vI dc]) (λ_ _=>[eI bH l_ a6]) hm (λkk cX dc hm=>?_);rw[BE]at hm;obtain⟨mH,wI,hm⟩:=bl hm;refine uA 29 (vB mH) [] ?_ (he:=by subst wI;kernel_rfl);refine az (uC hm ?_ ?_);intro hm;refine aq (az (aL (aM ?_)));obtain⟨xc,rO,E4,hm⟩:=cv hm;obtain⟨pz,TN,Bu,TO,hm⟩:=eL hm;obtain⟨Bv,TP,Bw,TQ,hm⟩:=eL hm;obtain⟨rI,JR,wY,TR,hm⟩:=eL hm;obtain⟨iT,DZ,hm⟩:=bl hm;refine uB 2 [29] [31] [vG [vU rO,vS pz,vU Bu,vS Bv,vB Bw,vI rI,vI wY,vB iT,.slice (((a6.s v9.toNat 0).s v24.toNat 0).s dc.toNat 0).a (gi (gi (gi l_ v9).bt v24).bC dc).ae.length (((a6.s v9.toNat 0).s v24.toNat 0).s dc.toNat 0).c]] [⟨none,λ_=>dW ((a6.s v9.toNat 0).s v24.toNat 0).a∧0≤dc∧dc<ln (gi (gi l_ v9).bt v24).bC,λ_ hS=>(sC ((lq ((hS.im 0 rfl).el cH)).el oc)).j3 xc⟩,⟨some (.agg ⟨e2 (gi (gi (gi l_ v9).bt v24).bC dc) (((a6.s v9.toNat 0).s v24.toNat 0).s dc.toNat)⟩),λwz=>V.bV (ab ((a6.s v9.toNat 0).s v24.toNat 0).a) (ao ((a6.s v9.toNat 0).s v24.toNat 0).a+dc.toNat*9) (e2 (gi (gi (gi l_ v9).bt v24).bC dc) (((a6.s v9.toNat 0).s v24.toNat 0).s dc.toNat)) 0 wz,λ_ hS=>(sC ((lq ((hS.im 0 rfl).el cH)).el oc)).ef xc 0 rfl⟩] ?_ (he:=by subst E4 TN TO TP TQ JR TR DZ;kernel_rfl);refine eA [] [0] [3,12,13,14,19,20,21,26,27,28,31] [vI cX,vL a6 l_,vI (ln l_),vI v9,.slice (a6.s v9.toNat 0).a (gi l_ v9).bt.length (a6.s v9.toNat 0).c,vI (ln (gi l_ v9).bt),vI v24,.slice ((a6.s v9.toNat 0).s v24.toNat 0).a (gi (gi l_ v9).bt v24).bC.length ((a6.s v9.toNat 0).s v24.toNat 0).c,vI (ln (gi (gi l_ v9).bt v24).bC),vI dc,vG [vU rO,vS pz,vU Bu,vS Bv,vB Bw,vI rI,vI wY,vB iT,.slice (((a6.s v9.toNat 0).s v24.toNat 0).s dc.toNat 0).a (gi (gi (gi l_ v9).bt v24).bC dc).ae.length (((a6.s v9.toNat 0).s v24.toNat 0).s dc.toNat 0).c]] (oA [vU 0,vN,vU 0,vN,vF,vI 0,vI 0,vF,vO]) λb54=>?_;refine uL [0] [1] [31] (oS [vU rO,vS pz,vU Bu,vS Bv,vB Bw,vI rI,vI wY,vB iT,.slice (((a6.s v9.toNat 0).s v24.toNat 0).s dc.toNat 0).a (gi (gi (gi l_ v9).bt v24).bC dc).ae.length (((a6.s v9.toNat 0).s v24.toNat 0).s dc.toNat 0).c] rfl rfl) (aC ?_);obtain⟨U5,a90,hm⟩:=ah hm;refine uW [9] [3] [vI (J (cX+U5))] [kb 0 8,kr λ_ hS=>iC (aK bc (Ng ((sC ((lq ((hS.im 1 rfl).el cH)).el oc)).el xc))) (call134 _) (λw' h'=>ih (((a6.s v9.toNat 0).s v24.toNat 0).s dc.toNat 0) F0 _ _ a90 w' h')] (aB [1] ?_);exact jz [] hm;intro hm;refine bn ?_;cases hm;exact te;exact jz [] hm;intro hm;refine bn ?_;cases hm;exact te;exact jz [] hm;intro hm;refine bn ?_;cases hm;exact te;refine aB [] ?_;cases hm;exact uZ [] []
def a14(m:Nat)(l_:List bM):Option Int:=rP m m l_
theorem a92{a6:Gh}(m)(l_)(r)(hm:a14 m l_=some r)(w)(hL:Rd [eI bH l_ a6] w):Rb 134 [vL a6 l_] (vI r) w:=iC hL (call134 _) (λw' h=>a8Z m m a6 F0 l_ r hm w' h)

def K6(m:Nat)(l_:List bM):Option Int:=Option.bind (cond (ln l_==0) (some default) (Oc m l_)) λy3=>cond (cond (ln l_==0) true y3) (some 8) (Option.bind (a14 m l_) λy8=>cond (decide (64<y8)) (some 4) (some 0))
theorem a94{a6:Gh}(m)(l_)(r)(hm:K6 m l_=some r)(w)(hL:Rd [eI bH l_ a6] w):Rb 88 [vL a6 l_] (vI r) w:=by
 rw[K6]at hm;refine cu hL (call88 _) func88 ntmps88 λM X w=>?_;refine uO [] (az ?_);obtain⟨y3,cg,hm⟩:=ah hm;refine uI [fv (gF (ln l_==0)) λ_ hS hg=>a8X (ba:=a6) m _ _ (bF (hg.1) cg) _ (aK bc (hS.im 0 rfl))] hm ?_ ?_;intro hm;refine uR [0] [2] [vI 8] [] (aB [] (aQ ?_));cases hm;exact bi [] bp;intro hm;refine aq (az ?_);obtain⟨y8,kw,hm⟩:=ah hm;refine uR [0] [12] [vB (decide (64<y8))] [kr λ_ hS=>a92 (a6:=a6) m _ _ kw _ (aK bc (hS.im 0 rfl))] (aB [] ?_);refine uC hm ?_ ?_;intro hm;cases hm;exact uZ [] [];intro hm;refine aq ?_;cases hm;exact uZ [] []

def vo(c_:bu):Bool:=lt (cond (c_.an==0) (c_.bm==[]) false) λjg=>lt (cond (cond jg (c_.cU==0) false) (ln c_.ae==0) false) λfU=>lt (cond (cond fU (c_.aS.bm==[]) false) (ln c_.aS.Value==0) false) λpV=>cond pV (!c_.aS.lY) false
theorem U6{aF aj:Gh}(c_:bu)(w)(hL:Rd [eI aa c_.aS.Value aF,eI bq c_.ae aj] w):Rb 89 [.agg ⟨e4 c_ (gL [aF,aj])⟩] (vB (vo c_)) w:=by
 generalize hm:vo c_=r;rw[vo]at hm;refine cu hL (call89 _) func89 ntmps89 λM X w=>(aM ?_);refine uM [] [0,1] [0] (oB (e4 c_ (gL [aF,aj])) rfl) λb1=>?_;refine uP 2 [] (aC (aM ?_));refine uB 2 [] [5] [.agg ⟨e8 c_.aS (gL [aF])⟩] [⟨some (.agg ⟨e8 c_.aS (gL [aF])⟩),λwz=>V.bV b1 3 (e8 c_.aS (gL [aF])) 0 wz,λ_ hS=>(hS.bk 0 rfl).eK rfl⟩] ?_;refine uM [] [0,1,2] [] (oA [vN,vO,vF]) λb8=>?_;refine uL [0] [1,2,3] [5] (oS (e8 c_.aS (gL [aF])) rfl rfl) (aC ?_);obtain⟨jg,xd,fU,qd,hm⟩:=eL hm;obtain⟨pV,DM,hm⟩:=bl hm;refine uR [1,3] [2] [vB (cond pV (!c_.aS.lY) false)] [kb 1 0,bO (gT (c_.an==0)) 1 1,bO (gT jg) 1 2,bO (gT (cond jg (c_.cU==0) false)) 1 6,bO (gT fU) 0 0,bO (gT (cond fU (c_.aS.bm==[]) false)) 0 1,bO (gT pV) 0 2] ?_ (he:=by subst xd qd DM;kernel_rfl);refine aB [] (aQ ?_);subst hm;exact bi [] bp

def pB(cz:Int):Int:=cond (cz==2) (22) (lt (cond (cz==19) (cz==19) (cond (cz==21) (cz==21) (cz==23))) λ(z9:Bool)=>cond z9 (cW (cz+1)) (0))
theorem a15(cz:Int):Rt 187 [vU cz] (vU (pB cz)):=by
 generalize hm:pB cz=r;rw[pB]at hm;refine dh (call187 _) func187 ntmps187 λM X w=>?_;refine uO [] (az ?_);refine uA 3 (vU cz) [] (aL ?_);refine uA 4 (vB (cz==2)) [] ?_;refine uC hm ?_ ?_;intro hm;refine uR [0,3,4] [2] [vU 22] [] (aQ ?_);subst hm;exact bi [] bp;intro hm;obtain⟨z9,hz,hm⟩:=bl hm;refine uK [3,4] [6] [vB z9] [] ?_ ?_;replace hm:=hz.symm;refine uR [4] [6] [vB (cz==19)] [] ?_;refine uC hm ?_ ?_;intro hm;refine aq ?_;subst hm;exact te;intro hm;refine uA 6 (vB (cz==21)) [] ?_;refine uC hm ?_ ?_;intro hm;refine aq ?_;subst hm;exact te;intro hm;refine uW [3] [6] [vB (cz==23)] [] ?_;subst hm;exact te;refine uC hm ?_ ?_;intro hm;refine uR [0,6] [2] [vU (cW (cz+1))] [] (aQ ?_);subst hm;exact bi [] bp;intro hm;refine aq (uR [0,6] [2] [vU 0] [] (aQ ?_));subst hm;exact bi [] bp

structure yi where
  depth:Int
  U7:Int
  bad:Bool
instance:Inhabited yi:=⟨⟨default,default,default⟩⟩
def a95:Ty yi where
  z:=3
  enc:=λx g=>[vI x.depth,vI x.U7,vB x.bad]
  bK:=λ_ _ _ _=>True
  len:=λ_ _=>rfl
  one:=λ_ _=>rfl
  kp:=λ_ _ _=>trivial
  bS:=λ_ _=>trivial
  fresh:=λ_=>trivial
def E5(x:yi):List Value:=a95.enc x (gL [])
def a96(eG:(List ax)→Int→Option yi):Prop:=∀(al:Gh)(M:Av)(v_:List ax)(nb:Int)(r:yi),eG v_ nb=some r→∀w,S0 M [eI aa v_ al] w→Calls prog 135 ⟨[vL al v_,vU nb]⟩ w (λe w'=>∃v,e=.returned v∧v=.agg ⟨E5 r⟩∧SH M (ay [eI aa v_ al]) w [] w')
def K7(m:Nat)(v_:List ax)(nb:Int)(a16:(List ax)→Int→Option yi):Nat→Int→Int→Int→Bool→Option (Int×Int×Bool)
 |0,_,_,_,_=>none
 |kk+1,v10,v11,v12,fm=>cond (decide (v10<ln v_)) (Option.bind (aH (0≤v10∧v10<ln v_)<|Option.bind (lt (cond (nb !=0) ((gi v_ v10).aY.an==nb) false) λE6=>lt (cond E6 true (cond (pB (gi v_ v10).aY.an==0) (decide (0<ln (gi v_ v10).ae)) false)) λGq=>cond Gq (some true) (some fm)) λ(z31:Bool)=>lt (pB (gi v_ v10).aY.an==0) λrQ=>cond rQ (some (J (v12+1),z31,v11)) (Option.bind (a16 (gi v_ v10).ae (pB (gi v_ v10).aY.an)) λlK=>lt (if v11<J (lK.depth+1)then J (lK.depth+1)else v11) λzz=>lt (J (J (J (v12+1)+lK.U7)+1)) λqe=>some (qe,cond z31 true lK.bad,zz))) λ(cw:Int×Bool×Int)=>K7 m v_ nb a16 kk (J (v10+1)) cw.2.2 cw.1 cw.2.1) (some (v11,v12,fm))
def E7(m:Nat):Nat→List ax→Int→Option yi
 |0,_,_=>none
 |k+1,v_,nb=>Option.bind (K7 m v_ nb (E7 m k) m 0 0 0 false) λ(z7:Int×Int×Bool)=>some (yi.mk z7.1 z7.2.1 z7.2.2)
theorem a97(m:Nat):∀(k:Nat),a96 (E7 m k):=by
 intro k
 induction k with
 |zero=>intro al M v_ nb r hm;exact cN hm
 |succ k ih=>
  intro al M v_ nb r hm w hS;rw[E7]at hm;have aJ:SH M (ay [eI aa v_ al]) w [eI aa v_ al] w:=hS;generalize hX:ay [eI aa v_ al]=X at aJ⊢;clear hS hX;have hS:=aJ;clear aJ;refine eg func135 rfl ntmps135 rfl λ_ H=>?_;refine aN H hS (aM (eA [] [0] [0,1] [vL al v_,vU nb] (oA [vI 0,vI 0,vF]) λb1=>aC (aM ?_)));refine eA [] [0,1] [0,1,4] [vL al v_,vU nb,vP b1] (oA [vI 0,vI 0,vF]) λb4=>(aC ?_);obtain⟨z7,hz,hm⟩:=ah hm;refine uK [0,1] [5] [vP b4] [eB b4 [vI z7.1,vI z7.2.1,vB z7.2.2],eB b1 [vI 0,vI 0,vF],eI aa v_ al] ?_ ?_;replace hm:=hz;refine uR [0] [5,10,11,12] [vP b4,vL al v_,vI (ln v_),vI 0] [] (aL ?_);refine N8 [] [12] (λv10 _ _ _=>[vI v10]) (λ_ v11 v12 fm=>[eB b4 [vI v11,vI v12,vB fm],eB b1 [vI 0,vI 0,vF],eI aa v_ al]) hm (λkk v10 v11 v12 fm hm=>?_);rw[K7]at hm;refine uA 13 (vB (decide (v10<ln v_))) [] (az ?_);refine uC hm ?_ ?_;intro hm;refine aq ?_;obtain⟨cw,hz,hm⟩:=ah hm;refine uK [13] [] [] [eB b4 [vI cw.2.2,vI cw.1,vB cw.2.1],eB b1 [vI 0,vI 0,vF],eI aa v_ al] ?_ ?_;replace hm:=hz;refine aL (aM ?_);obtain⟨fw,hm⟩:=bW hm;refine uB 2 [13] [15] [.agg ⟨e3 (gi v_ v10) (al.s v10.toNat)⟩] [ki 2 fw,⟨some (.agg ⟨e3 (gi v_ v10) (al.s v10.toNat)⟩),λwz=>V.bV (ab al.a) (ao al.a+v10.toNat*6) (e3 (gi v_ v10) (al.s v10.toNat)) 0 wz,λ_ hS=>(hS.im 2 rfl).ef fw 0 rfl⟩] ?_;refine eA [] [0,1,2] [1,4,5,10,11,12,15] [vU nb,vP b1,vP b4,vL al v_,vI (ln v_),vI v10,.agg ⟨e3 (gi v_ v10) (al.s v10.toNat)⟩] (oA [vU 0,vN,vI 0,vN,vF,vO]) λkz=>?_;refine uL [0] [1,2,3] [15] (oS (e3 (gi v_ v10) (al.s v10.toNat)) rfl rfl) (aC (aM ?_));refine uB 4 [] [18,19] [vI (J (v12+1)),vA b4 1] [kb 1 1] ?_;refine uL [1] [0,2,3] [18,19] (oS [vI v11,vI (J (v12+1)),vB fm] rfl rfl) (aC ?_);refine uA 8 (vU (pB (gi v_ v10).aY.an)) [kb 1 0,kc (a15 (gi v_ v10).aY.an)] ?_;obtain⟨z31,hz,hm⟩:=ah hm;refine uK [] [] [] [eB b4 [vI v11,vI (J (v12+1)),vB z31],eB kz (e3 (gi v_ v10) (al.s v10.toNat)),eB b1 [vI 0,vI 0,vF],eI aa v_ al] ?_ ?_;replace hm:=hz;obtain⟨E6,U8,Gq,U9,hm⟩:=eL hm;refine uI [bO (gT (nb !=0)) 1 0,bO ((pB (gi v_ v10).aY.an==0)=true∧E6=false∧True) 1 5] hm ?_ ?_ (he:=by subst U8 U9;kernel_rfl);intro hm;refine dB (uB 1 [] [43] [vA b4 2] [] ?_);refine pn [0] [1,2,3] [1,4,5,7,8,10,11,12] [vU nb,vP b1,vP b4,vP kz,vU (pB (gi v_ v10).aY.an),vL al v_,vI (ln v_),vI v10] (oS [vI v11,vI (J (v12+1)),vT] rfl rfl) (aC ?_);cases hm;exact te;intro hm;refine aq ?_;cases hm;exact te;refine az ?_;obtain⟨rQ,K8,hm⟩:=bl hm;refine uI [] hm ?_ ?_ (he:=by subst K8;kernel_rfl);intro hm;refine bn ?_;cases hm;refine aB [0,2,3] ?_;exact te;intro hm;refine aq (aM ?_);obtain⟨lK,BI,hm⟩:=ah hm;refine uB 4 [7,8] [49] [.agg ⟨E5 lK⟩] [kb 1 5,kr λ_ hS=>iC (aK bc (sD ((hS.im 3 rfl).el fw))) (call135 _) (λw' h'=>ih (al.s v10.toNat 0) F0 _ _ _ BI w' h')] ?_;refine eA [] [0,1,2,3] [1,4,5,10,11,12,49] [vU nb,vP b1,vP b4,vL al v_,vI (ln v_),vI v10,.agg ⟨E5 lK⟩] (oA [vI 0,vI 0,vF]) λb47=>?_;refine uL [0] [1,2,3,4] [49] (oS (E5 lK) rfl rfl) (aC (aB [0,1,3,4] (dB ?_)));obtain⟨zz,TS,qe,K9,hm⟩:=eL hm;refine uB 19 [9] [68] [vG [vI zz,vI qe,vB (cond z31 true lK.bad)]] [kb 1 0,kb 0 0,kb 1 1,kb 0 1,kb 1 2,bO (gF z31) 0 2] ?_ (he:=by subst TS K9;kernel_rfl);refine uL [1] [0,2,3] [68] (oS [vI zz,vI qe,vB (cond z31 true lK.bad)] rfl rfl) (aC (aB [0,2,3] ?_));cases hm;exact te;exact Sb [] hm;intro hm;refine bn ?_;cases hm;exact te;refine aB [0,1] (aM ?_);refine uB 1 [5] [70] [vG [vI z7.1,vI z7.2.1,vB z7.2.2]] [kE 0 3] ?_;refine uL [1] [0] [70] (oS [vI z7.1,vI z7.2.1,vB z7.2.2] rfl rfl) (aC (aB [0] (aQ ?_)));cases hm;exact bi [] (Jb 0 underlying222)
def Ka(m:Nat)(v_:List ax)(nb:Int):Option yi:=E7 m m v_ nb
theorem a17{al:Gh}(m)(v_)(nb)(r)(hm:Ka m v_ nb=some r)(w)(hL:Rd [eI aa v_ al] w):Rb 135 [vL al v_,vU nb] (.agg ⟨E5 r⟩) w:=iC hL (call135 _) (λw' h=>a97 m m al F0 v_ nb r hm w' h)

def BJ(m:Nat)(v_:List ax):Option Int:=Option.bind (Ka m v_ 0) λy3=>cond (decide (16<y3.depth)) (some 20) (cond (decide (1500<y3.U7)) (some 4) (cond y3.bad (some 8) (some 0)))
theorem Od{al:Gh}(m)(v_)(r)(hm:BJ m v_=some r)(w)(hL:Rd [eI aa v_ al] w):Rb 97 [vL al v_] (vI r) w:=by
 rw[BJ]at hm;refine cu hL (call97 _) func97 ntmps97 λM X w=>?_;refine uO [] (az (aM ?_));obtain⟨y3,cg,hm⟩:=ah hm;refine uB 2 [0] [5] [.agg ⟨E5 y3⟩] [kr λ_ hS=>a17 (al:=al) m _ _ _ cg _ (aK bc (hS.im 0 rfl))] ?_;refine uM [] [0] [] (oA [vI 0,vI 0,vF]) λb6=>?_;refine uL [0] [1] [5] (oS (E5 y3) rfl rfl) (aC (aB [0] (aL ?_)));refine uI [kb 0 0] hm ?_ ?_;intro hm;refine uR [3] [2] [vI 20] [] (aB [] (aQ ?_));cases hm;exact bi [] bp;intro hm;refine uI [kb 0 1] hm ?_ ?_;intro hm;refine uR [3] [2] [vI 4] [] (aB [] (aQ ?_));cases hm;exact bi [] bp;intro hm;refine uR [3] [14] [vB y3.bad] [kb 0 2] (aB [] ?_);refine uC hm ?_ ?_;intro hm;cases hm;exact uZ [] [];intro hm;refine aq ?_;cases hm;exact uZ [] []

def E8(m:Nat)(v_:List ax):Option (Int×Int):=Option.bind (BJ m v_) λy3=>cond (y3 !=0) (some (0,y3)) (Option.bind (Ka m v_ 0) λcK=>some (cK.depth,0))
theorem Ua{al:Gh}(m)(v_)(r)(hm:E8 m v_=some r)(w)(hL:Rd [eI aa v_ al] w):Rb 90 [vL al v_] (vW [vI r.1,vI r.2]) w:=by
 rw[E8]at hm;refine cu hL (call90 _) func90 ntmps90 λM X w=>?_;refine uO [] (az ?_);obtain⟨y3,cg,hm⟩:=ah hm;refine uA 4 (vI y3) [kr λ_ hS=>Od (al:=al) m _ _ cg _ (aK bc (hS.im 0 rfl))] ?_;refine uI [] hm ?_ ?_;intro hm;refine uR [0,4] [2,3] [vI 0,vI y3] [] (aB [] (aQ ?_));cases hm;exact bi [] fa;intro hm;refine aq ?_;obtain⟨cK,nF,hm⟩:=ah hm;refine uR [0,4] [2,3] [vI cK.depth,vI 0] [kr λ_ hS=>a17 (al:=al) m _ _ _ nF _ (aK bc (hS.im 0 rfl))] (aB [] (aQ ?_));cases hm;exact bi [] fa

def a98(eG:(List ct)→List ax→Option (List ct)):Prop:=∀(a6:Gh)(al:Gh)(M:Av)(l_:List ct)(v_:List ax)(r:List ct),eG l_ v_=some r→∀w,S0 M [eO 161 dN l_ a6,eI aa v_ al] w→Calls prog 188 ⟨[vL a6 l_,vL al v_]⟩ w (λe w'=>∃v,e=.returned v∧∃(aG:Gh),v=vL aG r∧SH M (ay [eO 161 dN l_ a6,eI aa v_ al]) w [eO 161 dN r aG] w')
def Gr(m:Nat)(v_:List ax)(a18:(List ct)→List ax→Option (List ct)):Nat→List ct→Int→Option (List ct)
 |0,_,_=>none
 |kk+1,v6,v8=>cond (decide (v8<ln v_)) (Option.bind (aH (0≤v8∧v8<ln v_)<|aH (ln v6+ln ([(gi v_ v8).aY]:List ct)≤137438953472)<|lt (v6++([(gi v_ v8).aY]:List ct)) λE9=>lt (pB (gi v_ v8).aY.an !=0) λGs=>cond Gs (Option.bind (a18 E9 (gi v_ v8).ae) λrR=>aH (ln rR+ln ([ct.mk (pB (gi v_ v8).aY.an) [] 0 [] false]:List ct)≤137438953472)<|lt (rR++([ct.mk (pB (gi v_ v8).aY.an) [] 0 [] false]:List ct)) λEa=>some (Ea,E9)) (some (E9,E9))) λ(cY:(List ct)×(List ct))=>Gr m v_ a18 kk cY.1 (J (v8+1))) (some v6)
def Eb(m:Nat):Nat→List ct→List ax→Option (List ct)
 |0,_,_=>none
 |k+1,l_,v_=>Option.bind (Gr m v_ (Eb m k) m l_ 0) λ(z3:List ct)=>some z3
theorem a99(m:Nat):∀(k:Nat),a98 (Eb m k):=by
 intro k
 induction k with
 |zero=>intro a6 al M l_ v_ r hm;exact cN hm
 |succ k ih=>
  intro a6 al M l_ v_ r hm w hS;rw[Eb]at hm;have aJ:SH M (ay [eO 161 dN l_ a6,eI aa v_ al]) w [eO 161 dN l_ a6,eI aa v_ al] w:=hS;generalize hX:ay [eO 161 dN l_ a6,eI aa v_ al]=X at aJ⊢;clear hS hX;have hS:=aJ;clear aJ;refine eg func188 rfl ntmps188 rfl λ_ H=>?_;refine aN H hS (dp [0,1] [vL a6 l_,vL al v_] [] ?_);obtain⟨z3,hz,hm⟩:=ah hm;refine gv [1] [0] (λ(iE:Gh)=>[vL iE z3]) (λiE=>[eO 161 dN z3 iE,eI aa v_ al]) ?_ ?_;replace hm:=hz;refine uR [1] [8,9,10] [vL al v_,vI (ln v_),vI 0] [] (aL ?_);refine mw [] [0,10] (λv6 v8 g7=>[vL g7 v6,vI v8]) (λv6 _ g7=>[eO 161 dN v6 g7,eI aa v_ al]) a6 hm (λkk v6 v8 g7 hm=>?_);rw[Gr]at hm;refine uA 11 (vB (decide (v8<ln v_))) [] (az ?_);refine uC hm ?_ ?_;intro hm;refine aq ?_;obtain⟨cY,hz,hm⟩:=ah hm;intro _ _ ve hS;refine di (λa' w'=>∃(oe:Gh)(Nv:Gh),Fr 35 (fS [8,9,10,0] [vL al v_,vI (ln v_),vI v8,vL oe cY.1]) a'∧SH M X w [eO 161 dN cY.1 oe,eI aa v_ al] w') ?_ ?_;replace hm:=hz;refine aN ve hS (aL (aM ?_));obtain⟨mG,hm⟩:=bW hm;refine uB 2 [11] [13] [.agg ⟨e3 (gi v_ v8) (al.s v8.toNat)⟩] [ki 1 mG,⟨some (.agg ⟨e3 (gi v_ v8) (al.s v8.toNat)⟩),λwz=>V.bV (ab al.a) (ao al.a+v8.toNat*6) (e3 (gi v_ v8) (al.s v8.toNat)) 0 wz,λ_ hS=>(hS.im 1 rfl).ef mG 0 rfl⟩] ?_;refine uM [] [0,1] [] (oA [vU 0,vN,vI 0,vN,vF,vO]) λBp=>?_;refine pn [0] [1,2] [0,6,8,9,10] [vL g7 v6,vP Bp,vL al v_,vI (ln v_),vI v8] (oS (e3 (gi v_ v8) (al.s v8.toNat)) rfl rfl) (aC (aM ?_));refine uB 3 [0] [14,16] [vL g7 v6,.agg ⟨e7 (gi v_ v8).aY⟩] [kE 0 5] ?_;refine uM [] [0,1,2] [16] (oL dN 161 (vG [vU 0,vN,vI 0,vN,vF]) [(gi v_ v8).aY] [gL []] (λ_=>bd.cons trivial bd.nil) rfl) λg22=>?_;obtain⟨mf,E9,a9a,hm⟩:=cv hm;refine uM [2,0] [1,3] [14,17] (oP dN (vG [vU 0,vN,vI 0,vN,vF]) g7 g22 a9a mf rfl rfl) λn9=>?_;refine uB 6 [18] [0] [vL n9 E9] [] (aC (aB [0,2,3] ?_));refine uA 7 (vU (pB (gi v_ v8).aY.an)) [kb 1 0,kc (a15 (gi v_ v8).aY.an)] ?_;obtain⟨Gs,Ub,hm⟩:=bl hm;refine uI [] hm ?_ ?_ (he:=by subst Ub;kernel_rfl);intro hm;refine dB (uB 3 [6,0] [25,27] [vL n9 E9,.slice (al.s v8.toNat 0).a (gi v_ v8).ae.length (al.s v8.toNat 0).c] [kb 1 5] ?_);intro _ _ sK hS;replace hS:=hS.fl (sD ((hS.im 2 rfl).el mG));obtain⟨rR,Kb,hm⟩:=ah hm;refine aN sK hS (eA [1,0] [0,2,3] [7,8,9,10] [vU (pB (gi v_ v8).aY.an),vL al v_,vI (ln v_),vI v8] (λ_ _ sK hd=>dw sK rfl rfl (⟨call188 _,ih n9 (al.s v8.toNat 0) _ _ _ _ Kb _ hd⟩:eZ _ _ _ _ _)) λmg=>?_);refine uB 6 [7] [28,30] [vL mg rR,vG [vU (pB (gi v_ v8).aY.an),vN,vI 0,vN,vF]] [] ?_;refine uM [] [0,1,2,3] [30] (oL dN 161 (vG [vU 0,vN,vI 0,vN,vF]) [ct.mk (pB (gi v_ v8).aY.an) [] 0 [] false] [gL []] (λ_=>bd.cons trivial bd.nil) rfl) λpx=>?_;obtain⟨a9b,Ea,Uc,hm⟩:=cv hm;refine uM [1,0] [2,3,4] [28,31] (oP dN (vG [vU 0,vN,vI 0,vN,vF]) mg px Uc a9b rfl rfl) λzw=>?_;refine uB 9 [32] [0] [vL zw Ea] [] (aC (aB [0,4] ?_));cases hm;exact λ_ _ H58 hS=>⟨zw,n9,aw.aR (ks:=[8,9,10,0]) H58 (by kernel_rfl),hS⟩;intro hm;refine aq ?_;cases hm;refine aB [0,2] ?_;exact λ_ _ kC hS=>⟨n9,n9,aw.aR (ks:=[8,9,10,0]) kC (by kernel_rfl),hS⟩;rintro _ _ ⟨oe,Nv,H,hS⟩;refine aN H hS (r9 [0,8,9,10] [vL oe cY.1,vL al v_,vI (ln v_),vI (J (v8+1))] [] ?_);exact uH oe hm;intro hm;refine bn ?_;cases hm;exact tg g7;intro iE;refine aB [0] ?_;refine uR [0] [4] [vL iE z3] [] (aQ ?_);cases hm;exact de iE [0] bp
def Oe(m:Nat)(l_:List ct)(v_:List ax):Option (List ct):=Eb m m l_ v_
theorem a9c{a6 al:Gh}(m)(l_)(v_)(r)(hm:Oe m l_ v_=some r)(M:Av)(w:World)(hS:S0 M [eO 161 dN l_ a6,eI aa v_ al] w):eZ prog 188 ⟨[vL a6 l_,vL al v_]⟩ w (λv w'=>∃(aG:Gh),v=vL aG r∧SH M (ay [eO 161 dN l_ a6,eI aa v_ al]) w [eO 161 dN r aG] w'):=⟨call188 _,a99 m m a6 al M l_ v_ r hm w hS⟩

def Gt(m:Nat)(v_:List ax):Option ((List ct)×Int):=Option.bind (BJ m v_) λy3=>cond (y3 !=0) (some (([]:List ct),y3)) (Option.bind (Oe m [] v_) λek=>some (ek,0))
theorem a9d{al:Gh}(m)(v_)(r)(hm:Gt m v_=some r):Dm 136 [vL al v_] [eI aa v_ al] (λ(aG:Gh)=>vW [vL aG r.1,vI r.2]) (λaG=>[eO 161 dN r.1 aG]):=by
 rw[Gt]at hm;refine gI (call136 _) func136 ntmps136 λM X w=>?_;refine uO [] (az ?_);obtain⟨y3,cg,hm⟩:=ah hm;refine uA 4 (vI y3) [kr λ_ hS=>Od (al:=al) m _ _ cg _ (aK bc (hS.im 0 rfl))] ?_;refine uI [] hm ?_ ?_;intro hm;refine uR [0,4] [2,3] [vO,vI y3] [] (aB [] (aQ ?_));cases hm;refine cR 161 dN ?_;exact de Gh.nil [0] fa;intro hm;refine aq (aM (uB 1 [0,4] [10] [vL al v_] [] ?_));refine cR 161 dN ?_;obtain⟨ek,sJ,hm⟩:=ah hm;refine uQ [0,1] [1] [10] (a9c (a6:=Gh.nil) (al:=al) m _ _ _ sJ) λg15=>?_;refine uB 4 [11] [2,3] [vL g15 ek,vI 0] [] (aC (aB [0] (aQ ?_)));cases hm;exact de g15 [0] fa

def BK(s:a7)(cB:a7):Option Bool:=aH (decide (ln cB≤ln s)=true→0≤ln cB∧ln cB≤ln s)<|lt (cond (decide (ln cB≤ln s)) (sub s 0 (ln cB)==cB) false) λx4=>some x4
theorem a19(s)(cB)(r)(hm:BK s cB=some r):Rt 194 [vS s,vS cB] (vB r):=by
 rw[BK]at hm;refine dh (call194 _) func194 ntmps194 λM X w=>?_;refine uO [] ?_;obtain⟨lv,x4,mF,hm⟩:=cv hm;refine uR [0,1] [4] [vB x4] [o1 (gT (decide (ln cB≤ln s))) λhg=>lv hg.1] ?_ (he:=by subst mF;kernel_rfl);refine aQ ?_;cases hm;exact bi [] bp

def zG(s:a7)(cB:a7):Option Bool:=Option.bind (BK s cB) λy3=>some y3
theorem Og(s)(cB)(r)(hm:zG s cB=some r):Rt 144 [vS s,vS cB] (vB r):=by
 rw[zG]at hm;refine dh (call144 _) func144 ntmps144 λM X w=>?_;refine uO [] ?_;obtain⟨y3,cg,hm⟩:=ah hm;cases hm;exact uZ [] [kc (a19 _ _ _ cg)]

def Kc(m:Nat)(s:a7):Option Bool:=lt (cond (s==[]) true (decide (64<ln s))) λx3=>lt (cond x3 true (decide (0≤strings_IndexByte s 0))) λx4=>cond x4 (some false) (Option.bind (zG s [45,45]) λy9=>cond y9 (some (!(s==[45,45]))) (Option.bind (zA m s) λek=>some (s==ek)))
theorem a9e(m)(s)(r)(hm:Kc m s=some r):Rt 137 [vS s] (vB r):=by
 rw[Kc]at hm;refine dh (call137 _) func137 ntmps137 λM X w=>?_;refine uO [] (az ?_);obtain⟨x3,iD,x4,mF,hm⟩:=eL hm;refine uI [fF (gF x3) λhg=>JN s 0] hm ?_ ?_ (he:=by subst iD mF;kernel_rfl);intro hm;cases hm;exact uZ [] [];intro hm;refine aq (az ?_);obtain⟨y9,oI,hm⟩:=ah hm;refine uI [kc (Og _ _ _ oI)] hm ?_ ?_;intro hm;cases hm;exact uZ [] [];intro hm;refine aq ?_;obtain⟨ek,sJ,hm⟩:=ah hm;cases hm;exact uZ [] [kc (JU m _ _ sJ)]

def Oh(s:a7)(cB:a7):Option a7:=Option.bind (BK s cB) λy3=>cond y3 (aH (0≤ln cB∧ln cB≤ln s)<|some (sub s (ln cB) (ln s))) (some s)
theorem a9f(s)(cB)(r)(hm:Oh s cB=some r):Rt 301 [vS s,vS cB] (vS r):=by
 rw[Oh]at hm;refine dh (call301 _) func301 ntmps301 λM X w=>?_;refine uO [] (az ?_);obtain⟨y3,cg,hm⟩:=ah hm;refine uI [kc (a19 _ _ _ cg)] hm ?_ ?_;intro hm;obtain⟨rp,hm⟩:=bW hm;cases hm;exact uZ [] [kh rp];intro hm;refine aq ?_;cases hm;exact uZ [] []

def Kd(s:a7)(cB:a7):Option a7:=Option.bind (Oh s cB) λy3=>some y3
theorem a9g(s)(cB)(r)(hm:Kd s cB=some r):Rt 275 [vS s,vS cB] (vS r):=by
 rw[Kd]at hm;refine dh (call275 _) func275 ntmps275 λM X w=>?_;refine uO [] ?_;obtain⟨y3,cg,hm⟩:=ah hm;cases hm;exact uZ [] [kc (a9f _ _ _ cg)]

def Ke(c_:Int):Bool:=lt (cond (decide (48≤c_)) (decide (c_≤57)) false) λx3=>x3
theorem a1a(c_:Int):Rt 276 [vU c_] (vB (Ke c_)):=by
 generalize hm:Ke c_=r;rw[Ke]at hm;refine dh (call276 _) func276 ntmps276 λM X w=>?_;refine uO [] ?_;obtain⟨x3,iD,hm⟩:=bl hm;refine uR [0] [2] [vB x3] [] ?_ (he:=by subst iD;kernel_rfl);refine aQ ?_;subst hm;exact bi [] bp

def Kf(s:a7):Option Bool:=Option.bind (Kd s [45]) λy3=>aH ((!(y3==[]))=true→0≤(0:Int)∧(0:Int)<ln y3)<|lt (cond (!(y3==[])) (Ke (bR y3 0)) false) λx7=>some x7
theorem a9h(s)(r)(hm:Kf s=some r):Rt 239 [vS s] (vB r):=by
 rw[Kf]at hm;refine dh (call239 _) func239 ntmps239 λM X w=>?_;refine uO [] ?_;obtain⟨y3,cg,hm⟩:=ah hm;refine uA 0 (vS y3) [kc (a9g _ _ _ cg)] ?_;obtain⟨rp,x7,wD,hm⟩:=cv hm;refine uR [0] [2] [vB x7] [o1 (gT (!(y3==[]))) λhg=>rp hg.1,fF (gT (!(y3==[]))) λhg=>a1a (bR y3 0)] ?_ (he:=by subst wD;kernel_rfl);refine aQ ?_;cases hm;exact bi [] bp

def Kg(c_:Int):Bool:=lt (cond (decide (97≤fD .or .u8 c_ 32)) (decide (fD .or .u8 c_ 32≤122)) false) λx3=>cond x3 (decide (c_<128)) false
theorem a9i(c_:Int):Rt 277 [vU c_] (vB (Kg c_)):=by
 generalize hm:Kg c_=r;rw[Kg]at hm;refine dh (call277 _) func277 ntmps277 λM X w=>?_;refine uO [] ?_;obtain⟨x3,iD,hm⟩:=bl hm;refine uR [0] [2] [vB (cond x3 (decide (c_<128)) false)] [] ?_ (he:=by subst iD;kernel_rfl);refine aQ ?_;subst hm;exact bi [] bp

def Oi(c_:Int):Bool:=lt (cond (Kg c_) true (Ke c_)) λx3=>lt (cond (cond x3 true (c_==95)) true (c_==45)) λx4=>cond x4 true (decide (128≤c_))
theorem a9j(c_:Int):Rt 240 [vU c_] (vB (Oi c_)):=by
 generalize hm:Oi c_=r;rw[Oi]at hm;refine dh (call240 _) func240 ntmps240 λM X w=>?_;refine uO [] ?_;obtain⟨x3,iD,x4,mF,hm⟩:=eL hm;refine uR [0] [2] [vB (cond x4 true (decide (128≤c_)))] [kc (a9i c_),fF (gF (Kg c_)) λhg=>a1a c_] ?_ (he:=by subst iD mF;kernel_rfl);refine aQ ?_;subst hm;exact bi [] bp

def stringslite_Index(s:a7)(nM:a7):Option Int:=lt (cond (ln nM==0) true (nM==s)) λx5=>cond x5 (some 0) (cond (ln nM==1) (aH (0≤(0:Int)∧(0:Int)<ln nM)<|some (stringslite_IndexByte s (bR nM 0))) (cond (decide (ln s≤ln nM)) (some (-1)) (none)))
theorem a9k(s)(nM)(r)(hm:stringslite_Index s nM=some r):Rt 302 [vS s,vS nM] (vI r):=by
 rw[stringslite_Index]at hm;refine dh (call302 _) func302 ntmps302 λM X w=>?_;refine uO [] ?_;refine uA 5 (vI (ln nM)) [] (az (aL ?_));obtain⟨x5,DQ,hm⟩:=bl hm;refine uI [] hm ?_ ?_ (he:=by subst DQ;kernel_rfl);intro hm;cases hm;exact uZ [] [];intro hm;refine uI [] hm ?_ ?_;intro hm;obtain⟨mG,hm⟩:=bW hm;cases hm;exact uZ [] [kh mG,kc (a0W s (bR nM 0))];intro hm;refine RY [] hm ?_;intro hm;cases hm;exact uZ [] []

def strings_Index(s:a7)(nM:a7):Option Int:=Option.bind (stringslite_Index s nM) λy3=>some y3
theorem a9l(s)(nM)(r)(hm:strings_Index s nM=some r):Rt 278 [vS s,vS nM] (vI r):=by
 rw[strings_Index]at hm;refine dh (call278 _) func278 ntmps278 λM X w=>?_;refine uO [] ?_;obtain⟨y3,cg,hm⟩:=ah hm;cases hm;exact uZ [] [kc (a9k _ _ _ cg)]

def strings_Contains(s:a7)(nM:a7):Option Bool:=Option.bind (strings_Index s nM) λy3=>some (decide (0≤y3))
theorem a9m(s)(nM)(r)(hm:strings_Contains s nM=some r):Rt 241 [vS s,vS nM] (vB r):=by
 rw[strings_Contains]at hm;refine dh (call241 _) func241 ntmps241 λM X w=>?_;refine uO [] ?_;obtain⟨y3,cg,hm⟩:=ah hm;cases hm;exact uZ [] [kc (a9l _ _ _ cg)]

def Kh(t_:ct):Option Bool:=aH (ln t_.db+ln t_.Unit≤9223372036854775807)<|lt (strings_IndexByte (t_.db++t_.Unit) 0) λx9=>Option.bind (Option.bind (cond (t_.an==1) (some (t_.an==1)) (cond (t_.an==2) (some (t_.an==2)) (some (t_.an==3)))) λ(eV:Bool)=>cond eV (lt (cond (decide (x9<0)) (!(t_.db==[])) false) λj7=>some (true,false,false,false,j7)) (cond (t_.an==4) (lt (cond (decide (x9<0)) (!(t_.db==[])) false) λnG=>Option.bind (cond nG (cond t_.mE (some default) (Kf t_.db)) (some default)) λeM=>Option.bind (cond nG (cond t_.mE (some default) (cond eM (zG t_.db [45,45]) (some default))) (some default)) λrm=>lt (cond nG (cond (cond t_.mE true (cond eM (!rm) false)) true (t_.db==[45])) false) λUd=>some (true,false,false,true,Ud)) (Option.bind (cond (t_.an==5) (some (t_.an==5)) (some (t_.an==7))) λ(z37:Bool)=>cond z37 (some (true,false,false,false,decide (x9<0))) (cond (t_.an==9) (lt (cond (decide (x9<0)) (ln t_.db==1) false) λrI=>aH (rI=true→0≤(0:Int)∧(0:Int)<ln t_.db)<|lt (cond rI (!(Oi (bR t_.db 0))) false) λiT=>Option.bind (cond (cond iT true (t_.db==[45])) (strings_Contains [32,9,10,12,13,34,39,58,59,44,91,93,40,41,123,125] t_.db) (some default)) λmc=>lt (cond (cond iT true (t_.db==[45])) (!mc) false) λyj=>some (true,false,false,false,yj)) (Option.bind (cond (t_.an==10) (some (t_.an==10)) (cond (t_.an==11) (some (t_.an==11)) (some (t_.an==12)))) λ(Ue:Bool)=>cond Ue (lt (cond (decide (x9<0)) (decide ((-1000000000000)≤t_.cU)) false) λUf=>lt (cond Uf (decide (t_.cU≤1000000000000)) false) λtY=>lt (cond tY (cond (!t_.mE) true (Int.tmod t_.cU 1000==0)) false) λUg=>lt (cond Ug (cond (!(t_.an==12)) true (!(t_.Unit==[]))) false) λrS=>some (false,t_.an==12,true,t_.an !=11,rS)) (lt (cond (decide (13≤t_.an)) (decide (t_.an≤24)) false) λUh=>some (false,false,false,false,Uh))))))) λ(z12:Bool×Bool×Bool×Bool×Bool)=>lt (cond z12.2.2.2.2 (cond z12.1 true (t_.db==[])) false) λEc=>lt (cond Ec (cond z12.2.1 true (t_.Unit==[])) false) λUi=>lt (cond Ui (cond z12.2.2.1 true (t_.cU==0)) false) λUj=>lt (cond Uj (cond z12.2.2.2.1 true (!t_.mE)) false) λUk=>some Uk
theorem a9n(t_)(r)(hm:Kh t_=some r):Rt 190 [.agg ⟨e7 t_⟩] (vB r):=by
 rw[Kh]at hm;refine dh (call190 _) func190 ntmps190 λM X w=>(aM ?_);refine uM [] [] [0] (oB (e7 t_) rfl) λb1=>?_;refine uP 2 [] (aC ?_);refine uR [] [3,4,5,6] [vF,vF,vF,vF] [] ?_;obtain⟨xe,x9,wM,hm⟩:=cv hm;refine uA 7 (vB (decide (x9<0))) [kb 0 1,kb 0 3,kh xe,kc (JN (t_.db++t_.Unit) 0)] ?_ (he:=by subst wM;kernel_rfl);obtain⟨z12,hz,hm⟩:=ah hm;refine uK [] [3,4,5,6,7] [vB z12.1,vB z12.2.1,vB z12.2.2.1,vB z12.2.2.2.1,vB z12.2.2.2.2] [eB b1 (e7 t_)] ?_ ?_;replace hm:=hz;refine uA 16 (vU t_.an) [kb 0 0] (aL ?_);obtain⟨eV,hz,hm⟩:=ah hm;refine uK [] [25] [vB eV] [eB b1 (e7 t_)] ?_ ?_;replace hm:=hz;refine uR [] [1,3,4,5,6,7,16,25] [vP b1,vF,vF,vF,vF,vB (decide (x9<0)),vU t_.an,vB (t_.an==1)] [] ?_;refine uC hm ?_ ?_;intro hm;refine aq ?_;cases hm;exact te;intro hm;refine uA 25 (vB (t_.an==2)) [] ?_;refine uC hm ?_ ?_;intro hm;refine aq ?_;cases hm;exact te;intro hm;refine uV 25 (vB (t_.an==3)) [] ?_;cases hm;exact te;refine qB (λhc=>?Ul) (λhc=>?_)
 case Ul=>
  replace hm:=bT hc hm;obtain⟨j7,tV,hm⟩:=bl hm;refine N3 [1,3,4,5,6,7] [vP b1,vT,vF,vF,vF,vB j7] [bO (gT (decide (x9<0))) 0 1] ?_ (he:=by subst tV;kernel_rfl);cases hm;exact te
 replace hm:=bF hc hm;refine uR [25] [1,3,4,5,6,7,16,35] [vP b1,vF,vF,vF,vF,vB (decide (x9<0)),vU t_.an,vB (t_.an==4)] [] ?_;refine uC hm ?_ ?_;intro hm;refine uR [16,35] [3,6] [vT,vT] [] ?_;obtain⟨nG,DK,eM,wP,hm⟩:=sB hm;obtain⟨rm,Jr,Ud,a9o,hm⟩:=iL hm;refine uV 7 (vB Ud) [bO (gT (decide (x9<0))) 0 1,bO (gT nG) 0 4,bO (t_.mE=false∧nG=true∧True) 0 1,fF (t_.mE=false∧nG=true∧True) λhg=>a9h _ _ (bF (hg.1) (bT (hg.2.1) wP)),bO (eM=true∧t_.mE=false∧nG=true∧True) 0 1,fF (eM=true∧t_.mE=false∧nG=true∧True) λhg=>Og _ _ _ (bT (hg.1) (bF (hg.2.1) (bT (hg.2.2.1) Jr))),bO (cond t_.mE true (cond eM (!rm) false)=false∧nG=true∧True) 0 1] ?_ (he:=by subst DK a9o;kernel_rfl);cases hm;exact te;intro hm;obtain⟨z37,hz,hm⟩:=ah hm;refine uK [35] [63] [vB z37] [eB b1 (e7 t_)] ?_ ?_;replace hm:=hz;refine uR [35] [63] [vB (t_.an==5)] [] ?_;refine uC hm ?_ ?_;intro hm;refine aq ?_;cases hm;exact te;intro hm;refine uV 63 (vB (t_.an==7)) [] ?_;cases hm;exact te;refine qB (λhc=>?c81) (λhc=>?_)
 case c81=>
  replace hm:=bT hc hm;refine uW [16,63] [3] [vT] [] ?_;cases hm;exact te
 replace hm:=bF hc hm;refine uR [63] [66] [vB (t_.an==9)] [] ?_;refine uC hm ?_ ?_;intro hm;refine uR [16,66] [3] [vT] [] ?_;obtain⟨rI,JR,JG,hm⟩:=mA hm;obtain⟨iT,DZ,hm⟩:=bl hm;refine uA 7 (vB (cond iT true (t_.db==[45]))) [bO (gT (decide (x9<0))) 0 1,bO (gT rI) 0 1,o1 (gT rI) λhg=>JG hg.1,fF (gT rI) λhg=>a9j (bR t_.db 0),bO (gF iT) 0 1] ?_ (he:=by subst JR DZ;kernel_rfl);obtain⟨mc,DG,yj,Um,hm⟩:=iL hm;refine uV 7 (vB yj) [bO (gT (cond iT true (t_.db==[45]))) 0 1,fF (gT (cond iT true (t_.db==[45]))) λhg=>a9m _ _ _ (bT (hg.1) DG)] ?_ (he:=by subst Um;kernel_rfl);cases hm;exact te;intro hm;obtain⟨Ue,hz,hm⟩:=ah hm;refine uK [16,66] [94] [vB Ue] [eB b1 (e7 t_)] ?_ ?_;replace hm:=hz;refine uR [66] [94] [vB (t_.an==10)] [] ?_;refine uC hm ?_ ?_;intro hm;refine aq ?_;cases hm;exact te;intro hm;refine uA 94 (vB (t_.an==11)) [] ?_;refine uC hm ?_ ?_;intro hm;refine aq ?_;cases hm;exact te;intro hm;refine uW [16] [94] [vB (t_.an==12)] [] ?_;cases hm;exact te;refine uC hm ?_ ?_;intro hm;refine mu [1,3,4,5,6,7] [vP b1,vF,vB (t_.an==12),vT,vB (t_.an !=11),vB (decide (x9<0))] [kb 0 0,kb 0 0] ?_;obtain⟨Uf,a9p,tY,Ju,hm⟩:=eL hm;obtain⟨Ug,a9q,rS,Ki,hm⟩:=eL hm;refine uV 7 (vB rS) [bO (gT (decide (x9<0))) 0 2,bO (gT Uf) 0 2,bO (gT tY) 0 4,bO ((!t_.mE)=false∧tY=true∧True) 0 2,⟨none,λ_=>((!t_.mE)=false∧tY=true∧True→(1000:Int)≠0),λ_ _=>λhg=>(by show(1000:Int)≠0;decide)⟩,bO ((!(t_.an==12))=false∧Ug=true∧True) 0 3] ?_ (he:=by subst a9p Ju a9q Ki;kernel_rfl);cases hm;exact te;intro hm;obtain⟨Uh,a9r,hm⟩:=bl hm;refine uW [94] [7] [vB Uh] [kb 0 0,bO (gT (decide (13≤t_.an))) 0 0] ?_ (he:=by subst a9r;kernel_rfl);cases hm;exact te;obtain⟨Ec,Un,Ui,a9s,hm⟩:=eL hm;obtain⟨Uj,a9t,Uk,a9u,hm⟩:=eL hm;refine uR [1,3,4,5,6,7] [2] [vB Uk] [bO (z12.1=false∧z12.2.2.2.2=true∧True) 0 1,bO (z12.2.1=false∧Ec=true∧True) 0 3,bO (z12.2.2.1=false∧Ui=true∧True) 0 2,bO (z12.2.2.2.1=false∧Uj=true∧True) 0 4] ?_ (he:=by subst Un a9s a9t a9u;kernel_rfl);refine aB [] (aQ ?_);cases hm;exact bi [] bp

def Ed(i:Int)(k_:Int)(u0:List ct):Option Bool:=aH (decide (i<ln u0)=true→0≤i∧i<ln u0)<|lt (cond (decide (i<ln u0)) ((gi u0 i).an==k_) false) λx4=>some x4
theorem Uo{bw:Nat}{qJ:Gh}(i)(k_)(u0)(r)(hm:Ed i k_ u0=some r)(w)(hL:Rd [a8.ro bw [vL qJ u0],eI dN u0 qJ] w):Rb 242 [vI i,vU k_,vP bw] (vB r) w:=by
 rw[Ed]at hm;refine cu hL (call242 _) func242 ntmps242 λM X w=>?_;refine uO [] ?_;obtain⟨lv,x4,mF,hm⟩:=cv hm;refine uR [0,1,2] [5] [vB x4] [ko 0 0,kgo (gT (decide (i<ln u0))) 0 0,ku (gT (decide (i<ln u0))) 1 λhg=>lv hg.1,mv (gT (decide (i<ln u0))) 1 0 λhg=>lv hg.1] ?_ (he:=by subst mF;kernel_rfl);refine aB [] (aQ ?_);cases hm;exact bi [] bp

def Kj(m:Nat)(a_:a7)(b_:a7):Option Bool:=Option.bind (zA m a_) λy3=>Option.bind (zA m b_) λy4=>some (y3==y4)
theorem a9v(m)(a_)(b_)(r)(hm:Kj m a_ b_=some r):Rt 243 [vS a_,vS b_] (vB r):=by
 rw[Kj]at hm;refine dh (call243 _) func243 ntmps243 λM X w=>?_;refine uO [] ?_;obtain⟨y3,cg,y4,qC,hm⟩:=pr hm;cases hm;exact uZ [] [kc (JU m _ _ cg),kc (JU m _ _ qC)]

def Kk(m:Nat)(l_:List ct):Option Int:=aH (0≤(0:Int)∧(0:Int)<ln l_)<|lt (cond ((gi l_ (0:Int)).an==9) ((gi l_ (0:Int)).db==[92]) false) λoG=>cond oG (Option.bind (Ed 1 13 l_) λfx=>cond (!fx) (some 0) (some 2)) (Option.bind (cond ((gi l_ (0:Int)).an==2) (Kj m (gi l_ (0:Int)).db [117,114,108]) (some default)) λbj=>lt (cond ((gi l_ (0:Int)).an==2) bj false) λvl=>cond vl (Option.bind (Option.bind (Ed 1 13 l_) λjh=>cond jh (some 2) (some 1)) λ(gP:Int)=>Option.bind (Ed gP 5 l_) λrF=>cond (!rF) (some 0) (some (J (gP+1)))) (some 1))
theorem a9w{a6:Gh}(m)(l_)(r)(hm:Kk m l_=some r)(w)(hL:Rd [eI dN l_ a6] w):Rb 191 [vL a6 l_] (vI r) w:=by
 rw[Kk]at hm;refine cu hL (call191 _) func191 ntmps191 λM X w=>(aM ?_);refine uM [] [0] [0] (oB [vL a6 l_] rfl) λb1=>?_;refine uP 2 [] (aC ?_);refine uA 3 (.func (.func 242) ⟨[]⟩ ⟨[vP b1]⟩) [] (az (aM ?_));obtain⟨xe,hm⟩:=bW hm;refine uB 3 [1] [9] [.agg ⟨e7 (gi l_ (0:Int))⟩] [kb 0 0,ki 1 xe,⟨some (.agg ⟨e7 (gi l_ (0:Int))⟩),λwz=>V.bV (ab a6.a) (ao a6.a+((0:Int)).toNat*5) (e7 (gi l_ (0:Int))) 0 wz,λ_ hS=>(hS.im 1 rfl).ef xe 0 rfl⟩] ?_;refine uM [] [0,1] [] (oA [vU 0,vN,vI 0,vN,vF]) λjr=>?_;refine uL [0] [1,2] [9] (oS (e7 (gi l_ (0:Int))) rfl rfl) (aC (aL ?_));obtain⟨oG,zk,hm⟩:=bl hm;refine uA 10 (vB oG) [kb 0 0,bO (gT ((gi l_ (0:Int)).an==9)) 0 1] ?_ (he:=by subst zk;kernel_rfl);refine uC hm ?_ ?_;intro hm;refine az ?_;obtain⟨fx,qG,hm⟩:=ah hm;refine uR [3,4,10] [21] [vB (!fx)] [kr λ_ hS=>Uo (bw:=b1) (qJ:=a6) _ _ _ _ qG _ (iB (aK bc (hS.im 2 rfl)) (hS.bk 1 rfl))] (aB [] ?_);refine uC hm ?_ ?_;intro hm;cases hm;exact uZ [] [];intro hm;refine aq ?_;cases hm;exact uZ [] [];intro hm;obtain⟨bj,wG,vl,JD,hm⟩:=iL hm;refine uR [4,10] [3,22] [.func (.func 242) ⟨[]⟩ ⟨[vP b1]⟩,vB vl] [kb 0 0,bO (gT ((gi l_ (0:Int)).an==2)) 0 1,fF (gT ((gi l_ (0:Int)).an==2)) λhg=>a9v m _ _ _ (bT (hg.1) wG)] ?_ (he:=by subst JD;kernel_rfl);refine aB [1,2] ?_;refine uC hm ?_ ?_;intro hm;refine uR [22] [5] [vI 1] [] ?_;obtain⟨gP,hz,hm⟩:=ah hm;refine uK [] [5] [vI gP] [eB b1 [vL a6 l_],eI dN l_ a6] ?_ ?_;replace hm:=hz;obtain⟨jh,BL,hm⟩:=ah hm;refine uI [kr λ_ hS=>Uo (bw:=b1) (qJ:=a6) _ _ _ _ BL _ (iB (aK bc (hS.im 1 rfl)) (hS.bk 0 rfl))] hm ?_ ?_;intro hm;refine uV 5 (vI 2) [] ?_;cases hm;exact te;intro hm;refine aq ?_;cases hm;exact te;refine az ?_;obtain⟨rF,JK,hm⟩:=ah hm;refine uR [3] [39] [vB (!rF)] [kr λ_ hS=>Uo (bw:=b1) (qJ:=a6) _ _ _ _ JK _ (iB (aK bc (hS.im 1 rfl)) (hS.bk 0 rfl))] (aB [] ?_);refine uC hm ?_ ?_;intro hm;cases hm;exact uZ [] [];intro hm;refine aq ?_;cases hm;exact uZ [] [];intro hm;refine aq (uR [3,22] [2] [vI 1] [] (aB [] (aQ ?_)));cases hm;exact bi [] bp

def Gu(m:Nat)(l_:List ct):Nat→Int→Option (Sum Int Unit)
 |0,_=>none
 |kk+1,v10=>cond (decide (v10<ln l_)) (aH (0≤v10∧v10<ln l_)<|Option.bind (Option.bind (Kh (gi l_ v10)) λcJ=>lt (!cJ) λlJ=>cond lJ (some true) (aH (0≤v10∧v10≤ln l_∧ln l_≤ln l_)<|lt (fE l_ v10 (ln l_)) λq38=>Option.bind (Kk m q38) λnK=>some (nK==0))) λ(z23:Bool)=>cond z23 (some (.inl 8)) (Gu m l_ kk (J (v10+1)))) (some (.inr ()))
def Kl(m:Nat)(l_:List ct):Option Int:=cond (decide (1500<ln l_)) (some 4) (Option.bind (Gu m l_ m 0) λ(z7:Sum Int Unit)=>dk z7 λoZ=>some 0)
theorem a9x{a6:Gh}(m)(l_)(r)(hm:Kl m l_=some r)(w)(hL:Rd [eI dN l_ a6] w):Rb 138 [vL a6 l_] (vI r) w:=by
 rw[Kl]at hm;refine cu hL (call138 _) func138 ntmps138 λM X w=>?_;refine uO [] (az ?_);refine uA 7 (vB (decide (1500<ln l_))) [] ?_;refine uC hm ?_ ?_;intro hm;refine uR [0,7] [2] [vI 4] [] (aB [] (aQ ?_));cases hm;exact bi [] bp;intro hm;refine aq ?_;obtain⟨z7,hz,sV⟩:=ah hm;intro _ _ H4 hS;refine di (λa' w'=>∃oZ:Unit,z7=Sum.inr oZ∧Fr 26 [] a'∧SH M X w [eI dN l_ a6] w') ?_ ?_;replace hm:=hz;refine aN H4 hS (uR [7] [8,9,10] [vL a6 l_,vI (ln l_),vI 0] [] (aL ?_));refine eQ [] [10] (λv10=>[vI v10]) (λ_=>[eI dN l_ a6]) hm (λkk v10 hm=>?_);rw[Gu]at hm;refine uA 11 (vB (decide (v10<ln l_))) [] (az ?_);refine uC hm ?_ ?_;intro hm;refine aq (az (aL (aM ?_)));obtain⟨cH,hm⟩:=bW hm;refine uB 3 [11] [12,14] [vI v10,.agg ⟨e7 (gi l_ v10)⟩] [ki 0 cH,⟨some (.agg ⟨e7 (gi l_ v10)⟩),λwz=>V.bV (ab a6.a) (ao a6.a+v10.toNat*5) (e7 (gi l_ v10)) 0 wz,λ_ hS=>(hS.im 0 rfl).ef cH 0 rfl⟩] ?_;refine eA [] [0] [0,8,9,10,12,14] [vL a6 l_,vL a6 l_,vI (ln l_),vI v10,vI v10,.agg ⟨e7 (gi l_ v10)⟩] (oA [vU 0,vN,vI 0,vN,vF]) λrL=>?_;refine uB 5 [12] [3] [vI v10] [] ?_;refine uL [0] [1] [14] (oS (e7 (gi l_ v10)) rfl rfl) (aC ?_);obtain⟨z23,hz,hm⟩:=ah hm;refine uK [4,3] [24] [vB z23] [eB rL (e7 (gi l_ v10)),eI dN l_ a6] ?_ ?_;replace hm:=hz;refine dB ?_;obtain⟨cJ,o7,lJ,xa,hm⟩:=iL hm;refine uB 4 [4] [18] [vB lJ] [kE 0 5,kc (a9n _ _ o7)] ?_ (he:=by subst xa;kernel_rfl);cases lJ
 case true=>
  replace hm:=bT rfl hm;intro _ _ yk hS;refine pO 18 [19,0,3,8,9,10,18] (fS [19,0,3,8,9,10,18] [undef,vL a6 l_,vI v10,vL a6 l_,vI (ln l_),vI v10,vT]) yk rfl rfl rfl rfl rfl rfl λ_ lA=>?_;refine pO 18 [20,0,8,9,10,18,19] (fS [20,0,8,9,10,18,19] [undef,vL a6 l_,vL a6 l_,vI (ln l_),vI v10,vT,undef]) lA rfl rfl rfl rfl rfl rfl λ_ Gv=>?_;refine pO 18 [21,0,8,9,10,18] (fS [21,0,8,9,10,18] [undef,vL a6 l_,vL a6 l_,vI (ln l_),vI v10,vT]) Gv rfl rfl rfl rfl rfl rfl λ_ Bm=>?_;refine pO 18 [22,0,8,9,10,18] (fS [22,0,8,9,10,18] [undef,vL a6 l_,vL a6 l_,vI (ln l_),vI v10,vT]) Bm rfl rfl rfl rfl rfl rfl λ_ wB=>?_;refine pO 18 [23,0,8,9,10,18] (fS [23,0,8,9,10,18] [undef,vL a6 l_,vL a6 l_,vI (ln l_),vI v10,vT]) wB rfl rfl rfl rfl rfl rfl λ_ lC=>?_;refine aN lC hS (fG 10 [0,8,9,10,24] [vL a6 l_,vL a6 l_,vI (ln l_),vI v10,vT] [] (aC ?_));cases hm;exact te
 replace hm:=bF rfl hm;intro _ _ yk hS;refine RB 4 6 [] [(0,0),(8,0),(9,0),(10,0),(18,0),(19,1),(20,1)] (fS [0,8,9,10,18,19,20] [vL a6 l_,vL a6 l_,vI (ln l_),vI v10,vF,vL a6 l_,vI v10]) [] yk (by decide) (by kernel_rfl) trivial λ_ _ wN hb=>?_;replace hS:=hS.below hb;obtain⟨xf,q38,a1b,hm⟩:=cv hm;have hd:=hS.hand [1] [0,1] rfl rfl;refine RC 18 [21,0,8,9,10,18] (fS [0,8,9,10,18] [vL a6 l_,vL a6 l_,vI (ln l_),vI v10,vF]) wN rfl rfl rfl rfl (xL (T:=dN) (E:=161) (g:=a6) (q:=l_) v10 (ln l_) (.some (vI v10)) .none wN hd (hd.im 0 rfl) rfl rfl rfl rfl rfl rfl (.inr ⟨_,rfl⟩) (.inl ⟨rfl,rfl⟩) (by kernel_rfl) (by kernel_rfl) xf) (λ_=>rfl) λ_ _ v BM hq=>?_;obtain⟨ml,rfl,hq⟩:=hq;rw[←a1b]at hq;rw[←a1b]at BM;replace hS:=hS.join [1] [0,1] rfl rfl hq;obtain⟨nK,JF,hm⟩:=ah hm;refine aN BM hS (fG 10 [0,8,9,10,24] [vL a6 l_,vL a6 l_,vI (ln l_),vI v10,vB (nK==0)] [fv (gF false) λ_ hS hg=>a9w (a6:=ml) m _ _ JF _ (aK bc (hS.im 0 rfl))] (aC (aB [1,2] ?_)));cases hm;refine aB [1,0] ?_;exact te;refine aB [1] ?_;refine uC hm ?_ ?_;intro hm;cases hm;have hm:=sV;cases hm;exact uZ [] [];intro hm;exact aq (gw [] hm);intro hm;refine bn ?_;cases hm;exact λ_ _ oU hS=>⟨_,rfl,aw.aR (ks:=[]) oU (by kernel_rfl),hS⟩;rintro _ _ ⟨oZ,hz,H,hS⟩;subst hz;replace hm:=ee sV;replace hS:SH M _ w [] _:=hS.aV [] rfl;refine aN H hS ?_;cases hm;exact uZ [] []

def iF(v_:ax)(cz:Int):Bool:=v_.aY.an==cz
theorem Ee{gQ:Gh}(v_:ax)(cz:Int)(w)(hL:Rd [eI aa v_.ae gQ] w):Rb 142 [.agg ⟨e3 v_ (gL [gQ])⟩,vU cz] (vB (iF v_ cz)) w:=by
 generalize hm:iF v_ cz=r;rw[iF]at hm;refine cu hL (call142 _) func142 ntmps142 λM X w=>(aM ?_);refine uM [] [0] [0] (oB (e3 v_ (gL [gQ])) rfl) λb1=>?_;refine uP 2 [] (aC ?_);refine uR [1,2] [4] [vB (v_.aY.an==cz)] [kb 0 0] (aB [] (aQ ?_));subst hm;exact bi [] bp

def Oj(eG:(List ax)→Option Bool):Prop:=∀(al:Gh)(M:Av)(v_:List ax)(r:Bool),eG v_=some r→∀w,S0 M [eI aa v_ al] w→Calls prog 139 ⟨[vL al v_]⟩ w (λe w'=>∃v,e=.returned v∧v=vB r∧SH M (ay [eI aa v_ al]) w [] w')
def Ol(m:Nat)(qf:(List ax)→Option Bool)(x_:ax):Option Bool:=lt (cond (iF x_ 20) true (iF x_ 22)) λx6=>Option.bind (cond (cond x6 true (iF x_ 24)) (some default) (qf x_.ae)) λy7=>lt (cond (cond x6 true (iF x_ 24)) true y7) λx8=>some x8
theorem a9y{dP:Gh}(m)(qf)(Km:Oj qf)(x_)(r)(hm:Ol m qf x_=some r)(w)(hL:Rd [eI aa x_.ae dP] w):Rb 192 [.agg ⟨e3 x_ (gL [dP])⟩] (vB r) w:=by
 rw[Ol]at hm;refine cu hL (call192 _) func192 ntmps192 λM X w=>(aM ?_);refine uM [] [0] [0] (oB (e3 x_ (gL [dP])) rfl) λb1=>?_;refine uP 2 [] (aC ?_);obtain⟨x6,oH,y7,rj,hm⟩:=sB hm;obtain⟨x8,rz,hm⟩:=bl hm;refine uR [1] [2] [vB x8] [kE 0 6,⟨some (vB (iF x_ 20)),rB 142 [.agg ⟨e3 x_ (gL [dP])⟩,vU 20] (vB (iF x_ 20)),λ_ hS=>Ee (gQ:=dP) x_ 20 _ (aK bc (hS.im 1 rfl))⟩,⟨some (.agg ⟨e3 x_ (gL [dP])⟩),λwz=>iF x_ 20=false∧True→V.bV b1 0 (e3 x_ (gL [dP])) 0 wz,λ_ hS=>λhg=>(hS.bk 0 rfl).eK rfl⟩,⟨some (vB (iF x_ 22)),λwz=>iF x_ 20=false∧True→kP prog 142 ⟨[.agg ⟨e3 x_ (gL [dP])⟩,vU 22]⟩ (vB (iF x_ 22)) wz,λ_ hS=>λhg=>Ee (gQ:=dP) x_ 22 _ (aK bc (hS.im 1 rfl))⟩,⟨some (.agg ⟨e3 x_ (gL [dP])⟩),λwz=>x6=false∧True→V.bV b1 0 (e3 x_ (gL [dP])) 0 wz,λ_ hS=>λhg=>(hS.bk 0 rfl).eK rfl⟩,⟨some (vB (iF x_ 24)),λwz=>x6=false∧True→kP prog 142 ⟨[.agg ⟨e3 x_ (gL [dP])⟩,vU 24]⟩ (vB (iF x_ 24)) wz,λ_ hS=>λhg=>Ee (gQ:=dP) x_ 24 _ (aK bc (hS.im 1 rfl))⟩,bO (gF (cond x6 true (iF x_ 24))) 0 5,fv (gF (cond x6 true (iF x_ 24))) λ_ hS hg=>iC (aK bc (hS.im 1 rfl)) (call139 _) (λw' h'=>Km dP F0 _ _ (bF (hg.1) rj) w' h')] ?_ (he:=by subst oH rz;kernel_rfl);refine aB [] (aQ ?_);cases hm;exact bi [] bp
def Gw(m:Nat)(qf:(List ax)→Option Bool)(s:List ax):Nat→Int→Option (Sum Int Unit)
 |0,_=>none
 |kk+1,v6=>cond (decide (v6<ln s)) (aH (0≤v6∧v6<ln s)<|Option.bind (Ol m qf (gi s v6)) λdD=>cond dD (some (.inl v6)) (Gw m qf s kk (J (v6+1)))) (some (.inr ()))
def Om(m:Nat)(qf:(List ax)→Option Bool)(s:List ax):Option Int:=Option.bind (Gw m qf s m 0) λ(z3:Sum Int Unit)=>dk z3 λdv=>some (-1)
theorem a9z{ba:Gh}(m)(qf)(Km:Oj qf)(s)(r)(hm:Om m qf s=some r)(w)(hL:Rd [eI aa s ba] w):Rb 193 [vL ba s,.func (.func 192) ⟨[]⟩ ⟨[]⟩] (vI r) w:=by
 rw[Om]at hm;refine cu hL (call193 _) func193 ntmps193 λM X w=>?_;refine uO [] ?_;obtain⟨z3,hz,eW⟩:=ah hm;intro _ _ H2 hS;refine di (λa' w'=>∃dv:Unit,z3=Sum.inr dv∧Fr 19 [] a'∧SH M X w [eI aa s ba] w') ?_ ?_;replace hm:=hz;refine aN H2 hS (uR [] [7,8] [vI (ln s),vI 0] [] (aL ?_));refine eQ [] [8] (λv6=>[vI v6]) (λ_=>[eI aa s ba]) hm (λkk v6 hm=>?_);rw[Gw]at hm;refine uA 9 (vB (decide (v6<ln s))) [] (az ?_);refine uC hm ?_ ?_;intro hm;refine aq (az (aL (uR [9] [5] [vI v6] [] ?_)));obtain⟨dq,dD,jc,hm⟩:=kv hm;refine uI [ki 0 dq,⟨some (.agg ⟨e3 (gi s v6) (ba.s v6.toNat)⟩),λwz=>V.bV (ab ba.a) (ao ba.a+v6.toNat*6) (e3 (gi s v6) (ba.s v6.toNat)) 0 wz,λ_ hS=>(hS.im 0 rfl).ef dq 0 rfl⟩,kr λ_ hS=>a9y (dP:=ba.s v6.toNat 0) m _ Km _ _ jc _ (aK bc (sD ((hS.im 0 rfl).el dq)))] hm ?_ ?_;intro hm;cases hm;have hm:=eW;cases hm;exact uZ [] [];intro hm;exact aq (gw [] hm);intro hm;refine bn ?_;cases hm;exact λ_ _ H8 hS=>⟨_,rfl,aw.aR (ks:=[]) H8 (by kernel_rfl),hS⟩;rintro _ _ ⟨dv,hz,H,hS⟩;subst hz;replace hm:=ee eW;replace hS:SH M _ w [] _:=hS.aV [] rfl;refine aN H hS ?_;cases hm;exact uZ [] []
def On(m:Nat)(qf:(List ax)→Option Bool)(s:List ax):Option Bool:=Option.bind (Om m qf s) λy3=>some (decide (0≤y3))
theorem a9A{ba:Gh}(m)(qf)(Km:Oj qf)(s)(r)(hm:On m qf s=some r)(w)(hL:Rd [eI aa s ba] w):Rb 140 [vL ba s,.func (.func 192) ⟨[]⟩ ⟨[]⟩] (vB r) w:=by
 rw[On]at hm;refine cu hL (call140 _) func140 ntmps140 λM X w=>?_;refine uO [] ?_;obtain⟨y3,cg,hm⟩:=ah hm;refine uR [0,1] [4] [vB (decide (0≤y3))] [kr λ_ hS=>a9z (ba:=ba) m _ Km _ _ cg _ (aK bc (hS.im 0 rfl))] (aB [] (aQ ?_));cases hm;exact bi [] bp
def Ef(m:Nat):Nat→List ax→Option Bool
 |0,_=>none
 |k+1,v_=>Option.bind (On m (Ef m k) v_) λy3=>some y3
theorem a9B(m:Nat):∀(k:Nat),Oj (Ef m k):=by
 intro k
 induction k with
 |zero=>intro al M v_ r hm;exact cN hm
 |succ k ih=>
  intro al M v_ r hm w hS;rw[Ef]at hm;have aJ:SH M (ay [eI aa v_ al]) w [eI aa v_ al] w:=hS;generalize hX:ay [eI aa v_ al]=X at aJ⊢;clear hS hX;have hS:=aJ;clear aJ;refine eg func139 rfl ntmps139 rfl λ_ H=>?_;refine aN H hS (dp [0] [vL al v_] [] ?_);obtain⟨y3,cg,hm⟩:=ah hm;refine uR [0] [2] [vB y3] [kr λ_ hS=>a9A (ba:=al) m _ ih _ _ cg _ (aK bc (hS.im 0 rfl))] (aB [] (aQ ?_));cases hm;exact bi [] bp
def a1c(m:Nat)(v_:List ax):Option Bool:=Ef m m v_
theorem a9C{al:Gh}(m)(v_)(r)(hm:a1c m v_=some r)(w)(hL:Rd [eI aa v_ al] w):Rb 139 [vL al v_] (vB r) w:=iC hL (call139 _) (λw' h=>a9B m m al F0 v_ r hm w' h)

def Eg(v_:ax):Bool:=lt (cond (iF v_ 9) (v_.aY.db==[33]) false) λx6=>x6
theorem a9D{gQ:Gh}(v_:ax)(w)(hL:Rd [eI aa v_.ae gQ] w):Rb 143 [.agg ⟨e3 v_ (gL [gQ])⟩] (vB (Eg v_)) w:=by
 generalize hm:Eg v_=r;rw[Eg]at hm;refine cu hL (call143 _) func143 ntmps143 λM X w=>(aM ?_);refine uM [] [0] [0] (oB (e3 v_ (gL [gQ])) rfl) λb1=>?_;refine uP 2 [] (aC ?_);obtain⟨x6,oH,hm⟩:=bl hm;refine uR [1] [2] [vB x6] [kE 0 6,⟨some (vB (iF v_ 9)),rB 142 [.agg ⟨e3 v_ (gL [gQ])⟩,vU 9] (vB (iF v_ 9)),λ_ hS=>Ee (gQ:=gQ) v_ 9 _ (aK bc (hS.im 1 rfl))⟩,bO (gT (iF v_ 9)) 0 1] ?_ (he:=by subst oH;kernel_rfl);refine aB [] (aQ ?_);subst hm;exact bi [] bp

def Oo(x_:ax):Bool:=cond (iF x_ 17) true (Eg x_)
theorem a9E{dP:Gh}(x_:ax)(w)(hL:Rd [eI aa x_.ae dP] w):Rb 141 [.agg ⟨e3 x_ (gL [dP])⟩] (vB (Oo x_)) w:=by
 generalize hm:Oo x_=r;rw[Oo]at hm;refine cu hL (call141 _) func141 ntmps141 λM X w=>(aM ?_);refine uM [] [0] [0] (oB (e3 x_ (gL [dP])) rfl) λb1=>?_;refine uP 2 [] (aC ?_);refine uR [1] [2] [vB (cond (iF x_ 17) true (Eg x_))] [kE 0 6,⟨some (vB (iF x_ 17)),rB 142 [.agg ⟨e3 x_ (gL [dP])⟩,vU 17] (vB (iF x_ 17)),λ_ hS=>Ee (gQ:=dP) x_ 17 _ (aK bc (hS.im 1 rfl))⟩,⟨some (.agg ⟨e3 x_ (gL [dP])⟩),λwz=>iF x_ 17=false∧True→V.bV b1 0 (e3 x_ (gL [dP])) 0 wz,λ_ hS=>λhg=>(hS.bk 0 rfl).eK rfl⟩,⟨some (vB (Eg x_)),λwz=>iF x_ 17=false∧True→kP prog 143 ⟨[.agg ⟨e3 x_ (gL [dP])⟩]⟩ (vB (Eg x_)) wz,λ_ hS=>λhg=>a9D (gQ:=dP) x_ _ (aK bc (hS.im 1 rfl))⟩] (aB [] (aQ ?_));subst hm;exact bi [] bp

def Gx(m:Nat)(s:List ax):Nat→Int→Option (Sum Int Unit)
 |0,_=>none
 |kk+1,v6=>cond (decide (v6<ln s)) (aH (0≤v6∧v6<ln s)<|cond (Oo (gi s v6)) (some (.inl v6)) (Gx m s kk (J (v6+1)))) (some (.inr ()))
def Oq(m:Nat)(s:List ax):Option Int:=Option.bind (Gx m s m 0) λ(z3:Sum Int Unit)=>dk z3 λdv=>some (-1)
theorem a9F{ba:Gh}(m)(s)(r)(hm:Oq m s=some r)(w)(hL:Rd [eI aa s ba] w):Rb 193 [vL ba s,.func (.func 141) ⟨[]⟩ ⟨[]⟩] (vI r) w:=by
 rw[Oq]at hm;refine cu hL (call193 _) func193 ntmps193 λM X w=>?_;refine uO [] ?_;obtain⟨z3,hz,eW⟩:=ah hm;intro _ _ H2 hS;refine di (λa' w'=>∃dv:Unit,z3=Sum.inr dv∧Fr 19 [] a'∧SH M X w [eI aa s ba] w') ?_ ?_;replace hm:=hz;refine aN H2 hS (uR [] [7,8] [vI (ln s),vI 0] [] (aL ?_));refine eQ [] [8] (λv6=>[vI v6]) (λ_=>[eI aa s ba]) hm (λkk v6 hm=>?_);rw[Gx]at hm;refine uA 9 (vB (decide (v6<ln s))) [] (az ?_);refine uC hm ?_ ?_;intro hm;refine aq (az (aL (uR [9] [5] [vI v6] [] ?_)));obtain⟨dq,hm⟩:=bW hm;refine uI [ki 0 dq,⟨some (.agg ⟨e3 (gi s v6) (ba.s v6.toNat)⟩),λwz=>V.bV (ab ba.a) (ao ba.a+v6.toNat*6) (e3 (gi s v6) (ba.s v6.toNat)) 0 wz,λ_ hS=>(hS.im 0 rfl).ef dq 0 rfl⟩,kr λ_ hS=>a9E (dP:=ba.s v6.toNat 0) (gi s v6) _ (aK bc (sD ((hS.im 0 rfl).el dq)))] hm ?_ ?_;intro hm;cases hm;have hm:=eW;cases hm;exact uZ [] [];intro hm;exact aq (gw [] hm);intro hm;refine bn ?_;cases hm;exact λ_ _ H8 hS=>⟨_,rfl,aw.aR (ks:=[]) H8 (by kernel_rfl),hS⟩;rintro _ _ ⟨dv,hz,H,hS⟩;subst hz;replace hm:=ee eW;replace hS:SH M _ w [] _:=hS.aV [] rfl;refine aN H hS ?_;cases hm;exact uZ [] []

def Kn(m:Nat)(s:List ax):Option Bool:=Option.bind (Oq m s) λy3=>some (decide (0≤y3))
theorem a9G{ba:Gh}(m)(s)(r)(hm:Kn m s=some r)(w)(hL:Rd [eI aa s ba] w):Rb 140 [vL ba s,.func (.func 141) ⟨[]⟩ ⟨[]⟩] (vB r) w:=by
 rw[Kn]at hm;refine cu hL (call140 _) func140 ntmps140 λM X w=>?_;refine uO [] ?_;obtain⟨y3,cg,hm⟩:=ah hm;refine uR [0,1] [4] [vB (decide (0≤y3))] [kr λ_ hS=>a9F (ba:=ba) m _ _ cg _ (aK bc (hS.im 0 rfl))] (aB [] (aQ ?_));cases hm;exact bi [] bp

def Gy(m:Nat)(d_:cT):Option Int:=Option.bind (Gt m d_.Value) λcK=>Option.bind (Kc m d_.bm) λgf=>Option.bind (cond (cond (!gf) true (cK.2 !=0)) (some default) (Kl m cK.1)) λgY=>lt (cond (cond (!gf) true (cK.2 !=0)) true (gY !=0)) λzH=>Option.bind (cond zH (some default) (a1c m d_.Value)) λfo=>cond (cond zH true fo) (some 8) (Option.bind (Kn m d_.Value) λcS=>cond cS (some 8) (Option.bind (cond (ln d_.Value==0) (zG d_.bm [45,45]) (some default)) λeM=>aH (decide (0<ln d_.Value)=true→cond (ln d_.Value==0) (!eM) false=false→0≤(0:Int)∧(0:Int)<ln d_.Value)<|aH (iF (gi d_.Value (0:Int)) 13=false→decide (0<ln d_.Value)=true→cond (ln d_.Value==0) (!eM) false=false→0≤J (ln d_.Value-1)∧J (ln d_.Value-1)<ln d_.Value)<|lt (iF (gi d_.Value (J (ln d_.Value-1))) 13) λjJ=>lt (cond (cond (ln d_.Value==0) (!eM) false) true (cond (decide (0<ln d_.Value)) (cond (iF (gi d_.Value (0:Int)) 13) true jJ) false)) λGz=>cond Gz (some 8) (some 0)))
end Go.Proofs.YtfinnnfdojhmnaaGreatDoor
