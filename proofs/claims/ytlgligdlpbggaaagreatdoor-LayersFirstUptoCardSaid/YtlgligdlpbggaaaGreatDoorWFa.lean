/-
  What the Go functions compute, as Lean functions, and that a call returns just that. Printed by a program.
-/
import Derived.Test.YtlgligdlpbggaaaGreatDoorRows
import Derived.Test.YtlgligdlpbggaaaGreatDoorX
import Derived.Test.YtlgligdlpbggaaaGreatDoorQ2
set_option linter.unusedVariables false
set_option maxRecDepth 20000
set_option maxHeartbeats 4000000
namespace Go.Proofs.YtlgligdlpbggaaaGreatDoor
open Go.V Go.RowKit Go.Proofs.Tryz

abbrev tC(k:Int)(w:a6)(n:Int):List Value:=[.int .u8 k,.string ⟨⟨w⟩⟩,.int .i64 n,.int .u8 0,.int .u8 0,.int .u8 0,.int .u8 0]
abbrev Rd(L:List a8)(w:World):Prop:=S0 F0 L w∧ay L=[]
abbrev Rb(f:FuncId)(l:List Value)(v:Value)(w:World):Prop:=kD prog f ⟨l⟩ v w
abbrev Rt(f:FuncId)(l:List Value)(v:Value):Prop:=Al prog f ⟨l⟩ v
abbrev Dm{γ:Type}(f:FuncId)(l:List Value)(L:List a8)(F:γ→Value)(E:γ→List a8):Prop:=MJ prog f ⟨l⟩ L F E
abbrev vS(l:a6):Value:=.string ⟨⟨l⟩⟩
abbrev vN:Value:=.string ⟨⟨[]⟩⟩
abbrev vI(n:Int):Value:=.int .i64 n
abbrev vU(n:Int):Value:=.int .u8 n
abbrev vT:Value:=.bool true
abbrev vF:Value:=.bool false
abbrev vP(b:Nat):Value:=.pointer (some ⟨b,0,none⟩)
abbrev vA(b o:Nat):Value:=.pointer (some ⟨b,o,none⟩)
abbrev vQ:Value:=.pointer none
abbrev vO:Value:=.slice none 0 0
abbrev vB(b:Bool):Value:=.bool b
abbrev vG(l:List Value):Value:=.agg ⟨l⟩
abbrev vW(l:List Value):Value:=.tuple ⟨l⟩
abbrev vJ(n:Int):Value:=.int .i32 n
abbrev vL{α:Type}(g:Gh)(l:List α):Value:=.slice g.a l.length g.c
theorem mJ{α β:Type}{g g':Gh}{v:List α}{v':List β}(h:g'.a=g.a∧g'.c=g.c∧v'.length=v.length):vL g v=vL g' v':=by unfold vL;rw[h.1,h.2.1,h.2.2]
abbrev eO{α:Type}(E:TypeId)(T:Ty α)(l:List α)(g:Gh):a8:=.own E T l g
abbrev eI{α:Type}(T:Ty α)(l:List α)(g:Gh):a8:=.im T l g
abbrev eB(b:Nat)(cs:List Value):a8:=.lJ b cs
def fS:List Nat→List Value→SF
 |k::ks,v::vs=>(k,[],v)::fS ks vs
 |_,_=>[]
abbrev vK(g:Gh)(n:Nat):Value:=.slice g.a n g.c
abbrev xk:List a6:=[[97,117,116,111]]
abbrev AL:List Int:=[2,3,4,0]
abbrev AM:List a6:=[[116,111,112],[114,105,103,104,116],[98,111,116,116,111,109],[108,101,102,116]]
abbrev AN:List Int:=[0,0,1]
abbrev IX:List Int:=[2,3,4]
abbrev ZO:List a6:=[[],[97,110,100],[111,114],[110,111,116],[111,110,108,121]]
abbrev ZP:List a6:=[[109,97,114,103,105,110],[98,111,114,100,101,114],[111,117,116,108,105,110,101],[98,97,99,107,103,114,111,117,110,100]]
abbrev ZQ:List a6:=[[105,110,105,116,105,97,108],[105,110,104,101,114,105,116],[117,110,115,101,116],[114,101,118,101,114,116]]
abbrev ZR:List a6:=[[98],[97,47,120],[97]]
abbrev rB(f:FuncId)(l:List Value)(v:Value):World→Prop:=λwz=>kD prog f ⟨l⟩ v wz
abbrev rN(b o:Nat)(l:List Value):World→Prop:=λwz=>V.bZ b o l 0 wz
abbrev rA(b o:Nat)(v:Value):World→Prop:=λwz=>V.c9 ⟨b,o,none⟩ v wz
theorem eA{α β γ:Type}{e:α}{g:α→β}{f:α→β→γ}{r:γ}(h:lt e (λx=>lt (g x) (f x))=r):∃x,x=e∧∃y,y=g x∧f x y=r:=⟨e,rfl,_,rfl,h⟩
theorem rZ{α β γ:Type}{e:α}{g:α→Option β}{f:α→β→Option γ}{r:γ}(h:lt e (λx=>(g x).bind (f x))=some r):∃x,x=e∧∃y,g x=some y∧f x y=some r:=⟨e,rfl,ah h⟩
theorem mf{α γ:Type}{e:α}{p:α→Prop}[∀x,Decidable (p x)]{f:α→Option γ}{r:γ}(h:lt e (λx=>aH (p x) (f x))=some r):∃x,x=e∧p x∧f x=some r:=⟨e,rfl,bX h⟩
theorem iD{α β γ:Type}{e:Option α}{g:α→β}{f:α→β→Option γ}{r:γ}(h:e.bind (λx=>lt (g x) (f x))=some r):∃x,e=some x∧∃y,y=g x∧f x y=some r:=(ah h).imp λ_ h=>⟨h.1,bl h.2⟩
theorem pz{α β γ:Type}{e:Option α}{g:α→Option β}{f:α→β→Option γ}{r:γ}(h:e.bind (λx=>(g x).bind (f x))=some r):∃x,e=some x∧∃y,g x=some y∧f x y=some r:=(ah h).imp λ_ h=>⟨h.1,ah h.2⟩
theorem AO{α γ:Type}{e:Option α}{p:α→Prop}[∀x,Decidable (p x)]{f:α→Option γ}{r:γ}(h:e.bind (λx=>aH (p x) (f x))=some r):∃x,e=some x∧p x∧f x=some r:=(ah h).imp λ_ h=>⟨h.1,bX h.2⟩
theorem cx{β γ:Type}{p:Prop}[Decidable p]{g:β}{f:β→Option γ}{r:γ}(h:aH p (lt g f)=some r):p∧∃y,y=g∧f y=some r:=⟨(bX h).1,bl (bX h).2⟩
theorem kL{β γ:Type}{p:Prop}[Decidable p]{g:Option β}{f:β→Option γ}{r:γ}(h:aH p (g.bind f)=some r):p∧∃y,g=some y∧f y=some r:=⟨(bX h).1,ah (bX h).2⟩
theorem fx{γ:Type}{p q:Prop}[Decidable p][Decidable q]{f:Option γ}{r:γ}(h:aH p (aH q f)=some r):p∧q∧f=some r:=⟨(bX h).1,bX (bX h).2⟩
def ZS:List Int:=[0,1,28,2,29,14,24,3,30,22,20,15,25,17,4,8,31,27,13,23,21,19,16,7,26,12,18,6,11,5,10,9]
def ZT:List Int:=[0,1,56,2,57,49,28,3,61,58,42,50,38,29,17,4,62,47,59,36,45,43,51,22,53,39,33,30,24,18,12,5,63,55,48,27,60,41,37,16,46,35,44,21,52,32,23,11,54,26,40,15,34,20,31,10,25,14,19,9,13,8,7,6]
def D7:List Int:=[0,0,0,0,0,0,0,0,0,1,1,1,1,1,0,0,0,0,0,0,0,0,0,0,0,0,0,0,0,0,0,0,1,0,0,0,0,0,0,0,0,0,0,0,0,0,0,0,0,0,0,0,0,0,0,0,0,0,0,0,0,0,0,0,0,0,0,0,0,0,0,0,0,0,0,0,0,0,0,0,0,0,0,0,0,0,0,0,0,0,0,0,0,0,0,0,0,0,0,0,0,0,0,0,0,0,0,0,0,0,0,0,0,0,0,0,0,0,0,0,0,0,0,0,0,0,0,0,0,0,0,0,0,0,0,0,0,0,0,0,0,0,0,0,0,0,0,0,0,0,0,0,0,0,0,0,0,0,0,0,0,0,0,0,0,0,0,0,0,0,0,0,0,0,0,0,0,0,0,0,0,0,0,0,0,0,0,0,0,0,0,0,0,0,0,0,0,0,0,0,0,0,0,0,0,0,0,0,0,0,0,0,0,0,0,0,0,0,0,0,0,0,0,0,0,0,0,0,0,0,0,0,0,0,0,0,0,0,0,0,0,0,0,0,0,0,0,0,0,0,0,0,0,0,0,0]
structure yB where
  A:Int
  B:Int
instance:Inhabited yB:=⟨⟨default,default⟩⟩
def a6c:Ty yB where
  z:=2
  enc:=λx g=>[vI x.A,vI x.B]
  bJ:=λ_ _ _ _=>True
  len:=λ_ _=>rfl
  one:=λ_ _=>rfl
  kp:=λ_ _ _=>trivial
  bU:=λ_ _=>trivial
  fresh:=λ_=>trivial
mutual
inductive bL where
  |mk (IY:Int) (bt:List fT) (iE:List Int)
inductive fT where
  |mk (Tag:a6) (bA:List fq)
inductive fq where
  |mk (an:Int) (bm:a6) (Op:Int) (Value:a6) (AP:Bool) (mg:yB) (Of:Bool) (ae:List bL)
end
def bL.IY:bL→Int
 | .mk x _ _=>x
def bL.bt:bL→List fT
 | .mk _ x _=>x
def bL.iE:bL→List Int
 | .mk _ _ x=>x
def fT.Tag:fT→a6
 | .mk x _=>x
def fT.bA:fT→List fq
 | .mk _ x=>x
def fq.an:fq→Int
 | .mk x _ _ _ _ _ _ _=>x
def fq.bm:fq→a6
 | .mk _ x _ _ _ _ _ _=>x
def fq.Op:fq→Int
 | .mk _ _ x _ _ _ _ _=>x
def fq.Value:fq→a6
 | .mk _ _ _ x _ _ _ _=>x
def fq.AP:fq→Bool
 | .mk _ _ _ _ x _ _ _=>x
def fq.mg:fq→yB
 | .mk _ _ _ _ _ x _ _=>x
def fq.Of:fq→Bool
 | .mk _ _ _ _ _ _ x _=>x
def fq.ae:fq→List bL
 | .mk _ _ _ _ _ _ _ x=>x
instance:Inhabited bL:=⟨.mk default default default⟩
instance:Inhabited fT:=⟨.mk default default⟩
instance:Inhabited fq:=⟨.mk default default default default default default default default⟩
def RV(x:bL)(g:Nat→Gh):List Value:=[vU x.IY,.slice (g 0).a x.bt.length (g 0).c,.slice (g 1).a x.iE.length (g 1).c]
def e0(x:bL)(g:Nat→Gh):List Value:=RV x g
def ZU(x:fT)(g:Nat→Gh):List Value:=[vS x.Tag,.slice (g 0).a x.bA.length (g 0).c]
def RW(x:fq)(g:Nat→Gh):List Value:=[vU x.an,vS x.bm,vU x.Op,vS x.Value,vB x.AP,vI x.mg.A,vI x.mg.B,vB x.Of,.slice (g 0).a x.ae.length (g 0).c]
def e2(x:fq)(g:Nat→Gh):List Value:=RW x g
mutual
inductive lc (M:Av) (w:World):bL→(Nat→Gh)→Prop
  |mk (x:bL) (g:Nat→Gh) (h0:oh 2 ZU M w x.bt (g 0)) (h1:∀i (h:i<x.bt.length),lL M w x.bt[i] ((g 0).s i)) (h2:aP (tI .u8) M w x.iE (g 1)):lc M w x g
inductive lL (M:Av) (w:World):fT→(Nat→Gh)→Prop
  |mk (x:fT) (g:Nat→Gh) (h0:oh 9 RW M w x.bA (g 0)) (h1:∀i (h:i<x.bA.length),lM M w x.bA[i] ((g 0).s i)):lL M w x g
inductive lM (M:Av) (w:World):fq→(Nat→Gh)→Prop
  |mk (x:fq) (g:Nat→Gh) (h0:oh 3 RV M w x.ae (g 0)) (h1:∀i (h:i<x.ae.length),lc M w x.ae[i] ((g 0).s i)):lM M w x g
end
theorem a6d{M:Av}{w w':World}{X:List Nat}{x:bL}{g:Nat→Gh}(h:lc M w x g)(k:Kp X w w')(hX:∀b∈X,M b):lc M w' x g:=
  lc.rec (motive_1:=λx g _=>lc M w' x g) (motive_2:=λx g _=>lL M w' x g) (motive_3:=λx g _=>lM M w' x g) (λx g h0 _ h2 dP=>.mk x g (h0.kp k hX) dP (h2.kp k hX)) (λx g h0 _ dP=>.mk x g (h0.kp k hX) dP) (λx g h0 _ dP=>.mk x g (h0.kp k hX) dP) h
theorem a6e{M:Av}{w w':World}{X:List Nat}{x:fT}{g:Nat→Gh}(h:lL M w x g)(k:Kp X w w')(hX:∀b∈X,M b):lL M w' x g:=
  lL.rec (motive_1:=λx g _=>lc M w' x g) (motive_2:=λx g _=>lL M w' x g) (motive_3:=λx g _=>lM M w' x g) (λx g h0 _ h2 dP=>.mk x g (h0.kp k hX) dP (h2.kp k hX)) (λx g h0 _ dP=>.mk x g (h0.kp k hX) dP) (λx g h0 _ dP=>.mk x g (h0.kp k hX) dP) h
theorem a6f{M:Av}{w w':World}{X:List Nat}{x:fq}{g:Nat→Gh}(h:lM M w x g)(k:Kp X w w')(hX:∀b∈X,M b):lM M w' x g:=
  lM.rec (motive_1:=λx g _=>lc M w' x g) (motive_2:=λx g _=>lL M w' x g) (motive_3:=λx g _=>lM M w' x g) (λx g h0 _ h2 dP=>.mk x g (h0.kp k hX) dP (h2.kp k hX)) (λx g h0 _ dP=>.mk x g (h0.kp k hX) dP) (λx g h0 _ dP=>.mk x g (h0.kp k hX) dP) h
theorem a6g{M M':Av}{w:World}{x:bL}{g:Nat→Gh}(h:lc M w x g)(hM:∀b,M' b→M b):lc M' w x g:=
  lc.rec (motive_1:=λx g _=>lc M' w x g) (motive_2:=λx g _=>lL M' w x g) (motive_3:=λx g _=>lM M' w x g) (λx g h0 _ h2 dP=>.mk x g (h0.bU hM) dP (h2.bU hM)) (λx g h0 _ dP=>.mk x g (h0.bU hM) dP) (λx g h0 _ dP=>.mk x g (h0.bU hM) dP) h
theorem a6h{M M':Av}{w:World}{x:fT}{g:Nat→Gh}(h:lL M w x g)(hM:∀b,M' b→M b):lL M' w x g:=
  lL.rec (motive_1:=λx g _=>lc M' w x g) (motive_2:=λx g _=>lL M' w x g) (motive_3:=λx g _=>lM M' w x g) (λx g h0 _ h2 dP=>.mk x g (h0.bU hM) dP (h2.bU hM)) (λx g h0 _ dP=>.mk x g (h0.bU hM) dP) (λx g h0 _ dP=>.mk x g (h0.bU hM) dP) h
theorem a6i{M M':Av}{w:World}{x:fq}{g:Nat→Gh}(h:lM M w x g)(hM:∀b,M' b→M b):lM M' w x g:=
  lM.rec (motive_1:=λx g _=>lc M' w x g) (motive_2:=λx g _=>lL M' w x g) (motive_3:=λx g _=>lM M' w x g) (λx g h0 _ h2 dP=>.mk x g (h0.bU hM) dP (h2.bU hM)) (λx g h0 _ dP=>.mk x g (h0.bU hM) dP) (λx g h0 _ dP=>.mk x g (h0.bU hM) dP) h
theorem a6j{M:Av}{w:World}{x:bL}{g:Nat→Gh}(h:lc M w x g):lc (λb=>M b∨w.heap.size≤b) w x g:=
  lc.rec (motive_1:=λx g _=>lc (λb=>M b∨w.heap.size≤b) w x g) (motive_2:=λx g _=>lL (λb=>M b∨w.heap.size≤b) w x g) (motive_3:=λx g _=>lM (λb=>M b∨w.heap.size≤b) w x g) (λx g h0 _ h2 dP=>.mk x g h0.fresh dP h2.fresh) (λx g h0 _ dP=>.mk x g h0.fresh dP) (λx g h0 _ dP=>.mk x g h0.fresh dP) h
theorem a6k{M:Av}{w:World}{x:fT}{g:Nat→Gh}(h:lL M w x g):lL (λb=>M b∨w.heap.size≤b) w x g:=
  lL.rec (motive_1:=λx g _=>lc (λb=>M b∨w.heap.size≤b) w x g) (motive_2:=λx g _=>lL (λb=>M b∨w.heap.size≤b) w x g) (motive_3:=λx g _=>lM (λb=>M b∨w.heap.size≤b) w x g) (λx g h0 _ h2 dP=>.mk x g h0.fresh dP h2.fresh) (λx g h0 _ dP=>.mk x g h0.fresh dP) (λx g h0 _ dP=>.mk x g h0.fresh dP) h
theorem a6l{M:Av}{w:World}{x:fq}{g:Nat→Gh}(h:lM M w x g):lM (λb=>M b∨w.heap.size≤b) w x g:=
  lM.rec (motive_1:=λx g _=>lc (λb=>M b∨w.heap.size≤b) w x g) (motive_2:=λx g _=>lL (λb=>M b∨w.heap.size≤b) w x g) (motive_3:=λx g _=>lM (λb=>M b∨w.heap.size≤b) w x g) (λx g h0 _ h2 dP=>.mk x g h0.fresh dP h2.fresh) (λx g h0 _ dP=>.mk x g h0.fresh dP) (λx g h0 _ dP=>.mk x g h0.fresh dP) h
def bG:Ty bL where
  z:=3
  enc:=RV
  bJ:=lc
  len:=λ_ _=>rfl
  one:=λ_ _=>rfl
  kp:=λh k hX=>a6d h k hX
  bU:=λh hM=>a6g h hM
  fresh:=λh=>a6j h
def jQ:Ty fT where
  z:=2
  enc:=ZU
  bJ:=lL
  len:=λ_ _=>rfl
  one:=λ_ _=>rfl
  kp:=λh k hX=>a6e h k hX
  bU:=λh hM=>a6h h hM
  fresh:=λh=>a6k h
def qR:Ty fq where
  z:=9
  enc:=RW
  bJ:=lM
  len:=λ_ _=>rfl
  one:=λ_ _=>rfl
  kp:=λh k hX=>a6f h k hX
  bU:=λh hM=>a6i h hM
  fresh:=λh=>a6l h
theorem ld{M:Av}{w:World}{x:bL}{g:Nat→Gh}(h:bG.bJ M w x g):aP jQ M w x.bt (g 0):=by
  have h:lc M w x g:=h;cases h with
  |mk _ _ h0 h1 h2=>exact⟨h0,h1⟩
theorem ZV{M:Av}{w:World}{x:bL}{g:Nat→Gh}(h:bG.bJ M w x g):aP (tI .u8) M w x.iE (g 1):=by
  have h:lc M w x g:=h;cases h with
  |mk _ _ h0 h1 h2=>exact h2
theorem ZW{M:Av}{w:World}{x:bL}{g:Nat→Gh}(k0:aP jQ M w x.bt (g 0))(k1:aP (tI .u8) M w x.iE (g 1)):bG.bJ M w x g:=(lc.mk x g k0.1 k0.2 k1:lc M w x g)
theorem s0{M:Av}{w:World}{x:fT}{g:Nat→Gh}(h:jQ.bJ M w x g):aP qR M w x.bA (g 0):=by
  have h:lL M w x g:=h;cases h with
  |mk _ _ h0 h1=>exact⟨h0,h1⟩
theorem ZX{M:Av}{w:World}{x:fT}{g:Nat→Gh}(k0:aP qR M w x.bA (g 0)):jQ.bJ M w x g:=(lL.mk x g k0.1 k0.2:lL M w x g)
theorem MS{M:Av}{w:World}{x:fq}{g:Nat→Gh}(h:qR.bJ M w x g):aP bG M w x.ae (g 0):=by
  have h:lM M w x g:=h;cases h with
  |mk _ _ h0 h1=>exact⟨h0,h1⟩
theorem a6m{M:Av}{w:World}{x:fq}{g:Nat→Gh}(k0:aP bG M w x.ae (g 0)):qR.bJ M w x g:=(lM.mk x g k0.1 k0.2:lM M w x g)
structure ct where
  an:Int
  cY:a6
  cS:Int
  Unit:a6
  mh:Bool
instance:Inhabited ct:=⟨⟨default,default,default,default,default⟩⟩
def dJ:Ty ct where
  z:=5
  enc:=λx g=>[vU x.an,vS x.cY,vI x.cS,vS x.Unit,vB x.mh]
  bJ:=λ_ _ _ _=>True
  len:=λ_ _=>rfl
  one:=λ_ _=>rfl
  kp:=λ_ _ _=>trivial
  bU:=λ_ _=>trivial
  fresh:=λ_=>trivial
def e7(x:ct):List Value:=dJ.enc x (gL [])
inductive ax where
  |mk (aX:ct) (ae:List ax)
def ax.aX:ax→ct
 | .mk x _=>x
def ax.ae:ax→List ax
 | .mk _ x=>x
instance:Inhabited ax:=⟨.mk default default⟩
def RX(x:ax)(g:Nat→Gh):List Value:=[vU x.aX.an,vS x.aX.cY,vI x.aX.cS,vS x.aX.Unit,vB x.aX.mh,.slice (g 0).a x.ae.length (g 0).c]
def e3(x:ax)(g:Nat→Gh):List Value:=RX x g
inductive um (M:Av) (w:World):ax→(Nat→Gh)→Prop
  |mk (x:ax) (g:Nat→Gh) (h0:oh 6 RX M w x.ae (g 0)) (h1:∀i (h:i<x.ae.length),um M w x.ae[i] ((g 0).s i)):um M w x g
theorem a6n{M:Av}{w w':World}{X:List Nat}{x:ax}{g:Nat→Gh}(h:um M w x g)(k:Kp X w w')(hX:∀b∈X,M b):um M w' x g:=by
  induction h with
  |mk x g h0 _h1 dP=>exact .mk x g (h0.kp k hX) dP
theorem a6o{M M':Av}{w:World}{x:ax}{g:Nat→Gh}(h:um M w x g)(hM:∀b,M' b→M b):um M' w x g:=by
  induction h with
  |mk x g h0 _h1 dP=>exact .mk x g (h0.bU hM) dP
theorem a6p{M:Av}{w:World}{x:ax}{g:Nat→Gh}(h:um M w x g):um (λb=>M b∨w.heap.size≤b) w x g:=by
  induction h with
  |mk x g h0 _h1 dP=>exact .mk x g h0.fresh dP
def aa:Ty ax where
  z:=6
  enc:=RX
  bJ:=um
  len:=λ_ _=>rfl
  one:=λ_ _=>rfl
  kp:=λh k hX=>a6n h k hX
  bU:=λh hM=>a6o h hM
  fresh:=λh=>a6p h
theorem s7{M:Av}{w:World}{x:ax}{g:Nat→Gh}(h:aa.bJ M w x g):aP aa M w x.ae (g 0):=by
  have h:um M w x g:=h;cases h with
  |mk _ _ h0 h1=>exact⟨h0,h1⟩
theorem IZ{M:Av}{w:World}{x:ax}{g:Nat→Gh}(k0:aP aa M w x.ae (g 0)):aa.bJ M w x g:=(um.mk x g k0.1 k0.2:um M w x g)
structure cR where
  bm:a6
  Value:List ax
  lN:Bool
instance:Inhabited cR:=⟨⟨default,default,default⟩⟩
def dB:Ty cR where
  z:=3
  enc:=λx g=>[vS x.bm,.slice (g 0).a x.Value.length (g 0).c,vB x.lN]
  bJ:=λM w x g=>aP aa M w x.Value (g 0)∧True
  len:=λ_ _=>rfl
  one:=λ_ _=>rfl
  kp:=λh k hX=>⟨h.1.kp k hX,trivial⟩
  bU:=λh hM=>⟨h.1.bU hM,trivial⟩
  fresh:=λh=>⟨h.1.fresh,trivial⟩
def e8(x:cR)(g:Nat→Gh):List Value:=dB.enc x g
theorem FA{M:Av}{w:World}{x:cR}{g:Nat→Gh}(h:dB.bJ M w x g):aP aa M w x.Value (g 0):=(show aP aa M w x.Value (g 0)∧True from h).1
theorem RY{M:Av}{w:World}{x:cR}{g:Nat→Gh}(h0:aP aa M w x.Value (g 0)):dB.bJ M w x g:=show aP aa M w x.Value (g 0)∧True from⟨h0,trivial⟩
inductive bu where
  |mk (an:Int) (bm:a6) (cS:Int) (aS:cR) (ae:List bu)
def bu.an:bu→Int
 | .mk x _ _ _ _=>x
def bu.bm:bu→a6
 | .mk _ x _ _ _=>x
def bu.cS:bu→Int
 | .mk _ _ x _ _=>x
def bu.aS:bu→cR
 | .mk _ _ _ x _=>x
def bu.ae:bu→List bu
 | .mk _ _ _ _ x=>x
instance:Inhabited bu:=⟨.mk default default default default default⟩
def RZ(x:bu)(g:Nat→Gh):List Value:=[vU x.an,vS x.bm,vI x.cS,vS x.aS.bm,.slice (g 0).a x.aS.Value.length (g 0).c,vB x.aS.lN,.slice (g 1).a x.ae.length (g 1).c]
def e4(x:bu)(g:Nat→Gh):List Value:=RZ x g
inductive tm (M:Av) (w:World):bu→(Nat→Gh)→Prop
  |mk (x:bu) (g:Nat→Gh) (h0:aP aa M w x.aS.Value (g 0)) (h1:oh 7 RZ M w x.ae (g 1)) (h2:∀i (h:i<x.ae.length),tm M w x.ae[i] ((g 1).s i)):tm M w x g
theorem a6q{M:Av}{w w':World}{X:List Nat}{x:bu}{g:Nat→Gh}(h:tm M w x g)(k:Kp X w w')(hX:∀b∈X,M b):tm M w' x g:=by
  induction h with
  |mk x g h0 h1 _h2 D8=>exact .mk x g (h0.kp k hX) (h1.kp k hX) D8
theorem a6r{M M':Av}{w:World}{x:bu}{g:Nat→Gh}(h:tm M w x g)(hM:∀b,M' b→M b):tm M' w x g:=by
  induction h with
  |mk x g h0 h1 _h2 D8=>exact .mk x g (h0.bU hM) (h1.bU hM) D8
theorem a6s{M:Av}{w:World}{x:bu}{g:Nat→Gh}(h:tm M w x g):tm (λb=>M b∨w.heap.size≤b) w x g:=by
  induction h with
  |mk x g h0 h1 _h2 D8=>exact .mk x g h0.fresh h1.fresh D8
def bq:Ty bu where
  z:=7
  enc:=RZ
  bJ:=tm
  len:=λ_ _=>rfl
  one:=λ_ _=>rfl
  kp:=λh k hX=>a6q h k hX
  bU:=λh hM=>a6r h hM
  fresh:=λh=>a6s h
theorem tp{M:Av}{w:World}{x:bu}{g:Nat→Gh}(h:bq.bJ M w x g):aP aa M w x.aS.Value (g 0):=by
  have h:tm M w x g:=h;cases h with
  |mk _ _ h0 h1 h2=>exact h0
theorem tq{M:Av}{w:World}{x:bu}{g:Nat→Gh}(h:bq.bJ M w x g):aP bq M w x.ae (g 1):=by
  have h:tm M w x g:=h;cases h with
  |mk _ _ h0 h1 h2=>exact⟨h1,h2⟩
theorem S5{M:Av}{w:World}{x:bu}{g:Nat→Gh}(k0:aP aa M w x.aS.Value (g 0))(k1:aP bq M w x.ae (g 1)):bq.bJ M w x g:=(tm.mk x g k0 k1.1 k1.2:tm M w x g)
inductive bB where
  |mk (an:Int) (dC:List bL) (cO:List cR) (aT:bu) (bH:List (List a6)) (bE:List bB)
def bB.an:bB→Int
 | .mk x _ _ _ _ _=>x
def bB.dC:bB→List bL
 | .mk _ x _ _ _ _=>x
def bB.cO:bB→List cR
 | .mk _ _ x _ _ _=>x
def bB.aT:bB→bu
 | .mk _ _ _ x _ _=>x
def bB.bH:bB→List (List a6)
 | .mk _ _ _ _ x _=>x
def bB.bE:bB→List bB
 | .mk _ _ _ _ _ x=>x
instance:Inhabited bB:=⟨.mk default default default default default default⟩
def S6(x:bB)(g:Nat→Gh):List Value:=[vU x.an,.slice (g 0).a x.dC.length (g 0).c,.slice (g 1).a x.cO.length (g 1).c,vU x.aT.an,vS x.aT.bm,vI x.aT.cS,vS x.aT.aS.bm,.slice (g 2).a x.aT.aS.Value.length (g 2).c,vB x.aT.aS.lN,.slice (g 3).a x.aT.ae.length (g 3).c,.slice (g 4).a x.bH.length (g 4).c,.slice (g 5).a x.bE.length (g 5).c]
def e5(x:bB)(g:Nat→Gh):List Value:=S6 x g
inductive pA (M:Av) (w:World):bB→(Nat→Gh)→Prop
  |mk (x:bB) (g:Nat→Gh) (h0:aP bG M w x.dC (g 0)) (h1:aP dB M w x.cO (g 1)) (h2:aP aa M w x.aT.aS.Value (g 2)) (h3:aP bq M w x.aT.ae (g 3)) (h4:aP (Ty.sl tS) M w x.bH (g 4)) (h5:oh 12 S6 M w x.bE (g 5)) (h6:∀i (h:i<x.bE.length),pA M w x.bE[i] ((g 5).s i)):pA M w x g
theorem a6t{M:Av}{w w':World}{X:List Nat}{x:bB}{g:Nat→Gh}(h:pA M w x g)(k:Kp X w w')(hX:∀b∈X,M b):pA M w' x g:=by
  induction h with
  |mk x g h0 h1 h2 h3 h4 h5 _h6 J0=>exact .mk x g (h0.kp k hX) (h1.kp k hX) (h2.kp k hX) (h3.kp k hX) (h4.kp k hX) (h5.kp k hX) J0
theorem a6u{M M':Av}{w:World}{x:bB}{g:Nat→Gh}(h:pA M w x g)(hM:∀b,M' b→M b):pA M' w x g:=by
  induction h with
  |mk x g h0 h1 h2 h3 h4 h5 _h6 J0=>exact .mk x g (h0.bU hM) (h1.bU hM) (h2.bU hM) (h3.bU hM) (h4.bU hM) (h5.bU hM) J0
theorem a6v{M:Av}{w:World}{x:bB}{g:Nat→Gh}(h:pA M w x g):pA (λb=>M b∨w.heap.size≤b) w x g:=by
  induction h with
  |mk x g h0 h1 h2 h3 h4 h5 _h6 J0=>exact .mk x g h0.fresh h1.fresh h2.fresh h3.fresh h4.fresh h5.fresh J0
def bM:Ty bB where
  z:=12
  enc:=S6
  bJ:=pA
  len:=λ_ _=>rfl
  one:=λ_ _=>rfl
  kp:=λh k hX=>a6t h k hX
  bU:=λh hM=>a6u h hM
  fresh:=λh=>a6v h
theorem J1{M:Av}{w:World}{x:bB}{g:Nat→Gh}(h:bM.bJ M w x g):aP bG M w x.dC (g 0):=by
  have h:pA M w x g:=h;cases h with
  |mk _ _ h0 h1 h2 h3 h4 h5 h6=>exact h0
theorem D9{M:Av}{w:World}{x:bB}{g:Nat→Gh}(h:bM.bJ M w x g):aP dB M w x.cO (g 1):=by
  have h:pA M w x g:=h;cases h with
  |mk _ _ h0 h1 h2 h3 h4 h5 h6=>exact h1
theorem xl{M:Av}{w:World}{x:bB}{g:Nat→Gh}(h:bM.bJ M w x g):aP aa M w x.aT.aS.Value (g 2):=by
  have h:pA M w x g:=h;cases h with
  |mk _ _ h0 h1 h2 h3 h4 h5 h6=>exact h2
theorem xm{M:Av}{w:World}{x:bB}{g:Nat→Gh}(h:bM.bJ M w x g):aP bq M w x.aT.ae (g 3):=by
  have h:pA M w x g:=h;cases h with
  |mk _ _ h0 h1 h2 h3 h4 h5 h6=>exact h3
theorem vE{M:Av}{w:World}{x:bB}{g:Nat→Gh}(h:bM.bJ M w x g):aP (Ty.sl tS) M w x.bH (g 4):=by
  have h:pA M w x g:=h;cases h with
  |mk _ _ h0 h1 h2 h3 h4 h5 h6=>exact h4
theorem FB{M:Av}{w:World}{x:bB}{g:Nat→Gh}(h:bM.bJ M w x g):aP bM M w x.bE (g 5):=by
  have h:pA M w x g:=h;cases h with
  |mk _ _ h0 h1 h2 h3 h4 h5 h6=>exact⟨h5,h6⟩
theorem ZY{M:Av}{w:World}{x:bB}{g:Nat→Gh}(k0:aP bG M w x.dC (g 0))(k1:aP dB M w x.cO (g 1))(k2:aP aa M w x.aT.aS.Value (g 2))(k3:aP bq M w x.aT.ae (g 3))(k4:aP (Ty.sl tS) M w x.bH (g 4))(k5:aP bM M w x.bE (g 5)):bM.bJ M w x g:=(pA.mk x g k0 k1 k2 k3 k4 k5.1 k5.2:pA M w x g)
structure tt where
  bE:List bB
instance:Inhabited tt:=⟨⟨default⟩⟩
def S7:Ty tt where
  z:=1
  enc:=λx g=>[.slice (g 0).a x.bE.length (g 0).c]
  bJ:=λM w x g=>aP bM M w x.bE (g 0)∧True
  len:=λ_ _=>rfl
  one:=λ_ _=>rfl
  kp:=λh k hX=>⟨h.1.kp k hX,trivial⟩
  bU:=λh hM=>⟨h.1.bU hM,trivial⟩
  fresh:=λh=>⟨h.1.fresh,trivial⟩
theorem a6w{M:Av}{w:World}{x:tt}{g:Nat→Gh}(h:S7.bJ M w x g):aP bM M w x.bE (g 0):=(show aP bM M w x.bE (g 0)∧True from h).1
theorem a6x{M:Av}{w:World}{x:tt}{g:Nat→Gh}(h0:aP bM M w x.bE (g 0)):S7.bJ M w x g:=show aP bM M w x.bE (g 0)∧True from⟨h0,trivial⟩
structure gg where
  pB:Int
  iF:tt
instance:Inhabited gg:=⟨⟨default,default⟩⟩
def gJ:Ty gg where
  z:=2
  enc:=λx g=>[vU x.pB,.slice (g 0).a x.iF.bE.length (g 0).c]
  bJ:=λM w x g=>aP bM M w x.iF.bE (g 0)∧True
  len:=λ_ _=>rfl
  one:=λ_ _=>rfl
  kp:=λh k hX=>⟨h.1.kp k hX,trivial⟩
  bU:=λh hM=>⟨h.1.bU hM,trivial⟩
  fresh:=λh=>⟨h.1.fresh,trivial⟩
theorem MT{M:Av}{w:World}{x:gg}{g:Nat→Gh}(h:gJ.bJ M w x g):aP bM M w x.iF.bE (g 0):=(show aP bM M w x.iF.bE (g 0)∧True from h).1
theorem ZZ{M:Av}{w:World}{x:gg}{g:Nat→Gh}(h0:aP bM M w x.iF.bE (g 0)):gJ.bJ M w x g:=show aP bM M w x.iF.bE (g 0)∧True from⟨h0,trivial⟩
structure kM where
  dd:Int
instance:Inhabited kM:=⟨⟨default⟩⟩
def a00:Ty kM where
  z:=1
  enc:=λx g=>[vI x.dd]
  bJ:=λ_ _ _ _=>True
  len:=λ_ _=>rfl
  one:=λ_ _=>rfl
  kp:=λ_ _ _=>trivial
  bU:=λ_ _=>trivial
  fresh:=λ_=>trivial
def S8(m:Nat)(s:a6):Nat→a6→Int→Option a6
 |0,_,_=>none
 |kk+1,v8,v9=>cond (decide (v9<ln s)) (Option.bind (aH (0≤v9∧v9<ln s)<|lt (cond (bQ s v9==10) (decide (0<v9)) false) λol=>aH (ol=true→0≤J (v9-1)∧J (v9-1)<ln s)<|lt (cond ol (bQ s (J (v9-1))==13) false) λnp=>cond np (some v8) (lt (cond (bQ s v9==13) true (bQ s v9==12)) λlg=>cond lg (none) (cond (bQ s v9==0) (none) (aH (ln v8+ln (jn ([bQ s v9]:List Int))≤9223372036854775807)<|some (v8++(jn ([bQ s v9]:List Int))))))) λ(z12:a6)=>S8 m s kk z12 (J (v9+1))) (some v8)
def S9(m:Nat)(s:a6):Option a6:=Option.bind (S8 m s m [] 0) λ(z5:a6)=>some z5
theorem a6y(m)(s)(r)(hm:S9 m s=some r):Rt 166 [vS s] (vS r):=by
 rw[S9]at hm;refine df (call166 _) func166 ntmps166 λM X w=>?_;refine uO [] ?_;refine uA 3 vN [] ?_;obtain⟨z5,hz,hm⟩:=ah hm;refine uK [0] [3] [vS z5] [] ?_ ?_;replace hm:=hz;refine uA 4 (vI 0) [] (aL ?_);refine iV [] [3,4] (λv8 v9=>[vS v8,vI v9]) (λ_ _=>[]) hm (λkk v8 v9 hm=>?_);rw[S8]at hm;refine az (uI [] hm ?_ ?_);intro hm;refine aq ?_;obtain⟨z12,hz,hm⟩:=ah hm;refine uK [] [3] [vS z12] [] ?_ ?_;replace hm:=hz;refine aL ?_;obtain⟨cH,hm⟩:=bX hm;refine uA 5 (vU (bQ s v9)) [kh cH] (az ?_);obtain⟨ol,yC,fm,hm⟩:=mf hm;obtain⟨np,yD,hm⟩:=bl hm;refine uI [nK (gT ol) λhg=>fm hg.1] hm ?_ ?_ (he:=by subst yC yD;kernel_rfl);intro hm;refine bn ?_;cases hm;exact te;intro hm;refine aq (az ?_);obtain⟨lg,Da,hm⟩:=bl hm;refine gf [] hm ?_ (he:=by subst Da;kernel_rfl);intro hm;refine aq (gf [] hm ?_);intro hm;refine dH (uB 2 [3,5] [0,4,40,41] [vS s,vI v9,vS v8,vU (bQ s v9)] [] ?_);refine uM [] [] [41] (oL (tI .u8) 5 (vU 0) [bQ s v9] [gL []] (λ_=>bd.cons trivial bd.nil) rfl) λtu=>?_;obtain⟨J2,hm⟩:=bX hm;intro _ _ yE hS;refine QQ 3 6 [vS (jn ([bQ s v9]:List Int))] [0,3,4] (fS [0,3,4] [vS s,vS (v8++(jn ([bQ s v9]:List Int))),vI v9]) [λwz=>∀w',Below wz.heap.size wz w'→(convert 150 9 (vK tu 1)).run prog w'=.ok (vS (jn ([bQ s v9]:List Int))) w',λ_=>ln v8+ln (jn ([bQ s v9]:List Int))≤9223372036854775807] yE (by decide) (by kernel_rfl) ⟨a4E (E:=5) (by kernel_rfl) (by kernel_rfl) (by kernel_rfl) (hS.cB 0 rfl),J2,trivial⟩ λ_ _ jR hb=>?_;replace hS:=hS.below hb;refine aN jR hS (aC (aB [] ?_));cases hm;exact te;exact jx [] hm;intro hm;refine bn ?_;cases hm;exact te;cases hm;exact uZ [] []

def Sa(m:Nat)(s:a6):Option (a6×Int):=cond (decide (4000<ln s)) (none) (Option.bind (S9 m s) λy5=>some (y5,0))
theorem a6z(m)(s)(r)(hm:Sa m s=some r):Rt 116 [vS s] (vW [vS r.1,vI r.2]):=by
 rw[Sa]at hm;refine df (call116 _) func116 ntmps116 λM X w=>?_;refine uO [] (az ?_);refine gf [] hm ?_;intro hm;refine aq ?_;obtain⟨y5,iG,hm⟩:=ah hm;cases hm;exact uY [] [kc (a6y m _ _ iG)]

def J3(s:a6)(i:Int)(x_:a6):Option Bool:=aH (decide (ln x_≤J (ln s-i))=true→0≤i∧i≤J (i+ln x_)∧J (i+ln x_)≤ln s)<|lt (cond (decide (ln x_≤J (ln s-i))) (sub s i (J (i+ln x_))==x_) false) λx4=>some x4
theorem Sb(s)(i)(x_)(r)(hm:J3 s i x_=some r):Rt 209 [vS s,vI i,vS x_] (vB r):=by
 rw[J3]at hm;refine df (call209 _) func209 ntmps209 λM X w=>?_;refine uO [] ?_;obtain⟨li,x4,mj,hm⟩:=cx hm;refine uR [0,1,2] [6] [vB x4] [nK (gT (decide (ln x_≤J (ln s-i)))) λhg=>li hg.1] ?_ (he:=by subst mj;kernel_rfl);refine aR ?_;cases hm;exact bj [] bp

def a01(m:Nat)(s:a6):Nat→Int→Option Int
 |0,_=>none
 |kk+1,v4=>Option.bind (J3 s v4 [47,42]) λy5=>cond y5 (none) (some v4)
def MU(m:Nat)(s:a6)(i:Int):Option Int:=Option.bind (a01 m s m i) λ(z3:Int)=>some z3
theorem a02(m)(s)(i)(r)(hm:MU m s i=some r):Rt 167 [vS s,vI i] (vI r):=by
 rw[MU]at hm;refine df (call167 _) func167 ntmps167 λM X w=>?_;refine uO [] ?_;obtain⟨z3,hz,hm⟩:=ah hm;refine uK [0] [1] [vI z3] [] ?_ ?_;replace hm:=hz;refine aL (ep [] [1] (λv4=>[vI v4]) (λ_=>[]) hm (λkk v4 hm=>?_));rw[a01]at hm;refine az ?_;obtain⟨y5,iG,hm⟩:=ah hm;refine uI [kc (Sb _ _ _ _ iG)] hm ?_ ?_;intro hm;refine aq (aL ?_);intro _ _ H7 hS;exact cM hm;intro hm;refine bn ?_;cases hm;exact te;cases hm;exact uZ [] []

def J4(c_:Int):Bool:=lt (cond (cond (c_==10) true (c_==9)) true (c_==32)) λx3=>x3
theorem a03(c_:Int):Rt 210 [vU c_] (vB (J4 c_)):=by
 generalize hm:J4 c_=r;rw[J4]at hm;refine df (call210 _) func210 ntmps210 λM X w=>?_;refine uO [] ?_;obtain⟨x3,iq,hm⟩:=bl hm;refine uR [0] [2] [vB x3] [] ?_ (he:=by subst iq;kernel_rfl);refine aR ?_;subst hm;exact bj [] bp

def vH(s:a6)(i:Int):Option Int:=cond (decide (i<ln s)) (aH (0≤i∧i<ln s)<|some (bQ s i)) (none)
theorem yF(s)(i)(r)(hm:vH s i=some r):Rt 254 [vS s,vI i] (vU r):=by
 rw[vH]at hm;refine df (call254 _) func254 ntmps254 λM X w=>?_;refine uO [] (az ?_);refine uI [] hm ?_ ?_;intro hm;obtain⟨Db,hm⟩:=bX hm;cases hm;exact uZ [] [kh Db];intro hm;refine aq ?_;intro _ _ H4 hS;exact cM hm

def Sc(m:Nat)(s:a6):Nat→Int→Option Int
 |0,_=>none
 |kk+1,v4=>Option.bind (vH s v4) λy5=>cond (J4 y5) (Sc m s kk (J (v4+1))) (some v4)
def Sd(m:Nat)(s:a6)(i:Int):Option Int:=Option.bind (Sc m s m i) λ(z3:Int)=>some z3
theorem a6A(m)(s)(i)(r)(hm:Sd m s i=some r):Rt 211 [vS s,vI i] (vI r):=by
 rw[Sd]at hm;refine df (call211 _) func211 ntmps211 λM X w=>?_;refine uO [] ?_;obtain⟨z3,hz,hm⟩:=ah hm;refine uK [0] [1] [vI z3] [] ?_ ?_;replace hm:=hz;refine aL (ep [] [1] (λv4=>[vI v4]) (λ_=>[]) hm (λkk v4 hm=>?_));rw[Sc]at hm;refine az ?_;obtain⟨y5,iG,hm⟩:=ah hm;refine uI [kc (yF _ _ _ iG),kc (a03 y5)] hm ?_ ?_;intro hm;exact aq (aL (fK [] hm));intro hm;refine bn ?_;cases hm;exact te;cases hm;exact uZ [] []

def MV(c_:Int):Option Int:=lt (cond (decide (65≤c_)) (decide (c_≤90)) false) λx3=>cond x3 (none) (some c_)
theorem a04(c_)(r)(hm:MV c_=some r):Rt 224 [vU c_] (vU r):=by
 rw[MV]at hm;refine df (call224 _) func224 ntmps224 λM X w=>?_;refine uO [] (az ?_);obtain⟨x3,iq,hm⟩:=bl hm;refine gf [] hm ?_ (he:=by subst iq;kernel_rfl);intro hm;refine aq ?_;cases hm;exact uZ [] []

def MW(c_:Int):Option Bool:=Option.bind (MV c_) λy3=>lt (cond (decide (97≤y3)) (decide (y3≤122)) false) λx6=>lt (cond (cond x6 true (c_==95)) true (decide (128≤c_))) λx7=>some x7
theorem a05(c_)(r)(hm:MW c_=some r):Rt 256 [vU c_] (vB r):=by
 rw[MW]at hm;refine df (call256 _) func256 ntmps256 λM X w=>?_;refine uO [] ?_;obtain⟨y3,cd,hm⟩:=ah hm;refine uA 3 (vU y3) [kc (a04 _ _ cd)] ?_;obtain⟨x6,om,x7,vM,hm⟩:=eA hm;refine uR [0,3] [2] [vB x7] [] ?_ (he:=by subst om vM;kernel_rfl);refine aR ?_;cases hm;exact bj [] bp

def J5(c_:Int):Bool:=lt (cond (decide (48≤c_)) (decide (c_≤57)) false) λx3=>x3
theorem a06(c_:Int):Rt 257 [vU c_] (vB (J5 c_)):=by
 generalize hm:J5 c_=r;rw[J5]at hm;refine df (call257 _) func257 ntmps257 λM X w=>?_;refine uO [] ?_;obtain⟨x3,iq,hm⟩:=bl hm;refine uR [0] [2] [vB x3] [] ?_ (he:=by subst iq;kernel_rfl);refine aR ?_;subst hm;exact bj [] bp

def MX(c_:Int):Option Bool:=Option.bind (MW c_) λy3=>lt (cond (cond y3 true (J5 c_)) true (c_==45)) λx4=>some x4
theorem a07(c_)(r)(hm:MX c_=some r):Rt 213 [vU c_] (vB r):=by
 rw[MX]at hm;refine df (call213 _) func213 ntmps213 λM X w=>?_;refine uO [] ?_;obtain⟨y3,cd,x4,mj,hm⟩:=iD hm;refine uR [0] [2] [vB x4] [kc (a05 _ _ cd),fv (gF y3) λhg=>a06 c_] ?_ (he:=by subst mj;kernel_rfl);refine aR ?_;cases hm;exact bj [] bp

def J6(s:a6)(i:Int):Option Bool:=Option.bind (vH s i) λy3=>Option.bind (cond (y3==92) (vH s (J (i+1))) (some default)) λy4=>some (cond (y3==92) (y4 !=10) false)
theorem Se(s)(i)(r)(hm:J6 s i=some r):Rt 214 [vS s,vI i] (vB r):=by
 rw[J6]at hm;refine df (call214 _) func214 ntmps214 λM X w=>?_;refine uO [] ?_;obtain⟨y3,cd,y4,qh,hm⟩:=pz hm;cases hm;exact uZ [] [kc (yF _ _ _ cd),fv (gT (y3==92)) λhg=>yF _ _ _ (bT (hg.1) qh)]

def Sf(s:a6)(i:Int):Option Bool:=Option.bind (vH s i) λy3=>cond (cond (y3==43) true (y3==45)) (none) (Option.bind (vH s i) λy8=>cond (y8==46) (none) (Option.bind (vH s i) λlO=>some (J5 lO)))
theorem a6B(s)(i)(r)(hm:Sf s i=some r):Rt 217 [vS s,vI i] (vB r):=by
 rw[Sf]at hm;refine df (call217 _) func217 ntmps217 λM X w=>?_;refine uO [] (az ?_);obtain⟨y3,cd,hm⟩:=ah hm;refine uA 5 (vU y3) [kc (yF _ _ _ cd)] ?_;refine rT [5] [] hm ?_;intro hm;refine aq (az ?_);obtain⟨y8,k6,hm⟩:=ah hm;refine gf [kc (yF _ _ _ k6)] hm ?_;intro hm;refine aq ?_;obtain⟨lO,Dc,hm⟩:=ah hm;cases hm;exact uZ [] [kc (yF _ _ _ Dc),kc (a06 lO)]

def MY(s:a6)(i:Int):Option Bool:=Option.bind (vH s i) λy3=>cond (y3==45) (none) (Option.bind (vH s i) λy6=>Option.bind (MW y6) λy7=>Option.bind (cond y7 (some default) (J6 s i)) λy8=>some (cond y7 true y8))
theorem a08(s)(i)(r)(hm:MY s i=some r):Rt 216 [vS s,vI i] (vB r):=by
 rw[MY]at hm;refine df (call216 _) func216 ntmps216 λM X w=>?_;refine uO [] (az ?_);obtain⟨y3,cd,hm⟩:=ah hm;refine gf [kc (yF _ _ _ cd)] hm ?_;intro hm;refine aq ?_;obtain⟨y6,gh,y7,qS,hm⟩:=pz hm;obtain⟨y8,k6,hm⟩:=ah hm;cases hm;exact uZ [] [kc (yF _ _ _ gh),kc (a05 _ _ qS),fv (gF y7) λhg=>Se _ _ _ (bF (hg.1) k6)]

def Sg(m:Nat)(s:a6):Nat→Int→a6→Option (a6×Int)
 |0,_,_=>none
 |kk+1,v5,v6=>aH (decide (v5<ln s)=true→0≤v5∧v5<ln s)<|Option.bind (cond (decide (v5<ln s)) (MX (bQ s v5)) (some default)) λy8=>cond (cond (decide (v5<ln s)) y8 false) (aH (0≤v5∧v5≤J (v5+1)∧J (v5+1)≤ln s)<|aH (ln v6+ln (sub s v5 (J (v5+1)))≤9223372036854775807)<|Sg m s kk (J (v5+1)) (v6++(sub s v5 (J (v5+1))))) (Option.bind (cond (decide (v5<ln s)) (J6 s v5) (some default)) λfU=>cond (cond (decide (v5<ln s)) fU false) (none) (some (v6,v5)))
def MZ(m:Nat)(s:a6)(i:Int):Option (a6×Int):=Sg m s m i []
theorem a09(m)(s)(i)(r)(hm:MZ m s i=some r):Rt 215 [vS s,vI i] (vW [vS r.1,vI r.2]):=by
 rw[MZ]at hm;refine df (call215 _) func215 ntmps215 λM X w=>?_;refine uO [] ?_;refine uA 6 vN [] (aL ?_);refine iV [] [1,6] (λv5 v6=>[vI v5,vS v6]) (λ_ _=>[]) hm (λkk v5 v6 hm=>?_);rw[Sg]at hm;refine aL ?_;obtain⟨Dd,y8,k6,hm⟩:=kL hm;refine uI [nK (gT (decide (v5<ln s))) λhg=>Dd hg.1,fv (gT (decide (v5<ln s))) λhg=>a07 _ _ (bT (hg.1) k6)] hm ?_ ?_;intro hm;obtain⟨dn,ml,hm⟩:=fx hm;refine uA 6 (vS (v6++(sub s v5 (J (v5+1))))) [kh dn,kh ml] ?_;exact jx [] hm;intro hm;obtain⟨fU,qT,hm⟩:=ah hm;refine gf [fv (gT (decide (v5<ln s))) λhg=>Se _ _ _ (bT (hg.1) qT)] hm ?_;intro hm;cases hm;exact uY [] []

def Sh(m:Nat)(s:a6)(i:Int):Option (ct×Int):=Option.bind (MZ m s i) λy6=>Option.bind (vH s y6.2) λy9=>cond (y9 !=40) (some (ct.mk 1 y6.1 0 [] false,y6.2)) (none)
theorem a6C(m)(s)(i)(r)(hm:Sh m s i=some r):Rt 219 [vS s,vI i] (.tuple ⟨[.agg ⟨e7 r.1⟩,vI r.2]⟩):=by
 rw[Sh]at hm;refine df (call219 _) func219 ntmps219 λM X w=>(aM ?_);refine uM [] [] [] (oA [vU 0,vN,vI 0,vN,vF]) λb1=>?_;refine uP 2 [] (aC ?_);obtain⟨y6,gh,hm⟩:=ah hm;refine uR [1] [6,7] [vS y6.1,vI y6.2] [kc (a09 m _ _ _ gh)] (az ?_);obtain⟨y9,oq,hm⟩:=ah hm;refine uI [kc (yF _ _ _ oq)] hm ?_ ?_;intro hm;refine aM (uB 3 [0,6,7] [20,21] [vG [vU 1,vS y6.1,vI 0,vN,vF],vI y6.2] [] ?_);refine uL [0] [] [20] (oS [vU 1,vS y6.1,vI 0,vN,vF] rfl rfl) ?_;refine uB 5 [21] [5] [vI y6.2] [] (aC (aR ?_));cases hm;exact bj [] (lK 0 underlying161);intro hm;refine aq (az ?_);intro _ _ lj hS;exact cM hm

def N0(c_:Int):Option Int:=cond (c_==58) (none) (cond (c_==59) (some 17) (cond (c_==44) (some 18) (cond (c_==91) (none) (cond (c_==93) (none) (cond (c_==40) (none) (cond (c_==41) (none) (cond (c_==123) (some 23) (cond (c_==125) (some 24) (none)))))))))
theorem a0a(c_)(r)(hm:N0 c_=some r):Rt 220 [vU c_] (vU r):=by
 rw[N0]at hm;refine df (call220 _) func220 ntmps220 λM X w=>?_;refine uO [] (az ?_);refine uR [0] [3] [vU c_] [] (aL ?_);refine gf [] hm ?_;intro hm;refine uI [] hm ?_ ?_;intro hm;cases hm;exact uZ [] [];intro hm;refine uI [] hm ?_ ?_;intro hm;cases hm;exact uZ [] [];intro hm;refine gf [] hm ?_;intro hm;refine gf [] hm ?_;intro hm;refine gf [] hm ?_;intro hm;refine gf [] hm ?_;intro hm;refine uI [] hm ?_ ?_;intro hm;cases hm;exact uZ [] [];intro hm;refine uJ [3] [] hm ?_ ?_;intro hm;cases hm;exact uZ [] [];intro hm;refine aq ?_;intro _ _ ll hS;exact cM hm

def Si(m:Nat)(s:a6)(i:Int):Option (ct×Int):=aH (0≤i∧i<ln s)<|cond (J4 (bQ s i)) (Option.bind (Sd m s i) λlO=>some (ct.mk 13 [] 0 [] false,lO)) (lt (cond (bQ s i==34) true (bQ s i==39)) λnp=>cond np (none) (aH (decide (J (i+1)<ln s)=true→(bQ s i==35)=true→0≤J (i+1)∧J (i+1)<ln s)<|Option.bind (cond (bQ s i==35) (cond (decide (J (i+1)<ln s)) (MX (bQ s (J (i+1)))) (some default)) (some default)) λgA=>Option.bind (cond (bQ s i==35) (cond (cond (decide (J (i+1)<ln s)) gA false) (some default) (J6 s (J (i+1)))) (some default)) λot=>lt (cond (bQ s i==35) (cond (cond (decide (J (i+1)<ln s)) gA false) true ot) false) λiX=>cond iX (none) (Option.bind (Sf s i) λbi=>cond bi (none) (Option.bind (J3 s i [45,45,62]) λiY=>cond iY (none) (Option.bind (J3 s i [60,33,45,45]) λqU=>cond qU (none) (Option.bind (cond (bQ s i==64) (MY s (J (i+1))) (some default)) λqi=>cond (cond (bQ s i==64) qi false) (Option.bind (MZ m s (J (i+1))) λkN=>some (ct.mk 3 kN.1 0 [] false,kN.2)) (Option.bind (MY s i) λou=>cond ou (Option.bind (Sh m s i) λqV=>some (qV.1,qV.2)) (Option.bind (N0 (bQ s i)) λyG=>cond (yG !=0) (Option.bind (N0 (bQ s i)) λN1=>some (ct.mk N1 [] 0 [] false,J (i+1))) (none)))))))))
theorem a6D(m)(s)(i)(r)(hm:Si m s i=some r):Rt 168 [vS s,vI i] (.tuple ⟨[.agg ⟨e7 r.1⟩,vI r.2]⟩):=by
 rw[Si]at hm;refine df (call168 _) func168 ntmps168 λM X w=>(aM ?_);refine uM [] [] [] (oA [vU 0,vN,vI 0,vN,vF]) λb1=>?_;refine uP 2 [] (aC ?_);obtain⟨qW,hm⟩:=bX hm;refine uA 6 (vU (bQ s i)) [kh qW] (az (aL ?_));refine uI [kc (a03 (bQ s i))] hm ?_ ?_;intro hm;refine aM ?_;obtain⟨lO,Dc,hm⟩:=ah hm;refine uB 4 [0,1,6] [17,20] [vG [vU 13,vN,vI 0,vN,vF],vI lO] [kc (a6A m _ _ _ Dc)] ?_;refine uL [0] [] [17] (oS [vU 13,vN,vI 0,vN,vF] rfl rfl) ?_;refine uB 6 [20] [5] [vI lO] [] (aC (aR ?_));cases hm;exact bj [] (lK 0 underlying161);intro hm;obtain⟨np,yD,hm⟩:=bl hm;refine gf [] hm ?_ (he:=by subst yD;kernel_rfl);intro hm;obtain⟨mK,gA,vR,hm⟩:=kL hm;obtain⟨ot,De,iX,tw,hm⟩:=iD hm;refine gf [nK (decide (J (i+1)<ln s)=true∧(bQ s i==35)=true∧True) λhg=>mK hg.1 hg.2.1,fv (decide (J (i+1)<ln s)=true∧(bQ s i==35)=true∧True) λhg=>a07 _ _ (bT (hg.1) (bT (hg.2.1) vR)),fv (cond (decide (J (i+1)<ln s)) gA false=false∧(bQ s i==35)=true∧True) λhg=>Se _ _ _ (bF (hg.1) (bT (hg.2.1) De))] hm ?_ (he:=by subst tw;kernel_rfl);intro hm;obtain⟨bi,vX,hm⟩:=ah hm;refine gf [kc (a6B _ _ _ vX)] hm ?_;intro hm;obtain⟨iY,Df,hm⟩:=ah hm;refine gf [kc (Sb _ _ _ _ Df)] hm ?_;intro hm;obtain⟨qU,J7,hm⟩:=ah hm;refine gf [kc (Sb _ _ _ _ J7)] hm ?_;intro hm;obtain⟨qi,Dg,hm⟩:=ah hm;refine uI [fv (gT (bQ s i==64)) λhg=>a08 _ _ _ (bT (hg.1) Dg)] hm ?_ ?_;intro hm;obtain⟨kN,N2,hm⟩:=ah hm;refine uR [0,1,6] [9,10] [vS kN.1,vI kN.2] [kc (a09 m _ _ _ N2)] (aM ?_);refine uB 3 [9,10] [110,111] [vG [vU 3,vS kN.1,vI 0,vN,vF],vI kN.2] [] ?_;refine uL [0] [] [110] (oS [vU 3,vS kN.1,vI 0,vN,vF] rfl rfl) ?_;refine uB 5 [111] [5] [vI kN.2] [] (aC (aR ?_));cases hm;exact bj [] (lK 0 underlying161);intro hm;obtain⟨ou,J8,hm⟩:=ah hm;refine uI [kc (a08 _ _ _ J8)] hm ?_ ?_;intro hm;refine aM ?_;obtain⟨qV,Sj,hm⟩:=ah hm;refine uB 5 [0,1,6] [119,120] [.agg ⟨e7 qV.1⟩,vI qV.2] [kc (a6C m _ _ _ Sj)] ?_;refine uL [0] [] [119] (oS (e7 qV.1) rfl rfl) ?_;refine uB 7 [120] [5] [vI qV.2] [] (aC (aR ?_));cases hm;exact bj [] (lK 0 underlying161);intro hm;obtain⟨yG,Sk,hm⟩:=ah hm;refine uI [kc (a0a _ _ Sk)] hm ?_ ?_;intro hm;refine aM ?_;obtain⟨N1,a6E,hm⟩:=ah hm;refine uB 5 [0,1,6] [127,129] [vG [vU N1,vN,vI 0,vN,vF],vI (J (i+1))] [kc (a0a _ _ a6E)] ?_;refine uL [0] [] [127] (oS [vU N1,vN,vI 0,vN,vF] rfl rfl) ?_;refine uB 7 [129] [5] [vI (J (i+1))] [] (aC (aR ?_));cases hm;exact bj [] (lK 0 underlying161);intro hm;refine aq ?_;intro _ _ AQ hS;exact cM hm

structure s9 where
  e0:Int
  e1:Int
instance:Inhabited s9:=⟨⟨default,default⟩⟩
def Dh:Ty s9 where
  z:=2
  enc:=λx g=>[vI x.e0,vI x.e1]
  bJ:=λ_ _ _ _=>True
  len:=λ_ _=>rfl
  one:=λ_ _=>rfl
  kp:=λ_ _ _=>trivial
  bU:=λ_ _=>trivial
  fresh:=λ_=>trivial
def N3(m:Nat)(s:a6):Nat→List ct→List s9→Int→Option ((List ct)×(List s9))
 |0,_,_,_=>none
 |kk+1,fg,bz,bY=>cond (decide (bY<ln s)) (Option.bind (Si m s bY) λfh=>aH (ln fg+ln ([fh.1]:List ct)≤137438953472)<|lt (fg++([fh.1]:List ct)) λJ9=>aH (ln bz+ln ([s9.mk bY fh.2]:List s9)≤137438953472)<|lt (bz++([s9.mk bY fh.2]:List s9)) λlm=>Option.bind (MU m s fh.2) λgW=>N3 m s kk J9 lm gW) (some (fg,bz))
def N4(m:Nat)(s:a6):Option ((List ct)×(List s9)):=Option.bind (Option.bind (MU m s 0) λy8=>N3 m s m ([]:List ct) ([]:List s9) y8) λ(z7:(List ct)×(List s9))=>some (z7.1,z7.2)
theorem a6F(M:Av)(m)(s)(r)(hm:N4 m s=some r)(w:World)(hS:S0 M [] w):Calls prog 117 ⟨[vS s]⟩ w (λe w'=>∃v,e=.returned v∧∃(aG:Gh)(dQ:Gh),v=vW [vL aG r.1,vL dQ r.2]∧SH M (ay []) w [eO 161 dJ r.1 aG,eO 256 Dh r.2 dQ] w'):=by
 rw[N4]at hm;have aJ:SH M (ay []) w [] w:=hS;generalize hX:ay []=X at aJ⊢;clear hS hX;have hS:=aJ;clear aJ;refine dZ func117 rfl ntmps117 rfl λ_ H=>?_;refine aN H hS (dm [0] [vS s] [] ?_);refine uA 4 vO [] ?_;refine uA 5 vO [] ?_;obtain⟨z7,hz,hm⟩:=ah hm;intro _ _ H6 hS;refine dh (λa' w'=>∃(ov:Gh)(pC:Gh),Fr 36 (fS [4,5] [vL ov z7.1,vL pC z7.2]) a'∧SH M X w [eO 161 dJ z7.1 ov,eO 256 Dh z7.2 pC] w') ?_ ?_;replace hm:=hz;obtain⟨y8,k6,hm⟩:=ah hm;refine aN H6 hS (uA 6 (vI y8) [kc (a02 m _ _ _ k6)] (aL ?_));refine cQ 161 dJ ?_;refine cQ 256 Dh ?_;intro _ _ uo hS;refine iP (λkk a' w'=>∃(fg:List ct)(bz:List s9)(bY:Int)(g14:Gh)(g16:Gh),N3 m s kk fg bz bY=some _∧Fr 36 (fS [0,4,5,6] [vS s,vL g14 fg,vL g16 bz,vI bY]) a'∧SH M X w [eO 256 Dh bz g16,eO 161 dJ fg g14] w') ⟨_,([]:List ct),([]:List s9),y8,Gh.nil,Gh.nil,hm,aw.aQ (ks:=[0,4,5,6]) uo (by kernel_rfl),hS⟩ ?_;clear hm uo hS;rintro kk _ _ ⟨fg,bz,bY,g14,g16,hm,H,hS⟩;cases kk with
 |zero=>exact cM hm
 |succ kk=>
  rw[N3]at hm;refine aN H hS (az (uI [] hm ?_ ?_));intro hm;refine aq (aL (aM ?_));obtain⟨fh,tA,hm⟩:=ah hm;refine uB 6 [] [19,20] [.agg ⟨e7 fh.1⟩,vI fh.2] [kc (a6D m _ _ _ tA)] ?_;refine uM [] [0,1] [] (oA [vU 0,vN,vI 0,vN,vF]) λN5=>?_;refine uL [0] [1,2] [19] (oS (e7 fh.1) rfl rfl) ?_;refine uB 9 [20] [8] [vI fh.2] [] (aC (aM ?_));refine uB 2 [4,7] [21,22] [vL g14 fg,.agg ⟨e7 fh.1⟩] [kE 0 5] ?_;refine uM [] [0,1,2] [22] (oL dJ 161 (vG [vU 0,vN,vI 0,vN,vF]) [fh.1] [gL []] (λ_=>bd.cons trivial bd.nil) rfl) λeX=>?_;obtain⟨uq,J9,a6G,hm⟩:=cx hm;refine ek [3,0] [1,2] [0,5,6,8] [vS s,vL g16 bz,vI bY,vI fh.2] (oP dJ (vG [vU 0,vN,vI 0,vN,vF]) g14 eX a6G uq rfl rfl) λnM=>?_;refine uB 8 [5,6] [24,25,28] [vL nM J9,vL g16 bz,vG [vI bY,vI fh.2]] [] ?_;refine uM [] [0,1,2,3] [28] (oL Dh 256 (vG [vI 0,vI 0]) [s9.mk bY fh.2] [gL []] (λ_=>bd.cons trivial bd.nil) rfl) λqX=>?_;obtain⟨Sm,lm,Di,hm⟩:=cx hm;refine uM [4,0] [1,2,3] [25,29] (oP Dh (vG [vI 0,vI 0]) g16 qX Di Sm rfl rfl) λAR=>?_;refine uB 12 [24,30] [4,5] [vL nM J9,vL AR lm] [] (aC (aB [0,2] ?_));obtain⟨gW,yH,hm⟩:=ah hm;refine uW [8] [6] [vI gW] [kc (a02 m _ _ _ yH)] ?_;exact λ_ _ ur hS=>⟨_,Nat.lt_succ_self _,J9,lm,gW,nM,AR,hm,aw.aQ (ks:=[0,4,5,6]) ur (by kernel_rfl),hS⟩;intro hm;refine bn ?_;cases hm;refine aB [1,0] ?_;exact λ_ _ Ja hS=>⟨g14,g16,aw.aQ (ks:=[4,5]) Ja (by kernel_rfl),hS⟩
 rintro _ _ ⟨ov,pC,H,hS⟩;refine aN H hS (dm [2,3] [vL ov z7.1,vL pC z7.2] [] (aR ?_));cases hm;exact λ_ _ tD hS=>pq tD rfl rfl rfl ⟨_,rfl,ov,pC,rfl,hS.aV [0,1] rfl⟩
theorem a6H(m)(s)(r)(hm:N4 m s=some r)(M:Av)(w:World)(hS:S0 M [] w):eV prog 117 ⟨[vS s]⟩ w (λv w'=>∃(aG:Gh)(dQ:Gh),v=vW [vL aG r.1,vL dQ r.2]∧SH M (ay []) w [eO 161 dJ r.1 aG,eO 256 Dh r.2 dQ] w'):=⟨call117 _,a6F M m s r hm w hS⟩

def Sn(m:Nat)(s:a6):Option ((List ct)×Int):=Option.bind (Sa m s) λy3=>cond (y3.2 !=0) (none) (Option.bind (N4 m y3.1) λcJ=>cond (decide (1500<ln cJ.1)) (none) (some (cJ.1,0)))
theorem a6I(m)(s)(r)(hm:Sn m s=some r):Dm 76 [vS s] [] (λ(aG:Gh)=>vW [vL aG r.1,vI r.2]) (λaG=>[eO 161 dJ r.1 aG]):=by
 rw[Sn]at hm;refine gy (call76 _) func76 ntmps76 λM X w=>?_;refine uO [] ?_;obtain⟨y3,cd,hm⟩:=ah hm;refine uR [0] [4,5] [vS y3.1,vI y3.2] [kc (a6z m _ _ cd)] (az ?_);refine gf [] hm ?_;intro hm;refine aq (aM (uB 1 [4,5] [17] [vS y3.1] [] ?_));obtain⟨cJ,nq,hm⟩:=ah hm;intro _ _ H9 hS;have hd:=hS.hand [] [] rfl rfl;refine fY [18] [] H9 rfl rfl rfl rfl (dv H9 rfl rfl (a6H m _ _ nq _ _ hd)) (λ_=>rfl) λ_ _ v mL hq=>?_;obtain⟨g11,g13,rfl,hq⟩:=hq;replace hS:=hS.join [] [] rfl rfl hq;refine aN mL hS (fQ 7 [6] [vL g11 cJ.1] [] (aC (aB [0] (az ?_))));refine gf [] hm ?_;intro hm;refine aq (uR [6] [2,3] [vL g11 cJ.1,vI 0] [] (aR ?_));cases hm;exact db g11 [0] eW

def pD(cy:Int):Int:=cond (cy==19) (20) (lt (cond (cy==21) (cy==21) (cy==2)) λ(z9:Bool)=>cond z9 (22) (cond (cy==23) (24) (0)))
theorem So(cy:Int):Rt 83 [vU cy] (vU (pD cy)):=by
 generalize hm:pD cy=r;rw[pD]at hm;refine df (call83 _) func83 ntmps83 λM X w=>?_;refine uO [] (az ?_);refine uR [0] [3] [vU cy] [] (aL ?_);refine uA 4 (vB (cy==19)) [] ?_;refine uC hm ?_ ?_;intro hm;refine uR [3,4] [2] [vU 20] [] (aR ?_);subst hm;exact bj [] bp;intro hm;obtain⟨z9,hz,hm⟩:=bl hm;refine uK [4] [6] [vB z9] [] ?_ ?_;replace hm:=hz.symm;refine uR [4] [6] [vB (cy==21)] [] ?_;refine uC hm ?_ ?_;intro hm;refine aq ?_;subst hm;exact te;intro hm;refine uV 6 (vB (cy==2)) [] ?_;subst hm;exact te;refine qL (λhc=>?c24) (λhc=>?_)
 case c24=>
  replace hm:=bT hc hm;refine uR [3,6] [2] [vU 22] [] (aR ?_);subst hm;exact bj [] bp
 replace hm:=bF hc hm;refine uJ [3,6] [] hm ?_ ?_;intro hm;refine uA 2 (vU 24) [] (aR ?_);subst hm;exact bj [] bp;intro hm;refine aq (uA 2 (vU 0) [] (aR ?_));subst hm;exact bj [] bp

def a6J(eC:(List ct)→Int→Int→Int→Option ((List ax)×Int)):Prop:=∀(a7:Gh)(M:Av)(l_:List ct)(i:Int)(mM:Int)(left:Int)(r:(List ax)×Int),eC l_ i mM left=some r→∀w,S0 M [eI dJ l_ a7] w→Calls prog 169 ⟨[vL a7 l_,vI i,vU mM,vI left]⟩ w (λe w'=>∃v,e=.returned v∧∃(aG:Gh),v=vW [vL aG r.1,vI r.2]∧SH M (ay [eI dJ l_ a7]) w [eO 163 aa r.1 aG] w')
def Sp(m:Nat)(l_:List ct)(mM:Int)(left:Int)(a0b:(List ct)→Int→Int→Int→Option ((List ax)×Int)):Nat→Int→List ax→Option (Int×(List ax))
 |0,_,_=>none
 |kk+1,v7,v8=>aH ((mM==0)=false→decide (v7<ln l_)=true→0≤v7∧v7<ln l_)<|lt (cond (decide (v7<ln l_)) (cond (mM==0) true ((gi l_ v7).an !=mM)) false) λfE=>cond fE (aH (0≤v7∧v7<ln l_)<|Option.bind (cond (pD (gi l_ v7).an !=0) (cond (left==0) (none) (Option.bind (a0b l_ (J (v7+1)) (pD (gi l_ v7).an) (J (left-1))) λqU=>cond (decide (qU.2<0)) (none) (some (qU.2,qU.1)))) (some (J (v7+1),([]:List ax)))) λ(z24:Int×(List ax))=>aH (ln v8+ln ([ax.mk (gi l_ v7) z24.2]:List ax)≤137438953472)<|lt (v8++([ax.mk (gi l_ v7) z24.2]:List ax)) λDl=>Sp m l_ mM left a0b kk z24.1 Dl) (some (v7,v8))
def N6(m:Nat):Nat→List ct→Int→Int→Int→Option ((List ax)×Int)
 |0,_,_,_,_=>none
 |k+1,l_,i,mM,left=>Option.bind (Sp m l_ mM left (N6 m k) m i ([]:List ax)) λ(z5:Int×(List ax))=>lt (if J (z5.1+1)<ln l_ then J (z5.1+1)else ln l_) λtE=>some (z5.2,tE)
theorem a6K(m:Nat):∀(k:Nat),a6J (N6 m k):=by
 intro k
 induction k with
 |zero=>intro a7 M l_ i mM left r hm;exact cM hm
 |succ k ih=>
  intro a7 M l_ i mM left r hm w hS;rw[N6]at hm;have aJ:SH M (ay [eI dJ l_ a7]) w [eI dJ l_ a7] w:=hS;generalize hX:ay [eI dJ l_ a7]=X at aJ⊢;clear hS hX;have hS:=aJ;clear aJ;refine dZ func169 rfl ntmps169 rfl λ_ H=>?_;refine aN H hS (dm [0,1,2,3] [vL a7 l_,vI i,vU mM,vI left] [] ?_);refine uA 10 vO [] ?_;obtain⟨z5,hz,hm⟩:=ah hm;refine gz [2,3] [1,10] (λ(iu:Gh)=>[vI z5.1,vL iu z5.2]) (λiu=>[eO 163 aa z5.2 iu,eI dJ l_ a7]) ?_ ?_;replace hm:=hz;refine aL (cQ 163 aa ?_);refine mI [] [1,10] (λv7 v8 g9=>[vI v7,vL g9 v8]) (λ_ v8 g9=>[eO 163 aa v8 g9,eI dJ l_ a7]) Gh.nil hm (λkk v7 v8 g9 hm=>?_);rw[Sp]at hm;refine az ?_;obtain⟨qY,fE,ox,hm⟩:=cx hm;refine uI [jZ ((mM==0)=false∧decide (v7<ln l_)=true∧True) 1 λhg=>qY hg.1 hg.2.1,mc ((mM==0)=false∧decide (v7<ln l_)=true∧True) 1 0 λhg=>qY hg.1 hg.2.1] hm ?_ ?_ (he:=by subst ox;kernel_rfl);intro hm;refine aq (aL (aM ?_));obtain⟨eY,hm⟩:=bX hm;refine uB 5 [] [34] [vG [vU (gi l_ v7).an,vS (gi l_ v7).cY,vI (gi l_ v7).cS,vS (gi l_ v7).Unit,vB (gi l_ v7).mh,vO]] [ki 1 eY,⟨some (.agg ⟨e7 (gi l_ v7)⟩),λwz=>V.bZ (ab a7.a) (ao a7.a+v7.toNat*5) (e7 (gi l_ v7)) 0 wz,λ_ hS=>(hS.im 1 rfl).eg eY 0 rfl⟩] ?_;refine uM [] [0,1] [] (oA [vU 0,vN,vI 0,vN,vF,vO]) λgB=>?_;refine uL [0] [1,2] [34] (oS [vU (gi l_ v7).an,vS (gi l_ v7).cY,vI (gi l_ v7).cS,vS (gi l_ v7).Unit,vB (gi l_ v7).mh,vO] rfl rfl) (aC ?_);refine uR [] [0,1,2,3,10,11] [vL a7 l_,vI (J (v7+1)),vU mM,vI left,vL g9 v8,vP gB] [] ?_;obtain⟨z24,hz,hm⟩:=ah hm;refine gz [] [1] (λ(xn:Gh)=>[vI z24.1]) (λxn=>[eO 163 aa z24.2 xn,eB gB [vU (gi l_ v7).an,vS (gi l_ v7).cY,vI (gi l_ v7).cS,vS (gi l_ v7).Unit,vB (gi l_ v7).mh,vL xn z24.2],eO 163 aa v8 g9,eI dJ l_ a7]) ?_ ?_;replace hm:=hz;refine uA 12 (vU (pD (gi l_ v7).an)) [kb 0 0,kc (So (gi l_ v7).an)] ?_;refine uI [] hm ?_ ?_;intro hm;refine az (gf [] hm ?_);intro hm;refine aq (aM (uB 5 [1,12] [46,47,48,50] [vL a7 l_,vI (J (v7+1)),vU (pD (gi l_ v7).an),vI (J (left-1))] [] ?_));obtain⟨qU,J7,hm⟩:=ah hm;refine uM [2] [0,1,2] [46,47,48,50] (λ_ _ k7 hd=>dv k7 rfl rfl (⟨call169 _,ih a7 _ _ _ _ _ _ J7 _ hd⟩:eV _ _ _ _ _)) λnQ=>?_;refine uB 10 [51] [52,53,54] [vL nQ qU.1,vI qU.2,vA gB 5] [] ?_;refine uL [1] [0,2,3] [52,54] (oS [vU (gi l_ v7).an,vS (gi l_ v7).cY,vI (gi l_ v7).cS,vS (gi l_ v7).Unit,vB (gi l_ v7).mh,vL nQ qU.1] rfl rfl) ?_;refine uB 12 [53] [0,1,2,3,10,11] [vL a7 l_,vI qU.2,vU mM,vI left,vL g9 v8,vP gB] [] (aC ?_);refine gf [] hm ?_;intro hm;refine aq ?_;cases hm;refine aB [1,0,2,3] ?_;exact tg nQ;intro hm;refine aq ?_;cases hm;refine cQ 163 aa ?_;exact tg Gh.nil;intro xn;refine dH (uB 2 [10,11] [57,58] [vL g9 v8,vG [vU (gi l_ v7).an,vS (gi l_ v7).cY,vI (gi l_ v7).cS,vS (gi l_ v7).Unit,vB (gi l_ v7).mh,vL xn z24.2]] [kE 1 6] ?_);refine jO [0,1,2,3] ?_;refine uM [0] [0,1,2,3] [58] (oL aa 163 (vG [vU 0,vN,vI 0,vN,vF,vO]) [ax.mk (gi l_ v7) z24.2] [gL [xn]] (λhd=>bd.cons (IZ (hd.im 0 rfl)) bd.nil) rfl) λkO=>?_;obtain⟨AU,Dl,Sq,hm⟩:=cx hm;refine uM [3,0] [1,2,4] [57,59] (oP aa (vG [vU 0,vN,vI 0,vN,vF,vO]) g9 kO Sq AU rfl rfl) λN7=>?_;refine uB 5 [60] [10] [vL N7 Dl] [] (aC (aB [0,4] ?_));exact uh N7 hm;intro hm;refine bn ?_;cases hm;exact tg g9;intro iu;obtain⟨tE,Jb,hm⟩:=bl hm;refine uR [0,1,10] [8,9] [vL iu z5.2,vI tE] [] ?_ (he:=by subst Jb;kernel_rfl);refine aB [0] (aR ?_);cases hm;exact db iu [0] eW
def a0c(m:Nat)(l_:List ct)(i:Int)(mM:Int)(left:Int):Option ((List ax)×Int):=N6 m m l_ i mM left
theorem a6L{a7:Gh}(m)(l_)(i)(mM)(left)(r)(hm:a0c m l_ i mM left=some r)(M:Av)(w:World)(hS:S0 M [eI dJ l_ a7] w):eV prog 169 ⟨[vL a7 l_,vI i,vU mM,vI left]⟩ w (λv w'=>∃(aG:Gh),v=vW [vL aG r.1,vI r.2]∧SH M (ay [eI dJ l_ a7]) w [eO 163 aa r.1 aG] w'):=⟨call169 _,a6K m m a7 M l_ i mM left r hm w hS⟩

def Sr(m:Nat)(l_:List ct):Option ((List ax)×Bool):=Option.bind (a0c m l_ 0 0 16) λy5=>some (y5.1,decide (0≤y5.2))
theorem a6M{a7:Gh}(m)(l_)(r)(hm:Sr m l_=some r):Dm 118 [vL a7 l_] [eI dJ l_ a7] (λ(aG:Gh)=>vW [vL aG r.1,vB r.2]) (λaG=>[eO 163 aa r.1 aG]):=by
 rw[Sr]at hm;refine gy (call118 _) func118 ntmps118 λM X w=>?_;refine uO [] (aM ?_);refine uB 1 [0] [7] [vL a7 l_] [] ?_;obtain⟨y5,iG,hm⟩:=ah hm;refine uQ [0] [0] [7] (a6L (a7:=a7) m _ _ _ _ _ iG) λg6=>?_;refine uB 7 [8] [4,5] [vL g6 y5.1,vI y5.2] [] (aC (aB [0] ?_));refine uR [4,5] [2,3] [vL g6 y5.1,vB (decide (0≤y5.2))] [] (aR ?_);cases hm;exact db g6 [0] eW

def a6N(eC:(List ax)→Option (List ct)):Prop:=∀(al:Gh)(M:Av)(v_:List ax)(r:List ct),eC v_=some r→∀w,S0 M [eI aa v_ al] w→Calls prog 119 ⟨[vL al v_]⟩ w (λe w'=>∃v,e=.returned v∧∃(aG:Gh),v=vL aG r∧SH M (ay [eI aa v_ al]) w [eO 161 dJ r aG] w')
def Ss(m:Nat)(v_:List ax)(a0d:(List ax)→Option (List ct)):Nat→List ct→Int→Option (List ct)
 |0,_,_=>none
 |kk+1,v9,v11=>cond (decide (v11<ln v_)) (Option.bind (aH (0≤v11∧v11<ln v_)<|aH (ln v9+ln ([(gi v_ v11).aX]:List ct)≤137438953472)<|lt (v9++([(gi v_ v11).aX]:List ct)) λFC=>lt (pD (gi v_ v11).aX.an !=0) λnr=>cond nr (Option.bind (a0d (gi v_ v11).ae) λhZ=>aH (ln FC+ln hZ≤137438953472)<|lt (FC++hZ) λJc=>aH (ln Jc+ln ([ct.mk (pD (gi v_ v11).aX.an) [] 0 [] false]:List ct)≤137438953472)<|lt (Jc++([ct.mk (pD (gi v_ v11).aX.an) [] 0 [] false]:List ct)) λxp=>some xp) (some FC)) λ(iH:List ct)=>Ss m v_ a0d kk iH (J (v11+1))) (some v9)
def N8(m:Nat):Nat→List ax→Option (List ct)
 |0,_=>none
 |k+1,v_=>Option.bind (Ss m v_ (N8 m k) m ([]:List ct) 0) λ(z5:List ct)=>some z5
theorem a6O(m:Nat):∀(k:Nat),a6N (N8 m k):=by
 intro k
 induction k with
 |zero=>intro al M v_ r hm;exact cM hm
 |succ k ih=>
  intro al M v_ r hm w hS;rw[N8]at hm;have aJ:SH M (ay [eI aa v_ al]) w [eI aa v_ al] w:=hS;generalize hX:ay [eI aa v_ al]=X at aJ⊢;clear hS hX;have hS:=aJ;clear aJ;refine dZ func119 rfl ntmps119 rfl λ_ H=>?_;refine aN H hS (dm [0] [vL al v_] [] ?_);refine uA 3 vO [] ?_;obtain⟨z5,hz,hm⟩:=ah hm;refine gz [0] [3] (λ(iZ:Gh)=>[vL iZ z5]) (λiZ=>[eO 161 dJ z5 iZ,eI aa v_ al]) ?_ ?_;replace hm:=hz;refine uA 4 (vI 0) [] (aL ?_);refine cQ 161 dJ ?_;refine mI [] [3,4] (λv9 v11 g10=>[vL g10 v9,vI v11]) (λv9 _ g10=>[eO 161 dJ v9 g10,eI aa v_ al]) Gh.nil hm (λkk v9 v11 g10 hm=>?_);rw[Ss]at hm;refine az (uI [] hm ?_ ?_);intro hm;refine aq ?_;obtain⟨iH,hz,hm⟩:=ah hm;refine gz [] [3] (λ(Jd:Gh)=>[vL Jd iH]) (λJd=>[eO 161 dJ iH Jd,eI aa v_ al]) ?_ ?_;replace hm:=hz;refine aL (aM ?_);obtain⟨iI,hm⟩:=bX hm;refine uB 6 [3] [12,17] [vL g10 v9,.agg ⟨e7 (gi v_ v11).aX⟩] [ki 1 iI,⟨some (.agg ⟨e7 (gi v_ v11).aX⟩),λwz=>V.bZ (ab al.a) (ao al.a+v11.toNat*6) (e7 (gi v_ v11).aX) 0 wz,λ_ hS=>(hS.im 1 rfl).eg iI 0 rfl⟩] ?_;refine ek [] [0,1] [0,4,12] [vL al v_,vI v11,vL g10 v9] (oL dJ 161 (vG [vU 0,vN,vI 0,vN,vF]) [(gi v_ v11).aX] [gL []] (λ_=>bd.cons trivial bd.nil) rfl) λg18=>?_;obtain⟨jc,FC,a6P,hm⟩:=cx hm;refine uM [1,0] [2] [12,18] (oP dJ (vG [vU 0,vN,vI 0,vN,vF]) g10 g18 a6P jc rfl rfl) λlp=>?_;refine uB 9 [19] [3] [vL lp FC] [] (aC (aB [0,2] ?_));refine uA 5 (vU (pD (gi v_ v11).aX.an)) [ki 1 iI,kj 1 0 iI,kc (So (gi v_ v11).aX.an)] ?_;obtain⟨nr,Dn,hm⟩:=bl hm;refine uI [] hm ?_ ?_ (he:=by subst Dn;kernel_rfl);intro hm;refine aM (uB 6 [3] [29,34] [vL lp FC,.slice (al.s v11.toNat 0).a (gi v_ v11).ae.length (al.s v11.toNat 0).c] [ki 1 iI,kj 1 5 iI] ?_);intro _ _ sa hS;replace hS:=hS.eN (s7 ((hS.im 1 rfl).el iI));obtain⟨hZ,yI,hm⟩:=ah hm;refine aN sa hS (uM [0] [0,1,2] [34] (λ_ _ sa hd=>dv sa rfl rfl (⟨call119 _,ih (al.s v11.toNat 0) _ _ _ yI _ hd⟩:eV _ _ _ _ _)) λoy=>?_);obtain⟨qZ,Jc,a6Q,hm⟩:=cx hm;refine uM [2,0] [1,3] [29,35] (oP dJ (vG [vU 0,vN,vI 0,vN,vF]) lp oy a6Q qZ rfl rfl) λlq=>?_;refine uB 9 [36] [0,3,4,5] [vL al v_,vL lq Jc,vI v11,vU (pD (gi v_ v11).aX.an)] [] (aC (aB [0,3] (dH ?_)));refine uB 3 [3,5] [37,39] [vL lq Jc,vG [vU (pD (gi v_ v11).aX.an),vN,vI 0,vN,vF]] [] ?_;refine uM [] [0,1] [39] (oL dJ 161 (vG [vU 0,vN,vI 0,vN,vF]) [ct.mk (pD (gi v_ v11).aX.an) [] 0 [] false] [gL []] (λ_=>bd.cons trivial bd.nil) rfl) λAR=>?_;obtain⟨St,xp,Je,hm⟩:=cx hm;refine uM [1,0] [2] [37,40] (oP dJ (vG [vU 0,vN,vI 0,vN,vF]) lq AR Je St rfl rfl) λov=>?_;refine uB 6 [41] [3] [vL ov xp] [] (aC (aB [0,2] ?_));cases hm;exact tg ov;intro hm;refine aq ?_;cases hm;exact tg lp;intro Jd;exact xi [] Jd hm;intro hm;refine bn ?_;cases hm;exact tg g10;intro iZ;refine aB [0] ?_;refine uR [3] [2] [vL iZ z5] [] (aR ?_);cases hm;exact db iZ [0] bp
def a0e(m:Nat)(v_:List ax):Option (List ct):=N8 m m v_
theorem a6R{al:Gh}(m)(v_)(r)(hm:a0e m v_=some r)(M:Av)(w:World)(hS:S0 M [eI aa v_ al] w):eV prog 119 ⟨[vL al v_]⟩ w (λv w'=>∃(aG:Gh),v=vL aG r∧SH M (ay [eI aa v_ al]) w [eO 161 dJ r aG] w'):=⟨call119 _,a6O m m al M v_ r hm w hS⟩

def Su(m:Nat)(l_:List ct):Option ((List ax)×Int):=cond (decide (1500<ln l_)) (none) (Option.bind (Sr m l_) λy7=>cond (!y7.2) (none) (Option.bind (a0e m y7.1) λgK=>cond (decide (1500<ln gK)) (none) (some (y7.1,0))))
theorem a6S{a7:Gh}(m)(l_)(r)(hm:Su m l_=some r):Dm 77 [vL a7 l_] [eI dJ l_ a7] (λ(aG:Gh)=>vW [vL aG r.1,vI r.2]) (λaG=>[eO 163 aa r.1 aG]):=by
 rw[Su]at hm;refine gy (call77 _) func77 ntmps77 λM X w=>?_;refine uO [] (az ?_);refine gf [] hm ?_;intro hm;refine aq (aM (uB 1 [0] [10] [vL a7 l_] [] ?_));obtain⟨y7,qS,hm⟩:=ah hm;refine uQ [0] [0] [10] (a6M (a7:=a7) m _ _ qS) λg8=>?_;refine uB 7 [11] [4,5] [vL g8 y7.1,vB y7.2] [] (aC (aB [0] (az ?_)));refine rT [5] [] hm ?_;intro hm;refine aq (az (aM (uB 1 [] [16] [vL g8 y7.1] [] ?_)));obtain⟨gK,yJ,hm⟩:=ah hm;refine aB [0] ?_;intro _ _ yK hS;have hd:=SH.a4M hS;refine fY [17,4] [(4,[],vL g8 y7.1)] yK rfl rfl rfl rfl (dv yK rfl rfl (a6R (al:=g8) m _ _ yJ _ _ hd)) (λ_=>rfl) λ_ _ v mm hq=>?_;obtain⟨g19,rfl,hq⟩:=hq;replace hS:SH M _ w [eO 161 dJ gK g19,eO 163 aa y7.1 g8] _:=SH.a4N hS hq (a4P (a4O (λ_ _ _ _ _ h=>h) _ _));refine aN mm hS (fQ 4 [4,19] [vL g8 y7.1,vB (decide (1500<ln gK))] [] (aC (aB [1] ?_)));refine D1 hm ?_;intro hm;refine aq (uR [4,19] [2,3] [vL g8 y7.1,vI 0] [] (aR ?_));cases hm;exact db g8 [0] eW

def Sv(m:Nat)(s:a6):Option ((List ax)×Int):=Option.bind (Sn m s) λy5=>cond (y5.2 !=0) (none) (Option.bind (Su m y5.1) λba=>some (ba.1,ba.2))
theorem a6T(m)(s)(r)(hm:Sv m s=some r):Dm 50 [vS s] [] (λ(aG:Gh)=>vW [vL aG r.1,vI r.2]) (λaG=>[eO 163 aa r.1 aG]):=by
 rw[Sv]at hm;refine gy (call50 _) func50 ntmps50 λM X w=>?_;refine uO [] (aM ?_);refine uB 1 [0] [7] [vS s] [] ?_;obtain⟨y5,iG,hm⟩:=ah hm;refine uQ [] [] [7] (a6I m _ _ iG) λg6=>?_;refine uB 7 [8] [4,5] [vL g6 y5.1,vI y5.2] [] (aC (az ?_));refine gf [] hm ?_;intro hm;refine aq (aM (uB 1 [4,5] [14] [vL g6 y5.1] [] ?_));refine jO [0] ?_;obtain⟨ba,oz,hm⟩:=ah hm;refine uQ [0] [0] [14] (a6S (a7:=g6) m _ _ oz) λg17=>?_;refine uB 6 [15] [2,3] [vL g17 ba.1,vI ba.2] [] (aC (aB [0] (aR ?_)));cases hm;exact db g17 [0] eW

def N9(k_:Int)(top:Bool):Bool:=lt (cond (k_==13) true (cond top (cond (k_==14) true (k_==15)) false)) λx3=>x3
theorem a6U(k_:Int)(top:Bool):Rt 120 [vU k_,vB top] (vB (N9 k_ top)):=by
 generalize hm:N9 k_ top=r;rw[N9]at hm;refine df (call120 _) func120 ntmps120 λM X w=>?_;refine uO [] ?_;obtain⟨x3,iq,hm⟩:=bl hm;refine uR [0,1] [4] [vB x3] [] ?_ (he:=by subst iq;kernel_rfl);refine aR ?_;subst hm;exact bj [] bp

structure oC where
  At:a6
  jd:List ax
  lr:List ax
  FD:Bool
instance:Inhabited oC:=⟨⟨default,default,default,default⟩⟩
def p7:Ty oC where
  z:=4
  enc:=λx g=>[vS x.At,.slice (g 0).a x.jd.length (g 0).c,.slice (g 1).a x.lr.length (g 1).c,vB x.FD]
  bJ:=λM w x g=>aP aa M w x.jd (g 0)∧aP aa M w x.lr (g 1)∧True
  len:=λ_ _=>rfl
  one:=λ_ _=>rfl
  kp:=λh k hX=>⟨h.1.kp k hX,h.2.1.kp k hX,trivial⟩
  bU:=λh hM=>⟨h.1.bU hM,h.2.1.bU hM,trivial⟩
  fresh:=λh=>⟨h.1.fresh,h.2.1.fresh,trivial⟩
def xq(x:oC)(g:Nat→Gh):List Value:=p7.enc x g
theorem a6V{M:Av}{w:World}{x:oC}{g:Nat→Gh}(h:p7.bJ M w x g):aP aa M w x.jd (g 0):=(show aP aa M w x.jd (g 0)∧aP aa M w x.lr (g 1)∧True from h).1
theorem a0f{M:Av}{w:World}{x:oC}{g:Nat→Gh}(h:p7.bJ M w x g):aP aa M w x.lr (g 1):=(show aP aa M w x.jd (g 0)∧aP aa M w x.lr (g 1)∧True from h).2.1
theorem a6W{M:Av}{w:World}{x:oC}{g:Nat→Gh}(h0:aP aa M w x.jd (g 0))(h1:aP aa M w x.lr (g 1)):p7.bJ M w x g:=show aP aa M w x.jd (g 0)∧aP aa M w x.lr (g 1)∧True from⟨h0,h1,trivial⟩
def Sw(m:Nat)(v_:List ax)(v11:Int):Nat→Int→Option Int
 |0,_=>none
 |kk+1,cV=>aH (decide (cV<ln v_)=true→0≤cV∧cV<ln v_)<|lt (cond (decide (cV<ln v_)) ((gi v_ cV).aX.an !=23) false) λmn=>aH ((!((gi v_ v11).aX.an==3))=false→mn=true→0≤cV∧cV<ln v_)<|lt (cond mn (cond (!((gi v_ v11).aX.an==3)) true ((gi v_ cV).aX.an !=17)) false) λoD=>cond oD (Sw m v_ v11 kk (J (cV+1))) (some cV)
def Na(m:Nat)(v_:List ax)(top:Bool):Nat→List oC→Int→Option (List oC)
 |0,_,_=>none
 |kk+1,v9,v11=>cond (decide (v11<ln v_)) (aH (0≤v11∧v11<ln v_)<|lt (N9 (gi v_ v11).aX.an top) λpE=>cond pE (Na m v_ top kk v9 (J (v11+1))) (Option.bind (cond ((gi v_ v11).aX.an==3) (some (J (v11+1),(gi v_ v11).aX.cY)) (some (v11,[]))) λ(z25:Int×a6)=>Option.bind (Sw m v_ v11 m z25.1) λ(z37:Int)=>aH (0≤z25.1∧z25.1≤z37∧z37≤ln v_)<|lt (ff v_ z25.1 z37) λiJ=>Option.bind (aH (decide (z37<ln v_)=true→0≤z37∧z37<ln v_)<|lt (cond (decide (z37<ln v_)) ((gi v_ z37).aX.an==23) false) λyL=>cond yL (aH (0≤z37∧z37<ln v_)<|some ((gi v_ z37).ae,true)) (some (([]:List ax),false))) λ(gX:(List ax)×Bool)=>aH (ln v9+ln ([oC.mk z25.2 iJ gX.1 gX.2]:List oC)≤137438953472)<|lt (v9++([oC.mk z25.2 iJ gX.1 gX.2]:List oC)) λxr=>Na m v_ top kk xr (J (z37+1)))) (some v9)
def Sx(m:Nat)(v_:List ax)(top:Bool):Option (List oC):=Option.bind (Na m v_ top m ([]:List oC) 0) λ(z5:List oC)=>some z5
theorem a6X{al:Gh}(m)(v_)(top)(r)(hm:Sx m v_ top=some r):Dm 78 [vL al v_,vB top] [eI aa v_ al] (λ(aG:Gh)=>vL aG r) (λaG=>[eO 145 p7 r aG]):=by
 rw[Sx]at hm;refine gy (call78 _) func78 ntmps78 λM X w=>?_;refine uO [] ?_;refine uA 5 vO [] ?_;obtain⟨z5,hz,hm⟩:=ah hm;refine gz [0,1] [5] (λ(FE:Gh)=>[vL FE z5]) (λFE=>[eO 145 p7 z5 FE,eI aa v_ al]) ?_ ?_;replace hm:=hz;refine uA 6 (vI 0) [] (aL ?_);refine cQ 145 p7 ?_;refine mI [] [5,6] (λv9 v11 g10=>[vL g10 v9,vI v11]) (λv9 _ g10=>[eO 145 p7 v9 g10,eI aa v_ al]) Gh.nil hm (λkk v9 v11 g10 hm=>?_);rw[Na]at hm;refine az (uI [] hm ?_ ?_);intro hm;refine aq (aL (az ?_));obtain⟨eY,pE,Dp,hm⟩:=cx hm;refine uI [ki 1 eY,kj 1 0 eY,kc (a6U (gi v_ v11).aX.an top)] hm ?_ ?_ (he:=by subst Dp;kernel_rfl);intro hm;refine uA 6 (vI (J (v11+1))) [] ?_;refine bn ?_;exact uh g10 hm;intro hm;refine aq (aM (uM [] [0,1] [] (oA [vN,vO,vO,vF]) λk8=>(aC ?_)));refine uR [] [7,8] [vP k8,vB ((gi v_ v11).aX.an==3)] [ki 2 eY,kj 2 0 eY] ?_;obtain⟨z25,hz,hm⟩:=ah hm;refine uK [] [0,1,5,7,8,6] [vL al v_,vB top,vL g10 v9,vP k8,vB ((gi v_ v11).aX.an==3),vI z25.1] [eB k8 [vS z25.2,vO,vO,vF],eO 145 p7 v9 g10,eI aa v_ al] ?_ ?_;replace hm:=hz;refine uI [] hm ?_ ?_;intro hm;refine aM (uB 7 [] [37,38] [vS (gi v_ v11).aX.cY,vP k8] [ki 2 eY,kj 2 1 eY] ?_);refine uL [0] [1,2] [37,38] (oS [vS (gi v_ v11).aX.cY,vO,vO,vF] rfl rfl) (aC ?_);refine uV 6 (vI (J (v11+1))) [] ?_;cases hm;exact te;intro hm;refine aq ?_;cases hm;exact te;refine uA 9 (vI z25.1) [] ?_;obtain⟨z37,hz,hm⟩:=ah hm;refine uK [8] [6] [vI z37] [eB k8 [vS z25.2,vO,vO,vF],eO 145 p7 v9 g10,eI aa v_ al] ?_ ?_;replace hm:=hz;refine aL (ep [] [6] (λcV=>[vI cV]) (λ_=>[eB k8 [vS z25.2,vO,vO,vF],eO 145 p7 v9 g10,eI aa v_ al]) hm (λkk cV hm=>?_));rw[Sw]at hm;refine az ?_;obtain⟨pF,mn,vY,hm⟩:=cx hm;obtain⟨pG,oD,Dq,hm⟩:=cx hm;refine uI [jZ (gT (decide (cV<ln v_))) 2 λhg=>pF hg.1,mc (gT (decide (cV<ln v_))) 2 0 λhg=>pF hg.1,jZ ((!((gi v_ v11).aX.an==3))=false∧mn=true∧True) 2 λhg=>pG hg.1 hg.2.1,mc ((!((gi v_ v11).aX.an==3))=false∧mn=true∧True) 2 0 λhg=>pG hg.1 hg.2.1] hm ?_ ?_ (he:=by subst vY Dq;kernel_rfl);intro hm;exact aq (aL (fK [] hm));intro hm;refine bn ?_;cases hm;exact te;refine aM (uB 3 [9] [70,71,72] [vL al v_,vI z25.1,vI z37] [] ?_);obtain⟨Dr,iJ,Sy,hm⟩:=cx hm;refine uM [2] [0,1,2] [70,71,72] (λ_ _ Ds hd=>tf (T:=aa) (E:=163) (g:=al) (q:=v_) z25.1 z37 (.some (vI z25.1)) (.some (vI z37)) Ds hd (hd.im 0 rfl) rfl rfl rfl rfl rfl rfl (.inr ⟨_,rfl⟩) (.inr ⟨_,rfl⟩) (by kernel_rfl) (by kernel_rfl) Dr) λjS=>?_;rw[←Sy];refine uB 5 [] [73,74] [vL jS iJ,vA k8 1] [] ?_;refine uL [2] [0,1,3,4] [73,74] (oS [vS z25.2,vL jS iJ,vO,vF] rfl rfl) (aC (aB [0,1,2,3] ?_));obtain⟨gX,hz,hm⟩:=ah hm;refine gz [] [0,1,5,6,7] (λ(nu:Gh)=>[vL al v_,vB top,vL g10 v9,vI z37,vP k8]) (λnu=>[eI aa gX.1 nu,eB k8 [vS z25.2,vL jS iJ,vL nu gX.1,vB gX.2],eI aa iJ jS,eI aa v_ al,eO 145 p7 v9 g10]) ?_ ?_;replace hm:=hz;obtain⟨FF,yL,Jf,hm⟩:=cx hm;refine uI [jZ (gT (decide (z37<ln v_))) 2 λhg=>FF hg.1,mc (gT (decide (z37<ln v_))) 2 0 λhg=>FF hg.1] hm ?_ ?_ (he:=by subst Jf;kernel_rfl);intro hm;refine dH ?_;obtain⟨Jg,hm⟩:=bX hm;refine uB 6 [] [92,93] [.slice (al.s z37.toNat 0).a (gi v_ z37).ae.length (al.s z37.toNat 0).c,vA k8 2] [ki 2 Jg,kj 2 5 Jg] ?_;refine uL [0] [1,2,3] [92,93] (oS [vS z25.2,vL jS iJ,.slice (al.s z37.toNat 0).a (gi v_ z37).ae.length (al.s z37.toNat 0).c,vF] rfl rfl) ?_;refine uB 8 [] [94] [vA k8 3] [] ?_;refine uL [0] [1,2,3] [94] (oS [vS z25.2,vL jS iJ,.slice (al.s z37.toNat 0).a (gi v_ z37).ae.length (al.s z37.toNat 0).c,vT] rfl rfl) (aC ?_);cases hm;intro _ _ H74 hS;replace hS:=hS.eN (s7 ((hS.im 2 rfl).el Jg));exact⟨al.s z37.toNat 0,aw.aQ (ks:=[0,1,5,6,7]) H74 (by kernel_rfl),hS⟩;intro hm;refine aq ?_;cases hm;refine cQ 163 aa ?_;refine jO [0,1,2,3,4] ?_;exact tg Gh.nil;intro nu;refine uA 6 (vI (J (z37+1))) [] (dH ?_);refine uB 2 [5,7] [97,98] [vL g10 v9,vG [vS z25.2,vL jS iJ,vL nu gX.1,vB gX.2]] [kE 1 4] ?_;refine uM [2,0] [0,1,2,3,4] [98] (oL p7 145 (vG [vN,vO,vO,vF]) [oC.mk z25.2 iJ gX.1 gX.2] [gL [jS,nu]] (λhd=>bd.cons (a6W (hd.im 0 rfl) (hd.im 1 rfl)) bd.nil) rfl) λus=>?_;obtain⟨a6Y,xr,Nb,hm⟩:=cx hm;refine uM [5,0] [1,2,3,4] [97,99] (oP p7 (vG [vN,vO,vO,vF]) g10 us Nb a6Y rfl rfl) λg92=>?_;refine uB 5 [100] [5] [vL g92 xr] [] (aC (aB [0,5] ?_));exact uh g92 hm;intro hm;refine bn ?_;cases hm;exact tg g10;intro FE;refine aB [0] ?_;refine uR [5] [4] [vL FE z5] [] (aR ?_);cases hm;exact db FE [0] bp

structure vZ where
  dz:Int
  has:Bool
instance:Inhabited vZ:=⟨⟨default,default⟩⟩
def aiq:Ty vZ where
  z:=2
  enc:=λx g=>[vI x.dz,vB x.has]
  bJ:=λ_ _ _ _=>True
  len:=λ_ _=>rfl
  one:=λ_ _=>rfl
  kp:=λ_ _ _=>trivial
  bU:=λ_ _=>trivial
  fresh:=λ_=>trivial
def Nc(m:Nat)(v_:List ax)(cy:Int):Nat→List (List ax)→Int→Option (List (List ax))
 |0,_,_=>none
 |kk+1,v12,aO=>cond (decide (aO<ln v_)) (Option.bind (aH (0≤aO∧aO<ln v_)<|cond ((gi v_ aO).aX.an==cy) (aH (ln v12+ln ([[]]:List (List ax))≤137438953472)<|some (v12++([[]]:List (List ax)))) (aH (0≤J (ln v12-1)∧J (ln v12-1)<ln v12)<|aH (ln (gi v12 (J (ln v12-1)))+ln ([gi v_ aO]:List ax)≤137438953472)<|some (bO v12 (J (ln v12-1)) (gi v12 (J (ln v12-1))++[gi v_ aO])))) λ(fy:List (List ax))=>Nc m v_ cy kk fy (J (aO+1))) (some v12)
def FG(m:Nat)(v_:List ax)(cy:Int):Option (List (List ax)):=Option.bind (Nc m v_ cy m ([[]]:List (List ax)) 0) λ(z9:List (List ax))=>some z9
theorem Nd{al:Gh}(m)(v_)(cy)(r)(hm:FG m v_ cy=some r):Dm 172 [vL al v_,vU cy] [eI aa v_ al] (λ(aG:Gh)=>vL aG r) (λaG=>[eO 61 (Ty.sl aa) r aG]):=by
 rw[FG]at hm;refine gy (call172 _) func172 ntmps172 λM X w=>?_;refine dm [0,1] [vL al v_,vU cy] [] (aM ?_);refine ek [] [0] [0,1] [vL al v_,vU cy] (oL (kH ax) 61 vO [([],Gh.nil)] [gL []] (λ_=>bd.cons trivial bd.nil) rfl) λg3=>?_;refine fQ 2 [0,1,5] [vL al v_,vU cy,vK g3 1] [] (aC ?_);obtain⟨z9,hz,hm⟩:=ah hm;refine Zc [5] (λ(nw:Gh)=>[vL nw z9]) (λnw=>[eO 61 (Ty.sl aa) z9 nw,eI aa v_ al]) ?_ ?_
 ·replace hm:=hz;refine dm [0,1,5,6] [vL al v_,vU cy,vK g3 1,vI 0] [] (aL ?_);intro _ _ lj hS;refine iP (λkk a' w'=>∃(qs:List (Hd ax))(aO:Int)(g13:Gh),Nc m v_ cy kk (qs.map (·.1)) aO=some _∧Fr 64 (fS [0,1,5,6] [vL al v_,vU cy,vL g13 qs,vI aO]) a'∧SH M X w [eO 61 (kH ax) qs g13,a8.nL 163 aa qs,eI aa v_ al] w') ⟨_,[([],Gh.nil)],0,g3,hm,aw.aQ (ks:=[0,1,5,6]) lj (by kernel_rfl),(hS.a5t (E:=163) (T:=aa)).perm (List.Perm.swap _ _ _)⟩ ?_;clear hm lj hS;rintro kk _ _ ⟨qs,aO,g13,hm,H,hS⟩;cases kk with
  |zero=>exact cM hm
  |succ kk=>
   rw[Nc,a5v]at hm;refine aN H hS (az (dm [0,1,5,6,11] [vL al v_,vU cy,vL g13 qs,vI aO,vB (decide (aO<ln v_))] [] ?_));refine D0 hm (λhm=>?_) (λhm=>?c51)
   case c51=>
    refine bn ?_;obtain rfl:=cA hm;intro _ _ H hS;refine⟨_,aw.aQ (ks:=[5]) H ?_,hS.a5D⟩;show aQ _ _=some [(5,[],Value.slice g13.a (qs.map (·.1)).length g13.c)];rw[List.length_map];rfl
   refine aq ?_;obtain⟨fy,hz,hm⟩:=ah hm;refine Zc [0,1,6,5] (λ(p:{p:List (Hd ax)×Gh // p.1.map (·.1)=fy})=>[vL al v_,vU cy,vI aO,.slice p.1.2.a p.1.1.length p.1.2.c]) (λp=>[eO 61 (kH ax) p.1.1 p.1.2,a8.nL 163 aa p.1.1,eI aa v_ al]) ?_ ?_
   ·replace hm:=hz;refine aL ?_;obtain⟨kP,hm⟩:=bX hm;refine dm [0,1,5,6,21] [vL al v_,vU cy,vL g13 qs,vI aO,vB ((gi v_ aO).aX.an==cy)] [ki 2 kP,kj 2 0 kP] ?_;refine D0 hm (λhm=>?c46) (λhm=>?_)
    case c46=>
     refine dH (fQ 1 [0,1,6,22] [vL al v_,vU cy,vI aO,vL g13 qs] [] ?_);refine ek [] [0,1,2] [0,1,6,22] [vL al v_,vU cy,vI aO,vL g13 qs] (oL (kH ax) 61 vO [([],Gh.nil)] [gL []] (λ_=>bd.cons trivial bd.nil) rfl) λg23=>?_;obtain⟨sb,hm⟩:=bX hm;obtain rfl:=cA hm;refine ek [1,0] [2,3] [0,1,6] [vL al v_,vU cy,vI aO] (λ_ _ k9 hd=>CV (T:=kH ax) (zv:=vO) (g1:=g13) (g2:=g23) (l1:=qs) (l2:=([([],Gh.nil)]:List (Hd ax))) (qs++[([],Gh.nil)]) rfl k9 hd rfl rfl rfl rfl rfl rfl rfl (by kernel_rfl) (by kernel_rfl) rfl rfl sb) λbK=>?_;refine fQ 4 [0,1,5,6] [vL al v_,vU cy,.slice bK.a (qs++[([],Gh.nil)]).length bK.c,vI aO] [] (aC (aB [0,2,3] ?_));exact λ_ _ H hS=>⟨⟨(qs++[([],Gh.nil)],bK),by simp⟩,aw.aQ (ks:=[0,1,6,5]) H (by kernel_rfl),(hS.perm (List.Perm.swap _ _ _)).a5u.perm (List.Perm.swap _ _ _)⟩
    obtain⟨sc,hm⟩:=bX hm;rw[a5w sc]at hm;obtain⟨MQ,hm⟩:=bX hm;obtain rfl:=cA hm;refine a5G [0,1,5,6] [vL al v_,vU cy,vL g13 qs,vI aO] λc=>?_;refine qL (t:=c) (λ_=>?c8) (λ_=>?_)
    case c8=>
     generalize hq:(gi qs (J (ln qs-1))).1++[ax.mk (ct.mk 0 [] 0 [] false) []]=q0;intro _ _ kd hS;refine qM (base:=fS [0,1,5,6] [vL al v_,vU cy,vL g13 qs,vI aO]) (L:=[eO 61 (kH ax) qs g13,a8.nL 163 aa qs,eI aa v_ al]) 19 3 (λy=>[vL g13 qs,vL g13 qs,vI (ln qs),vI (J (ln qs-1)),vL g13 qs,vL g13 qs,vI (ln qs),vI (J (ln qs-1)),.pointer (some ⟨ab g13.a,ao g13.a+(J (ln qs-1)).toNat*1,none⟩),.slice (gi qs (J (ln qs-1))).2.a (gi qs (J (ln qs-1))).1.length (gi qs (J (ln qs-1))).2.c,vL al v_,vI aO,.pointer (some ⟨ab al.a,ao al.a+aO.toNat*6,none⟩),.agg ⟨e3 (gi v_ aO) (al.s aO.toNat)⟩,vI (ln (gi qs (J (ln qs-1))).1),vK (y 15 0) 1,.slice (y 16 0).a q0.length (y 16 0).c,.pointer (some ⟨ab g13.a,ao g13.a+(J (ln qs-1)).toNat*1,none⟩),undef]) (λy=>[[],[],[],[],[],[],[],[],[],[],[],[],[],[],[],[eO 163 aa ([ax.mk (ct.mk 0 [] 0 [] false) []]:List ax) (y 15 0)],[a8.nL 163 aa (bO qs (J (ln qs-1)) (q0,y 16 0)),eO 163 aa ([ax.mk (ct.mk 0 [] 0 [] false) []]:List ax) (y 15 0)],[],[eO 61 (kH ax) (bO qs (J (ln qs-1)) (q0,y 16 0)) (Gh.mk g13.a g13.c (y 18 0).s)]]) [[],[],[],[],[],[],[],[],[19],[19],[],[],[21],[21],[],[],[20,15],[19],[19]] [[],[],[],[],[],[],[],[],[],[],[],[],[],[],[],[],[20,15],[],[19]] [[0],[1],[1,2],[1,2,3],[4],[5],[5,6],[5,6,7],[4,5,6,7,8],[4,5,6,7,8,9],[10],[11],[10,11,12],[10,11,12,13],[4,5,6,7,8,9,14],[15],[4,5,6,7,8,9,15,16],[0,1,2,3,17],[0,1,2,3,4,5,6,7,8,9,10,11,12,13,14,15,16,17,18]] [] (aw.aQ (ks:=[0,1,5,6]) kd (by kernel_rfl)) (λ_ _ h=>by cases h) (by kernel_rfl) hS (by kernel_rfl) rfl rfl (by kernel_rfl) (by kernel_rfl) (by kernel_rfl) (nj (by kernel_rfl) _ _) ?a6Z λ_ a71 y ke hv hS=>?hK8
     case a6Z=>
      refine⟨bw,bw,bw,bw,bw,bw,bw,bw,se (λ_ _=>[⟨none,λwz=>dR g13.a∧0≤J (ln qs-1)∧J (ln qs-1)<ln qs,λ_ hS=>(hS.cB 0 rfl).iB sc⟩]),se (λ_ _=>[⟨some (.slice (gi qs (J (ln qs-1))).2.a (gi qs (J (ln qs-1))).1.length (gi qs (J (ln qs-1))).2.c),λwz=>V.c9 ⟨ab g13.a,ao g13.a+(J (ln qs-1)).toNat*1+0,none⟩ (.slice (gi qs (J (ln qs-1))).2.a (gi qs (J (ln qs-1))).1.length (gi qs (J (ln qs-1))).2.c) wz,λ_ hS=>(hS.cB 0 rfl).c9 sc 0 rfl⟩]),bw,bw,se (λ_ _=>[⟨none,λwz=>dR al.a∧0≤aO∧aO<ln v_,λ_ hS=>(hS.im 0 rfl).iB kP⟩]),se (λ_ _=>[⟨some (.agg ⟨e3 (gi v_ aO) (al.s aO.toNat)⟩),λwz=>V.bZ (ab al.a) (ao al.a+aO.toNat*6) (e3 (gi v_ aO) (al.s aO.toNat)) 0 wz,λ_ hS=>(hS.im 0 rfl).eg kP 0 rfl⟩]),bw,?_,?_,se (λ_ _=>[⟨none,λwz=>dR g13.a∧0≤J (ln qs-1)∧J (ln qs-1)<ln qs,λ_ hS=>(hS.cB 0 rfl).iB sc⟩]),?_,trivial⟩
      ·intro o ho a w y M Hb hv hO hS;obtain rfl:=cA ho;have hd:=hS.hand [] [] rfl rfl;refine bh.mono (Ms (T:=aa) (E:=163) (zv:=vG [vU 0,vN,vI 0,vN,vF,vO]) [vU 0,vN,vI 0,vN,vF,vO] ([ax.mk (ct.mk 0 [] 0 [] false) []]:List ax) [gL [Gh.nil]] _ Hb hd rfl (by kernel_rfl) (by kernel_rfl) (by kernel_rfl) (by kernel_rfl) (by kernel_rfl) (by kernel_rfl) (by kernel_rfl) rfl (bd.cons (IZ aP.nil) bd.nil)) ?_;rintro v w2 hq;obtain⟨qj,rfl,hq⟩:=hq;replace hS:=hS.join [] [] rfl rfl hq;exact⟨gL [qj],λ_ _=>rfl,hS.aV [0] rfl⟩
      ·intro o ho a w y M Hb hv hO hS;obtain rfl:=cA ho;have H:=((Hb).add (hv 9 (by decide) (by decide) 36 rfl)).add (hv 15 (by decide) (by decide) 42 rfl);have hd:=hS.hand [0,1] [] rfl rfl;refine bh.mono (ZB (T:=aa) (zv:=vG [vU 0,vN,vI 0,vN,vF,vO]) sc q0 hq H hd rfl rfl rfl rfl rfl rfl rfl rfl (by kernel_rfl) (by kernel_rfl) rfl MQ) ?_;rintro v w2 hq;obtain⟨bK,rfl,hq⟩:=hq;replace hS:=hS.join [0,1] [] rfl rfl hq;exact⟨gL [bK],λ_ _=>rfl,hS.aV [0,1] rfl⟩
      ·intro o ho a w y M Hb hv hO hS;obtain rfl:=cA ho;have H:=((Hb).add (hv 17 (by decide) (by decide) 44 rfl)).add (hv 16 (by decide) (by decide) 43 rfl);have hd:=hS.hand [0] [] rfl rfl;refine bh.mono (Aw (T:=kH ax) (g:=g13) (q:=qs) (ix:=J (ln qs-1)) (off:=0) ((q0,y 16 0):Hd ax) (gL []) H hd rfl rfl rfl rfl (by kernel_rfl) rfl rfl sc rfl trivial rfl) ?_;rintro v w2 hq;obtain⟨Sz,hq⟩:=hq;replace hS:=hS.join [0] [] rfl rfl hq;exact⟨gL [Gh.mk none 0 Sz],(λ_ h=>by cases h),hS.aV [0] rfl⟩
     have H:Fr 64 (fS [43,41,40,0,1,5,6] [.slice (y 16 0).a q0.length (y 16 0).c,vI (ln (gi qs (J (ln qs-1))).1),.agg ⟨e3 (gi v_ aO) (al.s aO.toNat)⟩,vL al v_,vU cy,vL g13 qs,vI aO]) _:=(((aw.aQ (ks:=[0,1,5,6]) ke (by kernel_rfl)).add (hv 13 40 rfl)).add (hv 14 41 rfl)).add (hv 16 43 rfl);have hS:SH M X w [a8.nL 163 aa (bO qs (J (ln qs-1)) (q0,y 16 0)),eO 61 (kH ax) (bO qs (J (ln qs-1)) (q0,y 16 0)) (Gh.mk g13.a g13.c (y 18 0).s),eI aa v_ al] _:=hS.aV [0,2,3] rfl;clear hv ke;generalize y 16 0=gq at H hS;generalize(y 18 0).s=sq at hS;have hk:0≤J (ln qs-1)∧J (ln qs-1)<ln (bO qs (J (ln qs-1)) (q0,gq)):=by unfold ln at sc⊢;rw[th];exact sc
     replace hS:=hS.a5A hk;rw[a5x sc]at hS;have Ax:0≤ln (gi qs (J (ln qs-1))).1∧ln (gi qs (J (ln qs-1))).1<ln q0:=⟨Int.natCast_nonneg _,Int.ofNat_lt.2 (by rw[←hq];simp)⟩;refine aN H hS (dH (fQ 1 [0,1,5,6,40,45] [vL al v_,vU cy,vL g13 qs,vI aO,.agg ⟨e3 (gi v_ aO) (al.s aO.toNat)⟩,.pointer (some ⟨ab gq.a,ao gq.a+(ln (gi qs (J (ln qs-1))).1).toNat*6,none⟩)] [kI 0 Ax] ?_));intro _ _ H hS;have hd:=hS.hand [0,3] [1,2,3] rfl rfl;refine ud [0,1,6,5] (fS [0,1,6,5] [vL al v_,vU cy,vI aO,vL g13 qs]) H rfl rfl rfl (Aw (T:=aa) (g:=gq) (q:=q0) (ix:=ln (gi qs (J (ln qs-1))).1) (off:=0) (gi v_ aO) (al.s aO.toNat) H hd rfl rfl rfl rfl (by kernel_rfl) rfl rfl Ax rfl ((hd.im 1 rfl).el kP) rfl) rfl λ_ _ AV yy=>?_;obtain⟨_,s,yy⟩:=yy;have vC:=(hS.join [0,3] [1,2,3] rfl rfl yy).a5B (qs:=bO qs (J (ln qs-1)) (q0,gq)) hk;refine aN AV vC (aC ?_);have hq1:bO q0 (ln (gi qs (J (ln qs-1))).1) (gi v_ aO)=(gi qs (J (ln qs-1))).1++[gi v_ aO]:=by rw[←hq];exact a5y
     rw[hq1];intro _ _ H hS;have hS3:=SH.a5C (a5z (p:=(q0,gq)) (p':=((gi qs (J (ln qs-1))).1++[gi v_ aO],Gh.mk gq.a gq.c s)) (by show Value.slice gq.a ((gi qs (J (ln qs-1))).1++[gi v_ aO]).length gq.c=Value.slice gq.a q0.length gq.c;rw[←hq];simp)) (hS.perm (List.Perm.swap _ _ _));exact⟨⟨(bO (bO qs (J (ln qs-1)) (q0,gq)) (J (ln qs-1)) ((gi qs (J (ln qs-1))).1++[gi v_ aO],Gh.mk gq.a gq.c s),Gh.mk g13.a g13.c sq),by rw[Zz,←Zy]⟩,aw.aQ (ks:=[0,1,6,5]) H (by show aQ _ _=some (fz [0,1,6,5] [vL al v_,vU cy,vI aO,.slice g13.a (bO (bO qs (J (ln qs-1)) (q0,gq)) (J (ln qs-1)) ((gi qs (J (ln qs-1))).1++[gi v_ aO],Gh.mk gq.a gq.c s)).length g13.c]);rw[th,th];kernel_rfl),hS3⟩
    generalize hq:(gi qs (J (ln qs-1))).1++[gi v_ aO]=q;intro _ _ kd hS;refine D3 (base:=fS [0,1,5,6] [vL al v_,vU cy,vL g13 qs,vI aO]) (L:=[eO 61 (kH ax) qs g13,a8.nL 163 aa qs,eI aa v_ al]) 18 3 (λy=>[vL g13 qs,vL g13 qs,vI (ln qs),vI (J (ln qs-1)),vL g13 qs,vL g13 qs,vI (ln qs),vI (J (ln qs-1)),.pointer (some ⟨ab g13.a,ao g13.a+(J (ln qs-1)).toNat*1,none⟩),.slice (gi qs (J (ln qs-1))).2.a (gi qs (J (ln qs-1))).1.length (gi qs (J (ln qs-1))).2.c,vL al v_,vI aO,.pointer (some ⟨ab al.a,ao al.a+aO.toNat*6,none⟩),.agg ⟨e3 (gi v_ aO) (al.s aO.toNat)⟩,vK (y 14 0) 1,.slice (y 15 0).a q.length (y 15 0).c,.pointer (some ⟨ab g13.a,ao g13.a+(J (ln qs-1)).toNat*1,none⟩),undef]) (λy=>[[],[],[],[],[],[],[],[],[],[],[],[],[],[],[eO 163 aa ([gi v_ aO]:List ax) (y 14 0)],[a8.nL 163 aa (bO qs (J (ln qs-1)) (q,y 15 0)),eO 163 aa ([gi v_ aO]:List ax) (y 14 0)],[],[eO 61 (kH ax) (bO qs (J (ln qs-1)) (q,y 15 0)) (Gh.mk g13.a g13.c (y 17 0).s)]]) [[],[],[],[],[],[],[],[],[18],[18],[],[],[20],[20],[20],[19,14],[18],[18]] [[],[],[],[],[],[],[],[],[],[],[],[],[],[],[],[19,14],[],[18]] [[0],[1],[1,2],[1,2,3],[4],[5],[5,6],[5,6,7],[4,5,6,7,8],[4,5,6,7,8,9],[10],[11],[10,11,12],[10,11,12,13],[10,11,12,13,14],[4,5,6,7,8,9,10,11,12,13,14,15],[0,1,2,3,4,5,6,7,8,9,10,11,12,13,14,15,16],[0,1,2,3,4,5,6,7,8,9,10,11,12,13,14,15,16,17]] [] (aw.aQ (ks:=[0,1,5,6]) kd (by kernel_rfl)) (λ_ _ h=>by cases h) (by kernel_rfl) hS (by kernel_rfl) rfl rfl (by kernel_rfl) (by kernel_rfl) (by kernel_rfl) (nj (by kernel_rfl) _ _) ?IJ λ_ a71 y ke hv hS=>?hK
    case IJ=>
     refine⟨bw,bw,bw,bw,bw,bw,bw,bw,se (λ_ _=>[⟨none,λwz=>dR g13.a∧0≤J (ln qs-1)∧J (ln qs-1)<ln qs,λ_ hS=>(hS.cB 0 rfl).iB sc⟩]),se (λ_ _=>[⟨some (.slice (gi qs (J (ln qs-1))).2.a (gi qs (J (ln qs-1))).1.length (gi qs (J (ln qs-1))).2.c),λwz=>V.c9 ⟨ab g13.a,ao g13.a+(J (ln qs-1)).toNat*1+0,none⟩ (.slice (gi qs (J (ln qs-1))).2.a (gi qs (J (ln qs-1))).1.length (gi qs (J (ln qs-1))).2.c) wz,λ_ hS=>(hS.cB 0 rfl).c9 sc 0 rfl⟩]),bw,bw,se (λ_ _=>[⟨none,λwz=>dR al.a∧0≤aO∧aO<ln v_,λ_ hS=>(hS.im 0 rfl).iB kP⟩]),se (λ_ _=>[⟨some (.agg ⟨e3 (gi v_ aO) (al.s aO.toNat)⟩),λwz=>V.bZ (ab al.a) (ao al.a+aO.toNat*6) (e3 (gi v_ aO) (al.s aO.toNat)) 0 wz,λ_ hS=>(hS.im 0 rfl).eg kP 0 rfl⟩]),?_,?_,se (λ_ _=>[⟨none,λwz=>dR g13.a∧0≤J (ln qs-1)∧J (ln qs-1)<ln qs,λ_ hS=>(hS.cB 0 rfl).iB sc⟩]),?_,trivial⟩
     ·intro o ho a w y M Hb hv hO hS;obtain rfl:=cA ho;have H:=(Hb).add (hv 13 (by decide) (by decide) 59 rfl);have hd:=hS.hand [0] [0] rfl rfl;refine bh.mono (oM aa 163 (vG [vU 0,vN,vI 0,vN,vF,vO]) [gi v_ aO] [al.s aO.toNat] H hd rfl (bd.cons ((hd.im 0 rfl).el kP) bd.nil)) ?_;rintro v w2 hq;obtain⟨qj,rfl,hq⟩:=hq;replace hS:=hS.join [0] [0] rfl rfl hq;exact⟨gL [qj],λ_ _=>rfl,hS.aV [0,1] rfl⟩
     ·intro o ho a w y M Hb hv hO hS;obtain rfl:=cA ho;have H:=((Hb).add (hv 9 (by decide) (by decide) 55 rfl)).add (hv 14 (by decide) (by decide) 60 rfl);have hd:=hS.hand [0,1] [] rfl rfl;refine bh.mono (ZB (T:=aa) (zv:=vG [vU 0,vN,vI 0,vN,vF,vO]) sc q hq H hd rfl rfl rfl rfl rfl rfl rfl rfl (by kernel_rfl) (by kernel_rfl) rfl MQ) ?_;rintro v w2 hq;obtain⟨bK,rfl,hq⟩:=hq;replace hS:=hS.join [0,1] [] rfl rfl hq;exact⟨gL [bK],λ_ _=>rfl,hS.aV [0,1] rfl⟩
     ·intro o ho a w y M Hb hv hO hS;obtain rfl:=cA ho;have H:=((Hb).add (hv 16 (by decide) (by decide) 62 rfl)).add (hv 15 (by decide) (by decide) 61 rfl);have hd:=hS.hand [0] [] rfl rfl;refine bh.mono (Aw (T:=kH ax) (g:=g13) (q:=qs) (ix:=J (ln qs-1)) (off:=0) ((q,y 15 0):Hd ax) (gL []) H hd rfl rfl rfl rfl (by kernel_rfl) rfl rfl sc rfl trivial rfl) ?_;rintro v w2 hq;obtain⟨Sz,hq⟩:=hq;replace hS:=hS.join [0] [] rfl rfl hq;exact⟨gL [Gh.mk none 0 Sz],(λ_ h=>by cases h),hS.aV [0] rfl⟩
    have hS:SH M X w [eO 61 (kH ax) (bO qs (J (ln qs-1)) (q,y 15 0)) (Gh.mk g13.a g13.c (y 17 0).s),a8.nL 163 aa (bO qs (J (ln qs-1)) (q,y 15 0)),eI aa v_ al] _:=hS.aV [2,0,3] rfl;exact⟨⟨(bO qs (J (ln qs-1)) (q,y 15 0),Gh.mk g13.a g13.c (y 17 0).s),by rw[←Zy]⟩,aw.aQ (ks:=[0,1,6,5]) ke (by show aQ _ _=some (fz [0,1,6,5] [vL al v_,vU cy,vI aO,.slice g13.a (bO qs (J (ln qs-1)) (q,y 15 0)).length g13.c]);rw[th];kernel_rfl),hS⟩
   ·rintro⟨⟨qs',Dt⟩,hq⟩;refine qK [0,1,5,6] [vL al v_,vU cy,vL Dt qs',vI (J (aO+1))] [] ?_;exact λ_ _ yM hS=>⟨_,Nat.lt_succ_self _,qs',J (aO+1),Dt,hq▸hm,aw.aQ (ks:=[0,1,5,6]) yM (by kernel_rfl),hS⟩
 ·intro nw;refine aB [0] ?_;refine dm [4] [vL nw z9] [] (aR ?_);obtain rfl:=cA hm;exact db nw [0] IP
def Nf(m:Nat):Nat→List ax→Option (List ax)
 |0,_=>none
 |kk+1,v5=>aH (decide (0<ln v5)=true→0≤(0:Int)∧(0:Int)<ln v5)<|lt (cond (decide (0<ln v5)) ((gi v5 (0:Int)).aX.an==13) false) λx8=>cond x8 (aH (0≤(1:Int)∧(1:Int)≤ln v5∧ln v5≤ln v5)<|lt (ff v5 (1:Int) (ln v5)) λlP=>Nf m kk lP) (some v5)
def Ng(m:Nat):Nat→List ax→Option (List ax)
 |0,_=>none
 |kk+1,gC=>aH (decide (0<ln gC)=true→0≤J (ln gC-1)∧J (ln gC-1)<ln gC)<|lt (cond (decide (0<ln gC)) ((gi gC (J (ln gC-1))).aX.an==13) false) λr6=>cond r6 (aH (0≤(0:Int)∧(0:Int)≤J (ln gC-1)∧J (ln gC-1)≤ln gC)<|lt (ff gC (0:Int) (J (ln gC-1))) λr7=>Ng m kk r7) (some gC)
def AW(m:Nat)(v_:List ax):Option (List ax):=Option.bind (Nf m m v_) λ(z3:List ax)=>Option.bind (Ng m m z3) λ(z25:List ax)=>some z25
theorem FH{al:Gh}(m)(v_)(r)(hm:AW m v_=some r):Dm 175 [vL al v_] [eI aa v_ al] (λ(aG:Gh)=>vL aG r) (λaG=>[eI aa r aG]):=by
 rw[AW]at hm;refine gy (call175 _) func175 ntmps175 λM X w=>?_;refine uO [] ?_;obtain⟨z3,hz,hm⟩:=ah hm;refine gz [] [0] (λ(g23:Gh)=>[vL g23 z3]) (λg23=>[eI aa z3 g23,eI aa v_ al]) ?_ ?_;replace hm:=hz;refine aL ?_;intro _ _ H2 hS;replace hS:=hS.eN (hS.im 0 rfl);refine iP (λkk a' w'=>∃(v5:List ax)(g6:Gh),Nf m kk v5=some _∧Fr 36 [(0,[],vL g6 v5)] a'∧SH M X w [eI aa v5 g6,eI aa v_ al] w') ⟨_,v_,al,hm,aw.aQ (ks:=[0]) H2 (by kernel_rfl),hS⟩ ?_;clear hm H2 hS;rintro kk _ _ ⟨v5,g6,hm,H,hS⟩;cases kk with
 |zero=>exact cM hm
 |succ kk=>
  rw[Nf]at hm;refine aN H hS (az ?_);obtain⟨Dd,x8,r8,hm⟩:=cx hm;refine uI [jZ (gT (decide (0<ln v5))) 0 λhg=>Dd hg.1,mc (gT (decide (0<ln v5))) 0 0 λhg=>Dd hg.1] hm ?_ ?_ (he:=by subst r8;kernel_rfl);intro hm;refine aq (aL (dH (uB 1 [0] [14] [vL g6 v5] [] ?_)));obtain⟨cH,lP,Jh,hm⟩:=cx hm;refine uM [0] [0,1] [14] (λ_ _ oE hd=>tf (T:=aa) (E:=163) (g:=g6) (q:=v5) (1:Int) (ln v5) (.some (vI 1)) .none oE hd (hd.im 0 rfl) rfl rfl rfl rfl rfl rfl (.inr ⟨_,rfl⟩) (.inl ⟨rfl,rfl⟩) (by kernel_rfl) (by kernel_rfl) cH) λg17=>?_;rw[←Jh];refine uB 3 [15] [0] [vL g17 lP] [] (aC (aB [0,1,3] (aB [0,2] ?_)));exact λ_ _ kd hS=>⟨_,Nat.lt_succ_self _,lP,g17,hm,aw.aQ (ks:=[0]) kd (by kernel_rfl),hS⟩;intro hm;refine bn ?_;cases hm;exact tg g6
 intro g23;refine aB [0] ?_;obtain⟨z25,hz,hm⟩:=ah hm;refine gz [] [0] (λ(j0:Gh)=>[vL j0 z25]) (λj0=>[eI aa z25 j0,eI aa z3 g23]) ?_ ?_;replace hm:=hz;refine aL ?_;intro _ _ H hS;replace hS:=hS.eN (hS.im 0 rfl);refine iP (λkk a' w'=>∃(gC:List ax)(tu:Gh),Ng m kk gC=some _∧Fr 36 [(0,[],vL tu gC)] a'∧SH M X w [eI aa gC tu,eI aa z3 g23] w') ⟨_,z3,g23,hm,aw.aQ (ks:=[0]) H (by kernel_rfl),hS⟩ ?_;clear hm H hS;rintro kk _ _ ⟨gC,tu,hm,H,hS⟩;cases kk with
 |zero=>exact cM hm
 |succ kk=>
  rw[Ng]at hm;refine aN H hS (az ?_);obtain⟨pH,r6,FI,hm⟩:=cx hm;refine uI [jZ (gT (decide (0<ln gC))) 0 λhg=>pH hg.1,mc (gT (decide (0<ln gC))) 0 0 λhg=>pH hg.1] hm ?_ ?_ (he:=by subst FI;kernel_rfl);intro hm;refine aq (aL (dH (uB 4 [0] [30,33] [vL tu gC,vI (J (ln gC-1))] [] ?_)));obtain⟨w8,r7,FJ,hm⟩:=cx hm;refine uM [0] [0,1] [30,33] (λ_ _ jR hd=>tf (T:=aa) (E:=163) (g:=tu) (q:=gC) (0:Int) (J (ln gC-1)) .none (.some (vI (J (ln gC-1)))) jR hd (hd.im 0 rfl) rfl rfl rfl rfl rfl rfl (.inl ⟨rfl,rfl⟩) (.inr ⟨_,rfl⟩) (by kernel_rfl) (by kernel_rfl) w8) λoF=>?_;rw[←FJ];refine uB 6 [34] [0] [vL oF r7] [] (aC (aB [0,1,3] (aB [0,2] ?_)));exact λ_ _ Ji hS=>⟨_,Nat.lt_succ_self _,r7,oF,hm,aw.aQ (ks:=[0]) Ji (by kernel_rfl),hS⟩;intro hm;refine bn ?_;cases hm;exact tg tu
 intro j0;refine aB [0] ?_;refine uR [0] [2] [vL j0 z25] [] (aR ?_);cases hm;exact db j0 [0] bp

def w9(v_:List ax)(i:Int)(cy:Int)(s:a6):Option Bool:=lt (cond (decide (0≤i)) (decide (i<ln v_)) false) λx3=>aH (x3=true→0≤i∧i<ln v_)<|lt (cond x3 ((gi v_ i).aX.an==cy) false) λx5=>aH ((s==[])=false→x5=true→0≤i∧i<ln v_)<|lt (cond x5 (cond (s==[]) true ((gi v_ i).aX.cY==s)) false) λx7=>some x7
theorem yN{al:Gh}(v_)(i)(cy)(s)(r)(hm:w9 v_ i cy s=some r)(w)(hL:Rd [eI aa v_ al] w):Rb 291 [vL al v_,vI i,vU cy,vS s] (vB r) w:=by
 rw[w9]at hm;refine cu hL (call291 _) func291 ntmps291 λM X w=>?_;refine uO [] ?_;obtain⟨x3,iq,r9,hm⟩:=mf hm;obtain⟨x5,Du,qW,hm⟩:=mf hm;obtain⟨x7,vM,hm⟩:=bl hm;refine uR [0,1,2,3] [8] [vB x7] [jZ (gT x3) 0 λhg=>r9 hg.1,mc (gT x3) 0 0 λhg=>r9 hg.1,jZ ((s==[])=false∧x5=true∧True) 0 λhg=>qW hg.1 hg.2.1,mc ((s==[])=false∧x5=true∧True) 0 1 λhg=>qW hg.1 hg.2.1] ?_ (he:=by subst iq Du vM;kernel_rfl);refine aB [] (aR ?_);cases hm;exact bj [] bp

def SA(m:Nat)(s:a6):Nat→Int→List Int→Option (List Int)
 |0,_,_=>none
 |kk+1,aO,bz=>cond (decide (aO<ln (bD s))) (aH (0≤aO∧aO<ln (bD s))<|Option.bind (MV (gi bz aO)) λfo=>lt (wZ bz aO fo) λq24=>SA m s kk (J (aO+1)) q24) (some bz)
def AX(m:Nat)(s:a6):Option a6:=Option.bind (SA m s m 0 (bD s)) λ(cW:List Int)=>some (jn cW)
theorem FK(m)(s)(r)(hm:AX m s=some r):Rt 174 [vS s] (vS r):=by
 rw[AX]at hm;refine df (call174 _) func174 ntmps174 λM X w=>?_;refine uO [] (aM ?_);refine uB 1 [0] [5] [vS s] [] ?_;intro _ _ H4 hS;have hd:=hS.hand [] [] rfl rfl;refine fY [6] [] H4 rfl rfl rfl rfl (IA (E:=5) H4 hd rfl (by kernel_rfl) (by kernel_rfl) (by kernel_rfl)) (λ_=>rfl) λ_ _ v H8 hq=>?_;obtain⟨b5,c6,rfl,SB,hq⟩:=hq;replace hS:=hS.join [] [] rfl rfl hq;refine aN H8 hS (fQ 3 [3] [.slice (some ⟨b5,0,none⟩) (bD s).length c6] [] (aC ?_));obtain⟨cW,hz,hm⟩:=ah hm;refine uK [] [] [] [a8.row .u8 b5 cW (ln (bD s))] ?_ ?_;replace hm:=hz;refine uA 4 (vI 0) [] (aL ?_);refine iV [] [4] (λaO _=>[vI aO]) (λ_ bz=>[a8.row .u8 b5 bz (ln (bD s))]) hm (λkk aO bz hm=>?_);rw[SA]at hm;refine az (uI [] hm ?_ ?_);intro hm;refine aq (az (aL (dH ?_)));obtain⟨kP,fo,qk,hm⟩:=kL hm;refine uB 8 [] [19,20] [vU fo,.pointer (some ⟨b5,0+aO.toNat*1,none⟩)] [⟨none,λ_=>dR (some ⟨b5,0,none⟩)∧0≤aO∧aO<ln (bD s),λ_ _=>⟨rfl,kP⟩⟩,⟨some (vU (gi bz aO)),λwz=>V.c9 ⟨b5,0+aO.toNat*1,none⟩ (vU (gi bz aO)) wz,λ_ hS=>Rw.Fj (hS.rw 0 rfl) kP⟩,kc (a04 _ _ qk),⟨none,λ_=>dR (some ⟨b5,0,none⟩)∧0≤aO∧aO<ln (bD s),λ_ _=>⟨rfl,kP⟩⟩] ?_;intro _ _ qm hS;have hd:=hS.hand [0] [] rfl rfl;refine ud [3,4] (fS [3,4] [.slice (some ⟨b5,0,none⟩) (bD s).length c6,vI aO]) qm rfl rfl rfl (Mr qm hd rfl rfl (by kernel_rfl) kP) rfl λ_ _ wa hq=>?_;obtain⟨_,hq⟩:=hq;obtain⟨q24,a73,hm⟩:=bl hm;rw[←a73]at hq;replace hS:=hS.join [0] [] rfl rfl hq;refine aN wa hS (aC (qK [3,4] [.slice (some ⟨b5,0,none⟩) (bD s).length c6,vI (J (aO+1))] [] ?_));exact ug2 hm;intro hm;refine bn ?_;cases hm;exact te;intro _ _ H hS;refine Fa [vS (jn cW)] [2] [(2,[],vS (jn cW))] [λwz=>∀w',Below wz.heap.size wz w'→(convert 150 9 (.slice (some ⟨b5,0,none⟩) (bD s).length c6)).run prog w'=.ok (vS (jn cW)) w'] H (by kernel_rfl) ⟨Mh (E:=5) (by kernel_rfl) (by kernel_rfl) (by kernel_rfl) (hS.rw 0 rfl).1 (hS.rw 0 rfl).2,trivial⟩ λ_ _ AY hb=>?_;replace hS:=hS.below hb;replace hS:SH M _ w [] _:=hS.aV [] rfl;refine aN AY hS (aR ?_);cases hm;exact bj [] bp

def SC(v_:List ax)(i:Int)(p:vZ):Option (fq×Int×Bool):=Option.bind (w9 v_ i 4 []) λy9=>cond y9 (none) (Option.bind (w9 v_ i 9 [46]) λdA=>cond dA (none) (Option.bind (w9 v_ i 19 []) λdX=>cond dX (none) (Option.bind (w9 v_ i 16 []) λgK=>Option.bind (cond gK (w9 v_ (J (i+1)) 1 []) (some default)) λfo=>cond (cond gK fo false) (none) (Option.bind (w9 v_ i 16 []) λgA=>Option.bind (cond gA (w9 v_ (J (i+1)) 2 []) (some default)) λot=>cond (cond gA ot false) (none) (Option.bind (w9 v_ i 16 []) λkf=>some (fq.mk 0 [] 0 [] false (yB.mk 0 0) false ([]:List bL),i,!kf))))))
theorem a74{al:Gh}(v_)(i)(p)(r)(hm:SC v_ i p=some r):Dm 292 [vL al v_,vI i,vG [vI p.dz,vB p.has]] [eI aa v_ al] (λ(aG:Gh)=>.tuple ⟨[.agg ⟨e2 r.1 (gL [aG])⟩,vI r.2.1,vB r.2.2]⟩) (λaG=>[eO 152 bG r.1.ae aG]):=by
 rw[SC]at hm;refine gy (call292 _) func292 ntmps292 λM X w=>(aM ?_);refine uM [] [0] [2] (oB [vI p.dz,vB p.has] rfl) λb1=>?_;refine uM [] [0,1] [] (oA [vU 0,vN,vU 0,vN,vF,vI 0,vI 0,vF,vO]) λb4=>?_;refine uP 4 [] (aC (az (aL ?_)));obtain⟨y9,oq,hm⟩:=ah hm;refine gf [kr λ_ hS=>yN (al:=al) _ _ _ _ _ oq _ (aK bc (hS.im 2 rfl))] hm ?_;intro hm;obtain⟨dA,j3,hm⟩:=ah hm;refine uI [kr λ_ hS=>yN (al:=al) _ _ _ _ _ j3 _ (aK bc (hS.im 2 rfl))] hm ?_ ?_;intro hm;refine az ?_;intro _ _ kQ hS;exact cM hm;intro hm;obtain⟨dX,qn,hm⟩:=ah hm;refine gf [kr λ_ hS=>yN (al:=al) _ _ _ _ _ qn _ (aK bc (hS.im 2 rfl))] hm ?_;intro hm;obtain⟨gK,yJ,fo,qk,hm⟩:=pz hm;refine gf [kr λ_ hS=>yN (al:=al) _ _ _ _ _ yJ _ (aK bc (hS.im 2 rfl)),fw (gT gK) λ_ hS hg=>yN (al:=al) _ _ _ _ _ (bT (hg.1) qk) _ (aK bc (hS.im 2 rfl))] hm ?_;intro hm;obtain⟨gA,vR,ot,De,hm⟩:=pz hm;refine gf [kr λ_ hS=>yN (al:=al) _ _ _ _ _ vR _ (aK bc (hS.im 2 rfl)),fw (gT gA) λ_ hS hg=>yN (al:=al) _ _ _ _ _ (bT (hg.1) De) _ (aK bc (hS.im 2 rfl))] hm ?_;intro hm;refine aq (aM ?_);obtain⟨kf,Dv,hm⟩:=ah hm;refine uB 6 [0,1,5] [129,130,134] [vG [vU 0,vN,vU 0,vN,vF,vI 0,vI 0,vF,vO],vI i,vB (!kf)] [kr λ_ hS=>yN (al:=al) _ _ _ _ _ Dv _ (aK bc (hS.im 2 rfl))] ?_;refine uL [0] [1,2] [129] (oS [vU 0,vN,vU 0,vN,vF,vI 0,vI 0,vF,vO] rfl rfl) ?_;refine uB 9 [130,134] [7,8] [vI i,vB (!kf)] [] (aC (aB [0] (aR ?_)));cases hm;refine cQ 152 bG ?_;exact λ_ _ k7 hS=>Yf k7 rfl (qd rfl (hS.bk 1 rfl) underlying159 rfl (by kernel_rfl)) rfl rfl ⟨_,rfl,Gh.nil,rfl,hS.aV [0] rfl⟩

def SD(m:Nat)(s:a6):Nat→Int→Option Unit
 |0,_=>none
 |kk+1,v6=>cond (decide (v6<ln s)) (aH (0≤v6∧v6<ln s)<|cond (bQ s v6==0) (none) (SD m s kk (J (v6+1)))) (some ())
def SE(m:Nat)(s:a6)(dw:Int):Option Bool:=Option.bind (SD m s m 0) λ(z3:Unit)=>some (decide (ln s≤dw))
theorem a77(m)(s)(dw)(r)(hm:SE m s dw=some r):Rt 299 [vS s,vI dw] (vB r):=by
 rw[SE]at hm;refine df (call299 _) func299 ntmps299 λM X w=>?_;refine uO [] ?_;obtain⟨z3,hz,hm⟩:=ah hm;refine uK [] [] [] [] ?_ ?_;replace hm:=hz;refine uA 5 (vI 0) [] (aL ?_);refine ep [] [5] (λv6=>[vI v6]) (λ_=>[]) hm (λkk v6 hm=>?_);rw[SD]at hm;refine az (uI [] hm ?_ ?_);intro hm;refine aq (az (aL ?_));obtain⟨ra,hm⟩:=bX hm;refine gf [kh ra] hm ?_;intro hm;exact aq (fK [] hm);intro hm;refine bn ?_;cases hm;exact te;cases hm;exact uZ [] []

def Nh(m:Nat)(s:a6):Option Bool:=Option.bind (cond (!(s==[])) (SE m s 64) (some default)) λy3=>some (cond (!(s==[])) y3 false)
theorem a0g(m)(s)(r)(hm:Nh m s=some r):Rt 268 [vS s] (vB r):=by
 rw[Nh]at hm;refine df (call268 _) func268 ntmps268 λM X w=>?_;refine uO [] ?_;obtain⟨y3,cd,hm⟩:=ah hm;cases hm;exact uZ [] [fv (gT (!(s==[]))) λhg=>a77 m _ _ _ (bT (hg.1) cd)]

def SG(m:Nat)(s:a6):Option Bool:=Option.bind (Nh m s) λy3=>Option.bind (cond y3 (AX m s) (some default)) λy4=>some (cond y3 (s==y4) false)
theorem a78(m)(s)(r)(hm:SG m s=some r):Rt 312 [vS s] (vB r):=by
 rw[SG]at hm;refine df (call312 _) func312 ntmps312 λM X w=>?_;refine uO [] ?_;obtain⟨y3,cd,y4,qh,hm⟩:=pz hm;cases hm;exact uZ [] [kc (a0g m _ _ cd),fv (gT y3) λhg=>FK m _ _ (bT (hg.1) qh)]

def a0h(m:Nat)(c_:fT):Nat→Int→Option Unit
 |0,_=>none
 |kk+1,bI=>cond (decide (bI<ln c_.bA)) (none) (some ())
def SI(m:Nat)(c_:fT)(p:vZ):Option Bool:=lt (cond (!(c_.Tag==[])) (!(c_.Tag==[42])) false) λx9=>Option.bind (cond x9 (SG m c_.Tag) (some default)) λcJ=>lt (cond (cond x9 (!cJ) false) true (cond (c_.Tag==[]) (ln c_.bA==0) false)) λfE=>lt (cond fE true (decide (64<ln c_.bA))) λlv=>cond lv (none) (Option.bind (a0h m c_ m 0) λ(eP:Unit)=>some true)
theorem a79{aF:Gh}(m)(c_)(p)(r)(hm:SI m c_ p=some r)(w)(hL:Rd [eI qR c_.bA aF] w):Rb 293 [vG [vS c_.Tag,vL aF c_.bA],vG [vI p.dz,vB p.has]] (vB r) w:=by
 rw[SI]at hm;refine cu hL (call293 _) func293 ntmps293 λM X w=>(aM ?_);refine uM [] [0] [0] (oB [vS c_.Tag,vL aF c_.bA] rfl) λb1=>?_;refine uM [] [0,1] [1] (oB [vI p.dz,vB p.has] rfl) λb4=>?_;refine uP 3 [] (aC (az ?_));obtain⟨x9,wc,cJ,nq,hm⟩:=rZ hm;obtain⟨fE,ox,lv,tF,hm⟩:=eA hm;refine gf [kb 1 0,bP (gT (!(c_.Tag==[]))) 1 0,bP (gT x9) 1 0,fv (gT x9) λhg=>a78 m _ _ (bT (hg.1) nq),bP (gF (cond x9 (!cJ) false)) 1 0,bP ((c_.Tag==[])=true∧cond x9 (!cJ) false=false∧True) 1 1,bP (gF fE) 1 1] hm ?_ (he:=by subst wc ox tF;kernel_rfl);intro hm;refine aq ?_;obtain⟨eP,hz,hm⟩:=ah hm;refine uK [2,3] [] [] [eB b4 [vI p.dz,vB p.has],eB b1 [vS c_.Tag,vL aF c_.bA],eI qR c_.bA aF] ?_ ?_;replace hm:=hz;refine uA 5 (vI 0) [] (aL ?_);refine ep [] [5] (λbI=>[vI bI]) (λ_=>[eB b4 [vI p.dz,vB p.has],eB b1 [vS c_.Tag,vL aF c_.bA],eI qR c_.bA aF]) hm (λkk bI hm=>?_);rw[a0h]at hm;refine az (uI [kb 1 1] hm ?_ ?_);intro hm;refine aq (az (aL ?_));intro _ _ kd hS;exact cM hm;intro hm;refine bn ?_;cases hm;exact te;refine aB [] ?_;cases hm;exact uZ [] []

def a0i(m:Nat)(v_:List ax)(p:vZ)(ba:a6):Nat→Int→Option (fT×Int×Bool)
 |0,_=>none
 |kk+1,v23=>Option.bind (SC v_ v23 p) λkf=>cond (!kf.2.2) (none) (cond (kf.2.1==v23) (Option.bind (SI m (fT.mk ba []) p) λfL=>some (fT.mk ba ([]:List fq),v23,fL)) (none))
def SJ(m:Nat)(v_:List ax)(i:Int)(p:vZ):Option (fT×Int×Bool):=Option.bind (w9 v_ i 1 []) λdA=>cond dA (aH (0≤i∧i<ln v_)<|Option.bind (AX m (gi v_ i).aX.cY) λba=>a0i m v_ p ba m (J (i+1))) (none)
theorem a7a{al:Gh}(m)(v_)(i)(p)(r)(hm:SJ m v_ i p=some r):Dm 263 [vL al v_,vI i,vG [vI p.dz,vB p.has]] [eI aa v_ al] (λ(aG:Gh)=>vW [vG [vS r.1.Tag,vL aG r.1.bA],vI r.2.1,vB r.2.2]) (λaG=>[eO 159 qR r.1.bA aG]):=by
 rw[SJ]at hm;refine gy (call263 _) func263 ntmps263 λM X w=>(aM ?_);refine uM [] [0] [2] (oB [vI p.dz,vB p.has] rfl) λb1=>?_;refine uM [] [0,1] [] (oA [vN,vO]) λb4=>?_;refine uP 4 [] (aC (aM ?_));refine uM [] [0,1,2] [] (oA [vN,vO]) λb9=>aC (az ?_);obtain⟨dA,j3,hm⟩:=ah hm;refine uR [] [9,15] [vP b9,vB dA] [kr λ_ hS=>yN (al:=al) _ _ _ _ _ j3 _ (aK bc (hS.im 3 rfl))] ?_;refine Zb hm ?_;intro hm;refine aM ?_;obtain⟨iI,ba,oz,hm⟩:=kL hm;refine uB 8 [15] [22,23] [vS ba,vP b9] [ki 3 iI,kj 3 1 iI,kc (FK m _ _ oz)] ?_;refine uL [0] [1,2,3] [22,23] (oS [vS ba,vO] rfl rfl) (aC ?_);refine uW [] [0,1,5,6,9] [vL al v_,vI (J (i+1)),vP b1,vP b4,vP b9] [] (aL ?_);refine ep [] [1] (λv23=>[vI v23]) (λ_=>[eB b9 [vS ba,vO],eB b4 [vN,vO],eB b1 [vI p.dz,vB p.has],eI aa v_ al]) hm (λkk v23 hm=>?_);rw[a0i]at hm;refine aL (aM (uB 3 [] [33,34,35] [vL al v_,vI v23,vG [vI p.dz,vB p.has]] [kE 2 2] ?_));obtain⟨kf,Dv,hm⟩:=ah hm;refine uQ [3] [0,1,2,3] [33,34,35] (a74 (al:=al) _ _ _ _ Dv) λqj=>?_;refine uB 8 [36] [37,38,39] [.agg ⟨e2 kf.1 (gL [qj])⟩,vI kf.2.1,vB kf.2.2] [] ?_;refine uM [] [0,1,2,3,4] [] (oA [vU 0,vN,vU 0,vN,vF,vI 0,vI 0,vF,vO]) λSK=>?_;refine uL [0] [1,2,3,4,5] [37] (oS (e2 kf.1 (gL [qj])) rfl rfl) ?_;refine uB 12 [38,39] [0,1,5,6,9,10,11,12] [vL al v_,vI v23,vP b1,vP b4,vP b9,vP SK,vI kf.2.1,vB kf.2.2] [] (aC (az ?_));refine rT [12] [] hm ?_;intro hm;refine aq (az (uI [] hm ?_ ?_));intro hm;obtain⟨fL,Dw,hm⟩:=ah hm;intro _ _ uu hS;refine qM (base:=fS [1,5,6,9] [vI v23,vP b1,vP b4,vP b9]) (L:=[eB SK (e2 kf.1 (gL [qj])),eO 152 bG kf.1.ae qj,eB b9 [vS ba,vO],eB b4 [vN,vO],eB b1 [vI p.dz,vB p.has],eI aa v_ al]) 8 6 (λSL=>[vG [vS ba,vO],vI v23,vG [vS ba,vO],vG [vI p.dz,vB p.has],vB fL,undef,vI v23,vB fL]) (λSL=>[[],[],[],[],[],[eB b4 [vS ba,vO]],[],[]]) [[10],[],[10],[12],[],[11],[],[]] [[],[],[],[],[],[11],[],[]] [[0],[1],[2],[3],[2,3,4],[0,5],[1,6],[2,3,4,7]] [] (aw.aQ (ks:=[1,5,6,9]) uu (by kernel_rfl)) (λ_ _ h=>by cases h) (by kernel_rfl) hS (by kernel_rfl) rfl rfl (by kernel_rfl) (by kernel_rfl) (by kernel_rfl) (nj (by kernel_rfl) _ _) ?a7b λ_ _ SL xt hv hS=>?air
 case a7b=>
  refine⟨se (λ_ _=>[⟨some (vG [vS ba,vO]),rN b9 0 [vS ba,vO],λ_ hS=>(hS.bk 0 rfl).eU rfl⟩]),bw,se (λ_ _=>[⟨some (vG [vS ba,vO]),rN b9 0 [vS ba,vO],λ_ hS=>(hS.bk 0 rfl).eU rfl⟩]),se (λ_ _=>[⟨some (vG [vI p.dz,vB p.has]),rN b1 0 [vI p.dz,vB p.has],λ_ hS=>(hS.bk 0 rfl).eU rfl⟩]),se (λ_ _=>[⟨some (vB fL),rB 293 [vG [vS ba,vO],vG [vI p.dz,vB p.has]] (vB fL),λ_ _=>a79 (aF:=Gh.nil) m _ _ _ Dw _ (aK bc (aP.nil (M:=F0) (g:=Gh.nil)))⟩]),?_,bw,bw,trivial⟩;intro o ho a w SL M Hb hv hO aJ;obtain rfl:=cA ho;have H:=(Hb).add (hv 0 (by decide) (by decide) 47 rfl);have hS:=aJ;have hd:=hS.hand [0] [] rfl rfl;refine bh.mono (qe [vS ba,vO] H hd rfl rfl (by kernel_rfl) rfl rfl rfl) ?_;rintro v w2 hq;replace hS:=hS.join [0] [] rfl rfl hq;exact⟨gL [],(λ_ h=>by cases h),hS.aV [0] rfl⟩
 have uv:Fr 59 (fS [8,7,6] [vB fL,vI v23,vP b4]) _:=aw.add (aw.add (aw.aQ (ks:=[6]) xt (by kernel_rfl)) (hv 6 7 rfl)) (hv 7 8 rfl);replace hS:SH M _ w [eB b4 [vS ba,vO],eB SK (e2 kf.1 (gL [qj])),eO 152 bG kf.1.ae qj,eB b9 [vS ba,vO],eB b1 [vI p.dz,vB p.has],eI aa v_ al] _:=hS;clear hv xt;replace hS:=hS.aV [0,3,4,5] rfl;refine aN uv hS (aR ?_);cases hm;refine cQ 159 qR ?_;exact λ_ _ uv hS=>Yf uv rfl (qd rfl (hS.bk 1 rfl) underlying155 rfl (by kernel_rfl)) rfl rfl ⟨_,rfl,Gh.nil,rfl,hS.aV [0] rfl⟩;intro hm;refine aq ?_;intro _ _ uu hS;exact cM hm

def a0j(m:Nat)(p:vZ)(ed:List ax):Nat→Int→Option (bL×Bool)
 |0,_=>none
 |kk+1,v25=>Option.bind (SJ m ed v25 p) λcX=>cond (!cX.2.2) (none) (aH (ln ([]:List fT)+ln ([cX.1]:List fT)≤137438953472)<|lt (([]:List fT)++([cX.1]:List fT)) λiJ=>cond (cX.2.1==ln ed) (some (bL.mk 0 iJ ([]:List Int),decide (ln iJ≤64))) (none))
def Ni(m:Nat)(v_:List ax)(p:vZ)(gY:Bool):Option (bL×Bool):=Option.bind (AW m v_) λed=>cond gY (none) (a0j m p ed m 0)
theorem a7c{al:Gh}(M:Av)(m)(v_)(p)(gY)(r)(hm:Ni m v_ p gY=some r)(w:World)(hS:S0 M [eI aa v_ al] w):Calls prog 221 ⟨[vL al v_,vG [vI p.dz,vB p.has],vB gY]⟩ w (λe w'=>∃v,e=.returned v∧∃(aG:Gh)(dQ:Gh),v=.tuple ⟨[.agg ⟨e0 r.1 (gL [aG,dQ])⟩,vB r.2]⟩∧SH M (ay [eI aa v_ al]) w [eO 155 jQ r.1.bt aG,eO 5 (tI .u8) r.1.iE dQ] w'):=by
 rw[Ni]at hm;have aJ:SH M (ay [eI aa v_ al]) w [eI aa v_ al] w:=hS;generalize hX:ay [eI aa v_ al]=X at aJ⊢;clear hS hX;have hS:=aJ;clear aJ;refine dZ func221 rfl ntmps221 rfl λ_ H=>?_;refine aN H hS (aM (ek [] [0] [0,2] [vL al v_,vB gY] (oB [vI p.dz,vB p.has] rfl) λb1=>?_));refine uM [] [0,1] [] (oA [vU 0,vO,vO]) λb4=>?_;refine uP 3 [] (aC (aM ?_));refine uM [] [0,1,2] [] (oA [vU 0,vO,vO]) λb9=>aC (aM ?_);refine uB 1 [0] [8,15] [vP b9,vL al v_] [] ?_;obtain⟨ed,sd,hm⟩:=ah hm;refine uQ [3] [0,1,2,3] [15] (FH (al:=al) m _ _ sd) λg15=>?_;refine uB 3 [16] [0] [vL g15 ed] [] (aC (aB [0,1,2,3] ?_));refine uA 9 (vI 0) [] (az ?_);refine uR [2] [0,4,6,8,9,17] [vL g15 ed,vP b1,vP b4,vP b9,vI 0,vB gY] [] ?_;refine D1 hm ?_;intro hm;refine aq (aL (ep [17] [9] (λv25=>[vI v25]) (λ_=>[eI aa ed g15,eB b9 [vU 0,vO,vO],eB b4 [vU 0,vO,vO],eB b1 [vI p.dz,vB p.has]]) hm (λkk v25 hm=>?_)));rw[a0j]at hm;refine aL (aM (uB 3 [9] [28,29,30] [vL g15 ed,vI v25,vG [vI p.dz,vB p.has]] [kE 3 2] ?_));obtain⟨cX,tG,hm⟩:=ah hm;refine uQ [0] [0,1,2,3] [28,29,30] (a7a (al:=g15) m _ _ _ _ tG) λeZ=>?_;refine uB 8 [31] [32,33,34] [vG [vS cX.1.Tag,vL eZ cX.1.bA],vI cX.2.1,vB cX.2.2] [] ?_;refine uM [] [0,1,2,3,4] [] (oA [vN,vO]) λb35=>?_;refine uL [0] [1,2,3,4,5] [32] (oS [vS cX.1.Tag,vL eZ cX.1.bA] rfl rfl) ?_;refine uB 12 [33,34] [0,4,6,8,11,12,13] [vL g15 ed,vP b1,vP b4,vP b9,vP b35,vI cX.2.1,vB cX.2.2] [] (aC (az ?_));refine rT [13] [] hm ?_;intro hm;refine aq (aM (uB 3 [11] [39,40] [vO,vG [vS cX.1.Tag,vL eZ cX.1.bA]] [kb 3 1,kE 0 2] ?_));refine jO [1,0,2,3,4,5] ?_;refine uM [0] [0,1,2,3,4,5] [40] (oL jQ 155 (vG [vN,vO]) [cX.1] [gL [eZ]] (λhd=>bd.cons (ZX (hd.im 0 rfl)) bd.nil) rfl) λlq=>?_;refine cQ 155 jQ ?_;obtain⟨Dr,iJ,Sy,hm⟩:=cx hm;refine uM [0,1] [2,3,4,5,6,7] [39,41] (oP jQ (vG [vN,vO]) Gh.nil lq Sy Dr rfl rfl) λjS=>?_;refine uB 6 [] [42,43] [vL jS iJ,vA b9 1] [] ?_;refine uL [5] [0,1,2,3,4,6,7] [42,43] (oS [vU 0,vL jS iJ,vO] rfl rfl) (aC (aB [0,1,5,6,7] (az ?_)));refine uI [] hm ?_ ?_;intro hm;intro _ _ Dx hS;refine qM (base:=fS [6,8] [vP b4,vP b9]) (L:=[eB b9 [vU 0,vL jS iJ,vO],eO 155 jQ iJ jS,eI aa ed g15,eB b4 [vU 0,vO,vO],eB b1 [vI p.dz,vB p.has]]) 7 5 (λSM=>[vG [vU 0,vL jS iJ,vO],vA b9 1,vL jS iJ,vI (ln iJ),vB (decide (ln iJ≤64)),undef,vB (decide (ln iJ≤64))]) (λSM=>[[],[],[],[],[],[eB b4 [vU 0,vL jS iJ,vO]],[]]) [[7,8],[7,8],[7,8],[8],[],[8,10],[]] [[],[],[],[],[],[10],[]] [[0],[1],[1,2],[1,2,3],[1,2,3,4],[0,5],[1,2,3,4,6]] [] (aw.aQ (ks:=[6,8]) Dx (by kernel_rfl)) (λ_ _ h=>by cases h) (by kernel_rfl) hS (by kernel_rfl) rfl rfl (by kernel_rfl) (by kernel_rfl) (by kernel_rfl) (nj (by kernel_rfl) _ _) ?a7d λ_ _ SM tD hv hS=>?ais
 case a7d=>
  refine⟨se (λ_ _=>[⟨some (vG [vU 0,vL jS iJ,vO]),rN b9 0 [vU 0,vL jS iJ,vO],λ_ hS=>(hS.bk 0 rfl).eU rfl⟩]),bw,se (λ_ _=>[⟨some (vL jS iJ),rA b9 1 (vL jS iJ),λ_ hS=>(hS.bk 0 rfl).c9 rfl⟩]),bw,bw,?_,bw,trivial⟩;intro o ho a w SM M Hb hv hO aJ;obtain rfl:=cA ho;have H:=(Hb).add (hv 0 (by decide) (by decide) 48 rfl);have hS:=aJ;have hd:=hS.hand [1] [0] rfl rfl;refine bh.mono (qe [vU 0,vL jS iJ,vO] H hd rfl rfl (by kernel_rfl) rfl rfl rfl) ?_;rintro v w2 hq;replace hS:=hS.join [1] [0] rfl rfl hq;exact⟨gL [],(λ_ h=>by cases h),hS.aV [0,1] rfl⟩
 have xu:Fr 75 (fS [7,6] [vB (decide (ln iJ≤64)),vP b4]) _:=aw.add (aw.aQ (ks:=[6]) tD (by kernel_rfl)) (hv 6 7 rfl);replace hS:SH M _ w [eB b4 [vU 0,vL jS iJ,vO],eB b9 [vU 0,vL jS iJ,vO],eO 155 jQ iJ jS,eI aa ed g15,eB b1 [vI p.dz,vB p.has]] _:=hS;clear hv tD;refine aN xu hS (aR ?_);cases hm;refine cQ 5 (tI .u8) ?_;exact λ_ _ xu hS=>pq xu rfl (qd rfl (hS.bk 1 rfl) underlying152 rfl (by kernel_rfl)) rfl ⟨_,rfl,jS,Gh.nil,rfl,hS.aV [3,0] rfl⟩;intro hm;refine aq ?_;intro _ _ Dx hS;exact cM hm
theorem a7e{al:Gh}(m)(v_)(p)(gY)(r)(hm:Ni m v_ p gY=some r)(M:Av)(w:World)(hS:S0 M [eI aa v_ al] w):eV prog 221 ⟨[vL al v_,vG [vI p.dz,vB p.has],vB gY]⟩ w (λv w'=>∃(aG:Gh)(dQ:Gh),v=.tuple ⟨[.agg ⟨e0 r.1 (gL [aG,dQ])⟩,vB r.2]⟩∧SH M (ay [eI aa v_ al]) w [eO 155 jQ r.1.bt aG,eO 5 (tI .u8) r.1.iE dQ] w'):=⟨call221 _,a7c M m v_ p gY r hm w hS⟩

def SN(m:Nat)(p:vZ)(gY:Bool)(cJ:List (List ax)):Nat→List bL→Int→Option (List bL)
 |0,_,_=>none
 |kk+1,v21,v23=>cond (decide (v23<ln cJ)) (aH (0≤v23∧v23<ln cJ)<|Option.bind (Ni m (gi cJ v23) p gY) λdD=>cond dD.2 (aH (ln v21+ln ([dD.1]:List bL)≤137438953472)<|lt (v21++([dD.1]:List bL)) λAZ=>SN m p gY cJ kk AZ (J (v23+1))) (none)) (some v21)
def SO(m:Nat)(v_:List ax)(p:vZ)(gY:Bool)(FL:Bool):Option ((List bL)×Bool):=Option.bind (FG m v_ 18) λcJ=>Option.bind (SN m p gY cJ m ([]:List bL) 0) λ(fy:List bL)=>some (fy,true)
theorem a7f{al:Gh}(m)(v_)(p)(gY)(FL)(r)(hm:SO m v_ p gY FL=some r):Dm 170 [vL al v_,vG [vI p.dz,vB p.has],vB gY,vB FL] [eI aa v_ al] (λ(aG:Gh)=>vW [vL aG r.1,vB r.2]) (λaG=>[eO 152 bG r.1 aG]):=by
 rw[SO]at hm;refine gy (call170 _) func170 ntmps170 λM X w=>(aM ?_);refine uM [] [0] [1] (oB [vI p.dz,vB p.has] rfl) λb1=>?_;refine uP 3 [] (aC ?_);refine uA 10 vO [] (aM ?_);refine uB 1 [0] [15] [vL al v_] [] ?_;obtain⟨cJ,nq,hm⟩:=ah hm;refine uQ [1] [0,1] [15] (Nd (al:=al) m _ _ _ nq) λg11=>?_;refine uB 3 [16] [11] [vL g11 cJ] [] (aC (aB [0,1] ?_));obtain⟨fy,hz,hm⟩:=ah hm;refine gz [2,3,5,11] [10] (λ(pC:Gh)=>[vL pC fy]) (λpC=>[eO 152 bG fy pC,eO 61 (Ty.sl aa) cJ g11,eB b1 [vI p.dz,vB p.has]]) ?_ ?_;replace hm:=hz;refine uR [] [2,3,5,10,11,12] [vB gY,vB FL,vP b1,vO,vL g11 cJ,vI 0] [] (aL ?_);refine cQ 152 bG ?_;refine mI [] [10,12] (λv21 v23 g22=>[vL g22 v21,vI v23]) (λv21 _ g22=>[eO 152 bG v21 g22,eO 61 (Ty.sl aa) cJ g11,eB b1 [vI p.dz,vB p.has]]) Gh.nil hm (λkk v21 v23 g22 hm=>?_);rw[SN]at hm;refine az (uI [] hm ?_ ?_);intro hm;refine aq (az (aL ?_));obtain⟨sb,dD,uw,hm⟩:=kL hm;intro _ _ Jj hS;refine qM (base:=fS [2,3,5,10,11,12] [vB gY,vB FL,vP b1,vL g22 v21,vL g11 cJ,vI v23]) (L:=[eO 152 bG v21 g22,eO 61 (Ty.sl aa) cJ g11,eB b1 [vI p.dz,vB p.has]]) 13 3 (λiK=>[vL g11 cJ,vI v23,.pointer (some ⟨ab g11.a,ao g11.a+v23.toNat*1,none⟩),.slice (g11.s v23.toNat 0).a (gi cJ v23).length (g11.s v23.toNat 0).c,vG [vI p.dz,vB p.has],vB gY,.tuple ⟨[.agg ⟨e0 dD.1 (iK 6)⟩,vB dD.2]⟩,.tuple ⟨[.agg ⟨e0 dD.1 (iK 6)⟩,vB dD.2]⟩,.agg ⟨e0 dD.1 (iK 6)⟩,vB dD.2,.pointer (some ⟨ab (iK 10 0).a,0,none⟩),undef,vB dD.2]) (λiK=>[[],[],[],[eI aa (gi cJ v23) (g11.s v23.toNat 0)],[],[],[eO 155 jQ dD.1.bt (iK 6 0),eO 5 (tI .u8) dD.1.iE (iK 6 1)],[],[],[],[eB (ab (iK 10 0).a) [vU 0,vO,vO]],[eB (ab (iK 10 0).a) (e0 dD.1 (iK 6))],[]]) [[],[],[14],[14],[15],[],[3],[],[6],[6],[],[6,10],[]] [[],[],[],[],[],[],[],[],[],[],[],[10],[]] [[0],[1],[0,1,2],[0,1,2,3],[4],[5],[0,1,2,3,4,5,6],[0,1,2,3,4,5,6,7],[0,1,2,3,4,5,6,7,8],[0,1,2,3,4,5,6,7,9],[10],[0,1,2,3,4,5,6,7,8,10,11],[0,1,2,3,4,5,6,7,9,12]] [] (aw.aQ (ks:=[2,3,5,10,11,12]) Jj (by kernel_rfl)) (λ_ _ h=>by cases h) (by kernel_rfl) hS (by kernel_rfl) rfl rfl (by kernel_rfl) (by kernel_rfl) (by kernel_rfl) (nj (by kernel_rfl) _ _) ?SP λ_ _ iK we hv hS=>?a7g
 case SP=>
  refine⟨bw,bw,se (λ_ _=>[⟨none,λ_=>dR g11.a∧0≤v23∧v23<ln cJ,λ_ hS=>(hS.cB 0 rfl).iB sb⟩]),?_,se (λ_ _=>[⟨some (vG [vI p.dz,vB p.has]),rN b1 0 [vI p.dz,vB p.has],λ_ hS=>(hS.bk 0 rfl).eU rfl⟩]),bw,?_,bw,bw,bw,?_,?_,bw,trivial⟩;intro o ho a w iK M Hb hv hO aJ;obtain rfl:=cA ho;have H:=(Hb).add (hv 2 (by decide) (by decide) 26 rfl);have hS:=aJ;refine bh.mono (oc [.slice (g11.s v23.toNat 0).a (gi cJ v23).length (g11.s v23.toNat 0).c] (.slice (g11.s v23.toNat 0).a (gi cJ v23).length (g11.s v23.toNat 0).c) (some (λwz=>V.c9 ⟨ab g11.a,ao g11.a+v23.toNat*1,none⟩ (.slice (g11.s v23.toNat 0).a (gi cJ v23).length (g11.s v23.toNat 0).c) wz)) [] H rfl (by kernel_rfl) (λq e=>by cases e;exact((hS.cB 0 rfl).c9 sb 0 rfl))) ?_;rintro v w2 ⟨rfl,hq⟩;replace hS:=hS.below hq.below;replace hS:=hS.eN (eK ((hS.ow 0 rfl).el sb));exact⟨gL [],λ_ _=>rfl,hS.aV [0,1] rfl⟩;intro o ho a w iK M Hb hv hO aJ;obtain rfl:=cA ho;have H:=(((Hb).add (hv 3 (by decide) (by decide) 27 rfl)).add (hv 4 (by decide) (by decide) 28 rfl)).add (hv 5 (by decide) (by decide) 29 rfl);have hS:=aJ;have hd:=hS.hand [0] [0] rfl rfl;refine bh.mono (dv H rfl rfl (a7e (al:=g11.s v23.toNat 0) m _ _ _ _ uw _ _ hd)) ?_;rintro v w2 hq;obtain⟨mQ,eX,rfl,hq⟩:=hq;replace hS:=hS.join [0] [0] rfl rfl hq;exact⟨gL [mQ,eX],λ_ _=>rfl,hS.aV [0,1,2] rfl⟩;intro o ho a w iK M Hb hv hO aJ;obtain rfl:=cA ho;have H:=Hb;have hS:=aJ;have hd:=hS.hand [] [] rfl rfl;refine bh.mono (ua [vU 0,vO,vO] (z:=vG [vU 0,vO,vO]) hd (by kernel_rfl) rfl) ?_;rintro v w2 hq;obtain⟨b34,rfl,hq⟩:=hq;replace hS:=hS.join [] [] rfl rfl hq;exact⟨gL [Gh.mk (some ⟨b34,0,none⟩) 0 λ_ _=>.nil],λ_ _=>rfl,hS.aV [0] rfl⟩;intro o ho a w iK M Hb hv hO aJ;obtain rfl:=cA ho;have H:=((Hb).add (hv 10 (by decide) (by decide) 13 rfl)).add (hv 8 (by decide) (by decide) 31 rfl);have hS:=aJ;have hd:=hS.hand [2] [0,1] rfl rfl;refine bh.mono (qe (e0 dD.1 (iK 6)) H hd rfl rfl (by kernel_rfl) rfl rfl rfl) ?_;rintro v w2 hq;replace hS:=hS.join [2] [0,1] rfl rfl hq;exact⟨gL [],(λ_ h=>by cases h),hS.aV [0,1,2] rfl⟩
 have ke:Fr 41 (fS [14,13,2,3,5,10,11,12] [vB dD.2,.pointer (some ⟨ab (iK 10 0).a,0,none⟩),vB gY,vB FL,vP b1,vL g22 v21,vL g11 cJ,vI v23]) _:=aw.add (aw.add (aw.aQ (ks:=[2,3,5,10,11,12]) we (by kernel_rfl)) (hv 10 13 rfl)) (hv 12 14 rfl);replace hS:SH M _ w [eI aa (gi cJ v23) (g11.s v23.toNat 0),eO 155 jQ dD.1.bt (iK 6 0),eO 5 (tI .u8) dD.1.iE (iK 6 1),eB (ab (iK 10 0).a) (e0 dD.1 (iK 6)),eO 152 bG v21 g22,eO 61 (Ty.sl aa) cJ g11,eB b1 [vI p.dz,vB p.has]] _:=hS;clear hv we;generalize ab (iK 10 0).a=Nj at ke hS;generalize iK 6 0=oF at ke hS;generalize iK 6 1=nM at ke hS;replace hS:=hS.aV [1,2,3,4,5,6] rfl;refine aN ke hS (uR [14] [13,33] [vP Nj,vB dD.2] [] ?_);refine Zb hm ?_;intro hm;refine dH (uB 2 [10,13,33] [34,35] [vL g22 v21,.agg ⟨e0 dD.1 (gL [oF,nM])⟩] [kE 2 3] ?_);refine jO [0,1,2,3,4,5] ?_;refine jO [1,0,2,3,4,5] ?_;refine uM [1,0] [0,1,2,3,4,5] [35] (oL bG 152 (vG [vU 0,vO,vO]) [dD.1] [gL [oF,nM]] (λhd=>bd.cons (ZW (hd.im 0 rfl) (hd.im 1 rfl)) bd.nil) rfl) λj0=>?_;obtain⟨yO,AZ,SQ,hm⟩:=cx hm;refine uM [4,0] [1,2,3,5,6] [34,36] (oP bG (vG [vU 0,vO,vO]) g22 j0 SQ yO rfl rfl) λnw=>?_;refine uB 5 [37] [10] [vL nw AZ] [] (aC (aB [0,5,6] ?_));exact xi [] nw hm;intro hm;refine bn ?_;cases hm;exact tg g22;intro pC;refine aB [0] ?_;refine uR [10] [8,9] [vL pC fy,vT] [] (aR ?_);cases hm;exact db pC [0] eW

def a0k(m:Nat)(l_:List bL)(v9:Int)(jq:Int):Nat→Int→Int→Option Int
 |0,_,_=>none
 |kk+1,v26,gC=>lt (decide (gC<ln (gi (gi l_ v9).bt jq).bA)) λux=>cond ux (none) (some v26)
def SR(m:Nat)(l_:List bL)(v9:Int):Nat→Int→Int→Option Int
 |0,_,_=>none
 |kk+1,bz,jq=>aH (0≤v9∧v9<ln l_)<|cond (decide (jq<ln (gi l_ v9).bt)) (Option.bind (aH (0≤jq∧jq<ln (gi l_ v9).bt)<|a0k m l_ v9 jq m bz 0) λ(z20:Int)=>SR m l_ v9 kk z20 (J (jq+1))) (some bz)
def SS(m:Nat)(l_:List bL):Nat→Int→Int→Option Int
 |0,_,_=>none
 |kk+1,v8,v9=>cond (decide (v9<ln l_)) (Option.bind (SR m l_ v9 m v8 0) λ(z12:Int)=>SS m l_ kk z12 (J (v9+1))) (some v8)
def SU(m:Nat)(l_:List bL):Option Int:=Option.bind (SS m l_ m (ln l_) 0) λ(z5:Int)=>some z5
theorem a7h{a7:Gh}(m)(l_)(r)(hm:SU m l_=some r)(w)(hL:Rd [eI bG l_ a7] w):Rb 171 [vL a7 l_] (vI r) w:=by
 rw[SU]at hm;refine cu hL (call171 _) func171 ntmps171 λM X w=>?_;refine uO [] ?_;refine uA 3 (vI (ln l_)) [] ?_;obtain⟨z5,hz,hm⟩:=ah hm;refine uK [0] [3] [vI z5] [eI bG l_ a7] ?_ ?_;replace hm:=hz;refine uA 4 (vI 0) [] (aL ?_);refine iV [] [3,4] (λv8 v9=>[vI v8,vI v9]) (λ_ _=>[eI bG l_ a7]) hm (λkk v8 v9 hm=>?_);rw[SS]at hm;refine az (uI [] hm ?_ ?_);intro hm;refine aq ?_;obtain⟨z12,hz,hm⟩:=ah hm;refine uK [] [3] [vI z12] [eI bG l_ a7] ?_ ?_;replace hm:=hz;refine aL (uA 5 (vI 0) [] (aL ?_));refine iV [] [0,4,3,5] (λbz jq=>[vL a7 l_,vI v9,vI bz,vI jq]) (λ_ _=>[eI bG l_ a7]) hm (λkk bz jq hm=>?_);rw[SR]at hm;refine az ?_;obtain⟨fm,hm⟩:=bX hm;refine uI [ki 0 fm,kj 0 1 fm] hm ?_ ?_;intro hm;refine aq ?_;obtain⟨z20,hz,hm⟩:=ah hm;refine uK [] [3] [vI z20] [eI bG l_ a7] ?_ ?_;replace hm:=hz;refine aL ?_;obtain⟨mK,hm⟩:=bX hm;refine uA 6 (.slice ((a7.s v9.toNat 0).s jq.toNat 0).a (gi (gi l_ v9).bt jq).bA.length ((a7.s v9.toNat 0).s jq.toNat 0).c) [ki 0 fm,kj 0 1 fm,⟨none,λ_=>dR (a7.s v9.toNat 0).a∧0≤jq∧jq<ln (gi l_ v9).bt,λ_ hS=>(ld ((hS.im 0 rfl).el fm)).iB mK⟩,⟨some (.slice ((a7.s v9.toNat 0).s jq.toNat 0).a (gi (gi l_ v9).bt jq).bA.length ((a7.s v9.toNat 0).s jq.toNat 0).c),λwz=>V.c9 ⟨ab (a7.s v9.toNat 0).a,ao (a7.s v9.toNat 0).a+jq.toNat*2+1,none⟩ (.slice ((a7.s v9.toNat 0).s jq.toNat 0).a (gi (gi l_ v9).bt jq).bA.length ((a7.s v9.toNat 0).s jq.toNat 0).c) wz,λ_ hS=>(ld ((hS.im 0 rfl).el fm)).c9 mK 1 rfl⟩] ?_;refine uA 7 (vI 0) [] (aL ?_);refine iV [] [3,7] (λv26 gC=>[vI v26,vI gC]) (λ_ _=>[eI bG l_ a7]) hm (λkk v26 gC hm=>?_);rw[a0k]at hm;refine az ?_;obtain⟨ux,Jk,hm⟩:=bl hm;refine uI [] hm ?_ ?_ (he:=by subst Jk;kernel_rfl);intro hm;refine aq (az (aL ?_));intro _ _ AY hS;exact cM hm;intro hm;refine bn ?_;cases hm;exact te;exact jx [] hm;intro hm;refine bn ?_;cases hm;exact te;exact jx [] hm;intro hm;refine bn ?_;cases hm;exact te;refine aB [] ?_;cases hm;exact uZ [] []

def SV(m:Nat)(v_:List ax):Option ((List bL)×Int):=Option.bind (SO m v_ (vZ.mk 0 false) false false) λy5=>cond (!y5.2) (none) (Option.bind (SU m y5.1) λed=>cond (decide (64<ed)) (none) (some (y5.1,0)))
theorem a7i{al:Gh}(m)(v_)(r)(hm:SV m v_=some r):Dm 121 [vL al v_] [eI aa v_ al] (λ(aG:Gh)=>vW [vL aG r.1,vI r.2]) (λaG=>[eO 152 bG r.1 aG]):=by
 rw[SV]at hm;refine gy (call121 _) func121 ntmps121 λM X w=>?_;refine uO [] (aM ?_);refine uB 2 [0] [7,8] [vL al v_,vG [vI 0,vF]] [] ?_;obtain⟨y5,iG,hm⟩:=ah hm;refine uQ [0] [0] [7,8] (a7f (al:=al) m _ _ _ _ _ iG) λg6=>?_;refine uB 8 [9] [4,5] [vL g6 y5.1,vB y5.2] [] (aC (aB [0] (az ?_)));refine rT [5] [] hm ?_;intro hm;refine aq (az ?_);obtain⟨ed,sd,hm⟩:=ah hm;refine gf [kr λ_ hS=>a7h (a7:=g6) m _ _ sd _ (aK bc (hS.cB 0 rfl))] hm ?_;intro hm;refine aq (uR [4] [2,3] [vL g6 y5.1,vI 0] [] (aR ?_));cases hm;exact db g6 [0] eW

def SW(m:Nat)(v_:List ax):Option (cR×Bool):=Option.bind (AW m v_) λy8=>aH ((ln y8==0)=false→0≤(0:Int)∧(0:Int)<ln y8)<|lt (cond (ln y8==0) true ((gi y8 (0:Int)).aX.an !=1)) λol=>cond ol (some (cR.mk [] ([]:List ax) false,false)) (none)
theorem a7j{al:Gh}(m)(v_)(r)(hm:SW m v_=some r):Dm 173 [vL al v_] [eI aa v_ al] (λ(aG:Gh)=>.tuple ⟨[.agg ⟨e8 r.1 (gL [aG])⟩,vB r.2]⟩) (λaG=>[eO 163 aa r.1.Value aG]):=by
 rw[SW]at hm;refine gy (call173 _) func173 ntmps173 λM X w=>(aM ?_);refine uM [] [0] [] (oA [vN,vO,vF]) λb1=>?_;refine uP 2 [] (aC (aM ?_));refine uB 1 [0] [5] [vL al v_] [] ?_;obtain⟨y8,k6,hm⟩:=ah hm;refine uQ [1] [0,1] [5] (FH (al:=al) m _ _ k6) λg9=>?_;refine uB 3 [6] [0] [vL g9 y8] [] (aC (aB [0,1] (az ?_)));obtain⟨iI,ol,yC,hm⟩:=cx hm;refine uI [jZ (gF (ln y8==0)) 0 λhg=>iI hg.1,mc (gF (ln y8==0)) 0 0 λhg=>iI hg.1] hm ?_ ?_ (he:=by subst yC;kernel_rfl);intro hm;refine aM (uB 1 [0] [18] [vG [vN,vO,vF]] [] ?_);refine uL [1] [0] [18] (oS [vN,vO,vF] rfl rfl) ?_;refine uB 3 [] [2,3] [vP b1,vF] [] (aC (aB [0] (aR ?_)));cases hm;refine cQ 163 aa ?_;exact db Gh.nil [0] (lK 1 underlying63);intro hm;refine aq ?_;intro _ _ oG hS;exact cM hm

def SX(m:Nat)(y7:List (List ax)):Nat→Int→Option Unit
 |0,_=>none
 |kk+1,bY=>cond (cond (decide (bY<ln y7)) true false) (aH (0≤bY∧bY<ln y7)<|Option.bind (SW m (gi y7 bY)) λcI=>cond cI.2 (none) (SX m y7 kk (J (bY+1)))) (some ())
def SY(m:Nat)(v_:List ax):Option (List cR):=Option.bind (FG m v_ 17) λy7=>Option.bind (SX m y7 m 0) λ(iH:Unit)=>some ([]:List cR)
theorem a7k{al:Gh}(m)(v_)(r)(hm:SY m v_=some r):Dm 122 [vL al v_] [eI aa v_ al] (λ(aG:Gh)=>vL aG r) (λaG=>[eO 63 dB r aG]):=by
 rw[SY]at hm;refine gy (call122 _) func122 ntmps122 λM X w=>?_;refine uO [] ?_;refine uA 3 vO [] (aM ?_);refine uB 1 [0] [8] [vL al v_] [] ?_;obtain⟨y7,qS,hm⟩:=ah hm;refine uQ [0] [0] [8] (Nd (al:=al) m _ _ _ qS) λg8=>?_;refine uB 3 [9] [4] [vL g8 y7] [] (aC (aB [0] ?_));obtain⟨iH,hz,hm⟩:=ah hm;refine uK [4] [] [] [eO 61 (Ty.sl aa) y7 g8] ?_ ?_;replace hm:=hz;refine uA 5 (vI 0) [] (aL ?_);refine ep [] [4,3,5] (λbY=>[vL g8 y7,vO,vI bY]) (λ_=>[eO 61 (Ty.sl aa) y7 g8]) hm (λkk bY hm=>?_);rw[SX]at hm;refine az (uI [] hm ?_ ?_);intro hm;refine aq (az (aL (aM ?_)));obtain⟨B0,hm⟩:=bX hm;refine uB 4 [] [25] [.slice (g8.s bY.toNat 0).a (gi y7 bY).length (g8.s bY.toNat 0).c] [kI 0 B0,kJ 0 0 B0] ?_;intro _ _ mm hS;replace hS:=hS.eN (eK ((hS.ow 0 rfl).el B0));obtain⟨cI,nT,hm⟩:=ah hm;refine aN mm hS (uQ [0] [0,1] [25] (a7j (al:=g8.s bY.toNat 0) m _ _ nT) λfF=>?_);refine uB 8 [26] [27,28] [.agg ⟨e8 cI.1 (gL [fF])⟩,vB cI.2] [] ?_;refine uM [] [0,1,2] [] (oA [vN,vO,vF]) λJl=>?_;refine uL [0] [1,2,3] [27] (oS (e8 cI.1 (gL [fF])) rfl rfl) ?_;refine uB 11 [28] [7] [vB cI.2] [] (aC (aB [0,1,3] ?_));refine uR [7] [3,4,5,6,29] [vO,vL g8 y7,vI bY,vP Jl,vB cI.2] [] ?_;refine D1 hm ?_;intro hm;refine aq (uW [6,29] [5] [vI (J (bY+1))] [] (aB [2] ?_));exact Zh hm;intro hm;refine bn ?_;cases hm;exact te;refine aB [] (uR [3] [2] [vO] [] (aR ?_));cases hm;refine cQ 63 dB ?_;exact db Gh.nil [0] bp

def FM(m:Nat)(a_:a6)(b_:a6):Option Bool:=Option.bind (AX m a_) λy3=>Option.bind (AX m b_) λy4=>some (y3==y4)
theorem Nk(m)(a_)(b_)(r)(hm:FM m a_ b_=some r):Rt 123 [vS a_,vS b_] (vB r):=by
 rw[FM]at hm;refine df (call123 _) func123 ntmps123 λM X w=>?_;refine uO [] ?_;obtain⟨y3,cd,y4,qh,hm⟩:=pz hm;cases hm;exact uZ [] [kc (FK m _ _ cd),kc (FK m _ _ qh)]

def Nl(m:Nat)(v_:List ax)(i:Int)(s:a6):Option Bool:=aH (decide (i<ln v_)=true→0≤i∧i<ln v_)<|lt (cond (decide (i<ln v_)) ((gi v_ i).aX.an==1) false) λx4=>aH (x4=true→0≤i∧i<ln v_)<|Option.bind (cond x4 (FM m (gi v_ i).aX.cY s) (some default)) λy6=>some (cond x4 y6 false)
theorem a0l{al:Gh}(m)(v_)(i)(s)(r)(hm:Nl m v_ i s=some r)(w)(hL:Rd [eI aa v_ al] w):Rb 225 [vL al v_,vI i,vS s] (vB r) w:=by
 rw[Nl]at hm;refine cu hL (call225 _) func225 ntmps225 λM X w=>?_;refine uO [] ?_;obtain⟨li,x4,mj,hm⟩:=cx hm;obtain⟨Db,y6,gh,hm⟩:=kL hm;refine uR [0,1,2] [6] [vB (cond x4 y6 false)] [jZ (gT (decide (i<ln v_))) 0 λhg=>li hg.1,mc (gT (decide (i<ln v_))) 0 0 λhg=>li hg.1,jZ (gT x4) 0 λhg=>Db hg.1,mc (gT x4) 0 1 λhg=>Db hg.1,fv (gT x4) λhg=>Nk m _ _ _ (bT (hg.1) gh)] ?_ (he:=by subst mj;kernel_rfl);refine aB [] (aR ?_);cases hm;exact bj [] bp

def Nn(v_:List ax)(i:Int)(k_:Int):Option Bool:=aH (decide (i<ln v_)=true→0≤i∧i<ln v_)<|lt (cond (decide (i<ln v_)) ((gi v_ i).aX.an==k_) false) λx4=>some x4
theorem a0m{al:Gh}(v_)(i)(k_)(r)(hm:Nn v_ i k_=some r)(w)(hL:Rd [eI aa v_ al] w):Rb 227 [vL al v_,vI i,vU k_] (vB r) w:=by
 rw[Nn]at hm;refine cu hL (call227 _) func227 ntmps227 λM X w=>?_;refine uO [] ?_;obtain⟨li,x4,mj,hm⟩:=cx hm;refine uR [0,1,2] [6] [vB x4] [jZ (gT (decide (i<ln v_))) 0 λhg=>li hg.1,mc (gT (decide (i<ln v_))) 0 0 λhg=>li hg.1] ?_ (he:=by subst mj;kernel_rfl);refine aB [] (aR ?_);cases hm;exact bj [] bp

def T0(m:Nat)(s:a6):Nat→Int→Option Unit
 |0,_=>none
 |kk+1,v12=>cond (decide (v12<ln s)) (aH (0≤v12∧v12<ln s)<|cond (bQ s v12==0) (none) (T0 m s kk (J (v12+1)))) (some ())
def T3(m:Nat)(s:a6):Option Bool:=lt (cond (s==[]) true (decide (64<ln s))) λx3=>Option.bind (cond x3 (some default) (AX m s)) λy4=>lt (cond (cond x3 true (!(s==y4))) true (s==[97,110,100])) λx5=>lt (cond (cond x5 true (s==[111,114])) true (s==[110,111,116])) λx6=>cond (cond x6 true (s==[111,110,108,121])) (none) (Option.bind (T0 m s m 0) λ(z9:Unit)=>some true)
theorem a7l(m)(s)(r)(hm:T3 m s=some r):Rt 229 [vS s] (vB r):=by
 rw[T3]at hm;refine df (call229 _) func229 ntmps229 λM X w=>?_;refine uO [] (az ?_);obtain⟨x3,iq,y4,qh,hm⟩:=rZ hm;obtain⟨x5,Du,x6,om,hm⟩:=eA hm;refine gf [fv (gF x3) λhg=>FK m _ _ (bF (hg.1) qh)] hm ?_ (he:=by subst iq Du om;kernel_rfl);intro hm;refine aq ?_;obtain⟨z9,hz,hm⟩:=ah hm;refine uK [0] [] [] [] ?_ ?_;replace hm:=hz;refine uA 3 (vI 0) [] (aL ?_);refine ep [] [3] (λv12=>[vI v12]) (λ_=>[]) hm (λkk v12 hm=>?_);rw[T0]at hm;refine az (uI [] hm ?_ ?_);intro hm;refine aq (az (aL ?_));obtain⟨iI,hm⟩:=bX hm;refine gf [kh iI] hm ?_;intro hm;exact aq (fK [] hm);intro hm;refine bn ?_;cases hm;exact te;cases hm;exact uZ [] []

def a0n(m:Nat)(v_:List ax):Nat→Int→Option Int
 |0,_=>none
 |kk+1,v4=>Option.bind (Nn v_ v4 13) λy5=>cond y5 (none) (some v4)
def T4(m:Nat)(v_:List ax)(i:Int):Option Int:=Option.bind (a0n m v_ m i) λ(z3:Int)=>some z3
theorem a7m{al:Gh}(m)(v_)(i)(r)(hm:T4 m v_ i=some r)(w)(hL:Rd [eI aa v_ al] w):Rb 226 [vL al v_,vI i] (vI r) w:=by
 rw[T4]at hm;refine cu hL (call226 _) func226 ntmps226 λM X w=>?_;refine uO [] ?_;obtain⟨z3,hz,hm⟩:=ah hm;refine uK [0] [1] [vI z3] [eI aa v_ al] ?_ ?_;replace hm:=hz;refine aL (ep [] [1] (λv4=>[vI v4]) (λ_=>[eI aa v_ al]) hm (λkk v4 hm=>?_));rw[a0n]at hm;refine az ?_;obtain⟨y5,iG,hm⟩:=ah hm;refine uI [kr λ_ hS=>a0m (al:=al) _ _ _ _ iG _ (aK bc (hS.im 0 rfl))] hm ?_ ?_;intro hm;refine aq (aL ?_);intro _ _ H7 hS;exact cM hm;intro hm;refine bn ?_;cases hm;exact te;refine aB [] ?_;cases hm;exact uZ [] []

def a0o(m:Nat)(y6:List ax):Nat→Int→Option Unit
 |0,_=>none
 |kk+1,fa=>cond (decide (fa<ln y6)) (none) (some ())
def Np(m:Nat)(v_:List ax):Option bu:=Option.bind (AW m v_) λy6=>Option.bind (Nl m y6 0 [110,111,116]) λgA=>Option.bind (cond gA (some default) (Nl m y6 0 [111,110,108,121])) λcP=>cond (cond gA true cP) (none) (Option.bind (Nn y6 0 1) λcX=>cond cX (aH (0≤(0:Int)∧(0:Int)<ln y6)<|Option.bind (AX m (gi y6 (0:Int)).aX.cY) λft=>Option.bind (T3 m ft) λjy=>cond (!jy) (none) (aH (ln ([]:List bu)+ln ([bu.mk 4 ft 0 (cR.mk [] [] false) []]:List bu)≤137438953472)<|lt (([]:List bu)++([bu.mk 4 ft 0 (cR.mk [] [] false) []]:List bu)) λpI=>Option.bind (Option.bind (T4 m y6 1) λFN=>a0o m y6 m FN) λ(Dy:Unit)=>cond gA (none) (some (bu.mk 1 [] 0 (cR.mk [] ([]:List ax) false) pI)))) (none))
theorem a7n{al:Gh}(M:Av)(m)(v_)(r)(hm:Np m v_=some r)(w:World)(hS:S0 M [eI aa v_ al] w):Calls prog 176 ⟨[vL al v_]⟩ w (λe w'=>∃v,e=.returned v∧∃(aG:Gh)(dQ:Gh),v=.agg ⟨e4 r (gL [aG,dQ])⟩∧SH M (ay [eI aa v_ al]) w [eO 163 aa r.aS.Value aG,eO 66 bq r.ae dQ] w'):=by
 rw[Np]at hm;have aJ:SH M (ay [eI aa v_ al]) w [eI aa v_ al] w:=hS;generalize hX:ay [eI aa v_ al]=X at aJ⊢;clear hS hX;have hS:=aJ;clear aJ;refine dZ func176 rfl ntmps176 rfl λ_ H=>?_;refine aN H hS (aM (ek [] [0] [0] [vL al v_] (oA [vU 0,vN,vI 0,vN,vO,vF,vO]) λb1=>aC (aM ?_)));refine uB 1 [0] [2,11] [vP b1,vL al v_] [] ?_;obtain⟨y6,gh,hm⟩:=ah hm;refine uQ [1] [0,1] [11] (FH (al:=al) m _ _ gh) λg7=>?_;refine uB 3 [12] [0] [vL g7 y6] [] (aC (aB [0,1] (aM ?_)));refine uB 1 [] [13] [vG [vU 1,vN,vI 0,vN,vO,vF,vO]] [] ?_;refine uM [] [0,1] [] (oA [vU 0,vN,vI 0,vN,vO,vF,vO]) λB1=>?_;refine uL [0] [1,2] [13] (oS [vU 1,vN,vI 0,vN,vO,vF,vO] rfl rfl) (aC ?_);refine uR [] [0,2,3,4] [vL g7 y6,vP b1,vP B1,vI 0] [] ?_;obtain⟨gA,vR,hm⟩:=ah hm;refine uA 5 (vB gA) [kr λ_ hS=>a0l (al:=g7) m _ _ _ _ vR _ (aK bc (hS.im 1 rfl))] (az ?_);obtain⟨cP,oH,hm⟩:=ah hm;refine gf [fw (gF gA) λ_ hS hg=>a0l (al:=g7) m _ _ _ _ (bF (hg.1) oH) _ (aK bc (hS.im 1 rfl))] hm ?_;intro hm;refine aq (az ?_);obtain⟨cX,tG,hm⟩:=ah hm;refine RC [kr λ_ hS=>a0m (al:=g7) _ _ _ _ tG _ (aK bc (hS.im 1 rfl))] hm ?_;intro hm;obtain⟨a0p,ft,yP,hm⟩:=kL hm;refine uA 6 (vS ft) [ki 1 a0p,kj 1 1 a0p,kc (FK m _ _ yP)] (az ?_);obtain⟨jy,xv,hm⟩:=ah hm;refine gf [kc (a7l m _ _ xv)] hm ?_;intro hm;refine aq (dH (uB 4 [6] [43,45] [vO,vG [vU 4,vS ft,vI 0,vN,vO,vF,vO]] [kb 0 6] ?_));refine uM [] [0,1,2] [45] (oL bq 66 (vG [vU 0,vN,vI 0,vN,vO,vF,vO]) [bu.mk 4 ft 0 (cR.mk [] [] false) []] [gL [Gh.nil,Gh.nil]] (λ_=>bd.cons (S5 aP.nil aP.nil) bd.nil) rfl) λnM=>?_;refine cQ 66 bq ?_;obtain⟨rb,pI,T5,hm⟩:=cx hm;refine uM [0,1] [2,3,4] [43,46] (oP bq (vG [vU 0,vN,vI 0,vN,vO,vF,vO]) Gh.nil nM T5 rb rfl rfl) λjz=>?_;refine uB 7 [] [47,48] [vL jz pI,vA B1 6] [] ?_;refine oY [2] [0,1,3,4] [0,2,3,4,5] [vL g7 y6,vP b1,vP B1,vI 0,vB gA] (oS [vU 1,vN,vI 0,vN,vO,vF,vL jz pI] rfl rfl) (aC (aB [0,1,3,4] ?_));obtain⟨Dy,hz,hm⟩:=ah hm;refine uK [0,4] [] [] [eB B1 [vU 1,vN,vI 0,vN,vO,vF,vL jz pI],eO 66 bq pI jz,eI aa y6 g7,eB b1 [vU 0,vN,vI 0,vN,vO,vF,vO]] ?_ ?_;replace hm:=hz;obtain⟨FN,T6,hm⟩:=ah hm;refine uA 4 (vI FN) [kr λ_ hS=>a7m (al:=g7) m _ _ _ T6 _ (aK bc (hS.im 2 rfl))] (aL ?_);refine ep [] [4] (λfa=>[vI fa]) (λ_=>[eB B1 [vU 1,vN,vI 0,vN,vO,vF,vL jz pI],eO 66 bq pI jz,eI aa y6 g7,eB b1 [vU 0,vN,vI 0,vN,vO,vF,vO]]) hm (λkk fa hm=>?_);rw[a0o]at hm;refine az (uI [] hm ?_ ?_);intro hm;refine aq (az (aL (az ?_)));intro _ _ AQ hS;exact cM hm;intro hm;refine bn ?_;cases hm;exact te;refine aB [0,1,3] (az ?_);refine rT [5] [] hm ?_;intro hm;refine aq (aM (uB 1 [3] [104] [vG [vU 1,vN,vI 0,vN,vO,vF,vL jz pI]] [⟨some (vG [vU 1,vN,vI 0,vN,vO,vF,vL jz pI]),rN B1 0 [vU 1,vN,vI 0,vN,vO,vF,vL jz pI],λ_ hS=>(hS.bk 0 rfl).eU rfl⟩] ?_));refine uL [2] [0,1] [104] (oS [vU 1,vN,vI 0,vN,vO,vF,vL jz pI] rfl rfl) (aC (aB [0,2] (aR ?_)));cases hm;refine cQ 163 aa ?_;exact λ_ _ T7 hS=>tc T7 rfl (qd rfl (hS.bk 1 rfl) underlying66 rfl (by kernel_rfl)) ⟨_,rfl,Gh.nil,jz,rfl,hS.aV [0,2] rfl⟩
theorem a7o{al:Gh}(m)(v_)(r)(hm:Np m v_=some r)(M:Av)(w:World)(hS:S0 M [eI aa v_ al] w):eV prog 176 ⟨[vL al v_]⟩ w (λv w'=>∃(aG:Gh)(dQ:Gh),v=.agg ⟨e4 r (gL [aG,dQ])⟩∧SH M (ay [eI aa v_ al]) w [eO 163 aa r.aS.Value aG,eO 66 bq r.ae dQ] w'):=⟨call176 _,a7n M m v_ r hm w hS⟩

def T8(m:Nat)(cI:List (List ax)):Nat→Int→List bu→Option (List bu)
 |0,_,_=>none
 |kk+1,cL,fG=>cond (decide (cL<ln cI)) (aH (0≤cL∧cL<ln cI)<|Option.bind (Np m (gi cI cL)) λnx=>aH (ln fG+ln ([nx]:List bu)≤137438953472)<|lt (fG++([nx]:List bu)) λyQ=>T8 m cI kk (J (cL+1)) yQ) (some fG)
def Nq(m:Nat)(v_:List ax):Option (bu×Bool):=Option.bind (AW m v_) λy8=>cond (ln y8==0) (none) (Option.bind (FG m v_ 18) λcI=>Option.bind (T8 m cI m 0 ([]:List bu)) λ(z31:List bu)=>some (bu.mk 2 [] 0 (cR.mk [] ([]:List ax) false) z31,decide (ln cI≤64)))
theorem a7p{al:Gh}(M:Av)(m)(v_)(r)(hm:Nq m v_=some r)(w:World)(hS:S0 M [eI aa v_ al] w):Calls prog 124 ⟨[vL al v_]⟩ w (λe w'=>∃v,e=.returned v∧∃(aG:Gh)(dQ:Gh),v=.tuple ⟨[.agg ⟨e4 r.1 (gL [aG,dQ])⟩,vB r.2]⟩∧SH M (ay [eI aa v_ al]) w [eO 163 aa r.1.aS.Value aG,eO 66 bq r.1.ae dQ] w'):=by
 rw[Nq]at hm;have aJ:SH M (ay [eI aa v_ al]) w [eI aa v_ al] w:=hS;generalize hX:ay [eI aa v_ al]=X at aJ⊢;clear hS hX;have hS:=aJ;clear aJ;refine dZ func124 rfl ntmps124 rfl λ_ H=>?_;refine aN H hS (aM (ek [] [0] [0] [vL al v_] (oA [vU 0,vN,vI 0,vN,vO,vF,vO]) λb1=>?_));refine uP 2 [] (aC (az (aM ?_)));refine uB 1 [] [7] [vL al v_] [] ?_;obtain⟨y8,k6,hm⟩:=ah hm;refine uQ [1] [0,1] [7] (FH (al:=al) m _ _ k6) λg9=>?_;refine uB 4 [8] [10] [vB (ln y8==0)] [] (aC (aB [1,2] ?_));refine D1 hm ?_;intro hm;refine aq (aM (uB 1 [10] [12] [vG [vU 2,vN,vI 0,vN,vO,vF,vO]] [] ?_));refine uM [] [0,1] [] (oA [vU 0,vN,vI 0,vN,vO,vF,vO]) λgB=>?_;refine uL [0] [1,2] [12] (oS [vU 2,vN,vI 0,vN,vO,vF,vO] rfl rfl) (aC (aM ?_));refine uB 1 [0] [2,4,13] [vP b1,vP gB,vL al v_] [] ?_;obtain⟨cI,nT,hm⟩:=ah hm;refine uQ [2] [0,1,2] [13] (Nd (al:=al) m _ _ _ nT) λfF=>?_;refine uB 3 [14] [5] [vL fF cI] [] (aC (aB [0,1,2] ?_));obtain⟨z31,hz,hm⟩:=ah hm;refine gz [] [] (λ(je:Gh)=>[]) (λje=>[eO 66 bq z31 je,eO 61 (Ty.sl aa) cI fF,eB gB [vU 2,vN,vI 0,vN,vO,vF,vL je z31],eB b1 [vU 0,vN,vI 0,vN,vO,vF,vO]]) ?_ ?_;replace hm:=hz;refine uA 6 (vI 0) [] (aL ?_);refine cQ 66 bq ?_;refine mI [] [6] (λcL _ _=>[vI cL]) (λ_ fG mq=>[eO 66 bq fG mq,eO 61 (Ty.sl aa) cI fF,eB gB [vU 2,vN,vI 0,vN,vO,vF,vL mq fG],eB b1 [vU 0,vN,vI 0,vN,vO,vF,vO]]) Gh.nil hm (λkk cL fG mq hm=>?_);rw[T8]at hm;refine az (uI [] hm ?_ ?_);intro hm;refine aq (az (aL ?_));obtain⟨pG,nx,Jm,hm⟩:=kL hm;obtain⟨Jn,yQ,a7q,hm⟩:=cx hm;intro _ _ sf hS;refine D3 (base:=fS [2,4,5,6] [vP b1,vP gB,vL fF cI,vI cL]) (L:=[eO 66 bq fG mq,eO 61 (Ty.sl aa) cI fF,eB gB [vU 2,vN,vI 0,vN,vO,vF,vL mq fG],eB b1 [vU 0,vN,vI 0,vN,vO,vF,vO]]) 11 4 (λiL=>[vA gB 6,vL mq fG,vL fF cI,vI cL,.pointer (some ⟨ab fF.a,ao fF.a+cL.toNat*1,none⟩),.slice (fF.s cL.toNat 0).a (gi cI cL).length (fF.s cL.toNat 0).c,.agg ⟨e4 nx (iL 6)⟩,vK (iL 7 0) 1,.slice (iL 8 0).a yQ.length (iL 8 0).c,vA gB 6,undef]) (λiL=>[[],[],[],[],[],[eI aa (gi cI cL) (fF.s cL.toNat 0)],[eO 163 aa nx.aS.Value (iL 6 0),eO 66 bq nx.ae (iL 6 1)],[eO 66 bq ([nx]:List bu) (iL 7 0),eI bq nx.ae (iL 6 1),eI aa nx.aS.Value (iL 6 0)],[eO 66 bq yQ (iL 8 0)],[],[eB gB [vU 2,vN,vI 0,vN,vO,vF,.slice (iL 8 0).a yQ.length (iL 8 0).c]]]) [[11,13],[11,13],[],[],[12],[12],[5],[6],[7,11],[8,13],[8,13]] [[],[],[],[],[],[],[],[6],[11],[],[13]] [[0],[0,1],[2],[3],[2,3,4],[2,3,4,5],[2,3,4,5,6],[2,3,4,5,6,7],[0,1,2,3,4,5,6,7,8],[9],[0,1,2,3,4,5,6,7,8,9,10]] [] (aw.aQ (ks:=[2,4,5,6]) sf (by kernel_rfl)) (λ_ _ h=>by cases h) (by kernel_rfl) hS (by kernel_rfl) rfl rfl (by kernel_rfl) (by kernel_rfl) (by kernel_rfl) (nj (by kernel_rfl) _ _) ?a7r λ_ _ iL uy hv hS=>?ait
 case a7r=>
  refine⟨bw,se (λ_ _=>[⟨some (vL mq fG),rA gB 6 (vL mq fG),λ_ hS=>(hS.bk 1 rfl).c9 rfl⟩]),bw,bw,se (λ_ _=>[⟨none,λ_=>dR fF.a∧0≤cL∧cL<ln cI,λ_ hS=>(hS.cB 0 rfl).iB pG⟩]),?_,?_,?_,?_,bw,?_,trivial⟩;intro o ho a w iL M Hb hv hO aJ;obtain rfl:=cA ho;have H:=(Hb).add (hv 4 (by decide) (by decide) 25 rfl);have hS:=aJ;refine bh.mono (oc [.slice (fF.s cL.toNat 0).a (gi cI cL).length (fF.s cL.toNat 0).c] (.slice (fF.s cL.toNat 0).a (gi cI cL).length (fF.s cL.toNat 0).c) (some (λwz=>V.c9 ⟨ab fF.a,ao fF.a+cL.toNat*1,none⟩ (.slice (fF.s cL.toNat 0).a (gi cI cL).length (fF.s cL.toNat 0).c) wz)) [] H rfl (by kernel_rfl) (λq e=>by cases e;exact((hS.cB 0 rfl).c9 pG 0 rfl))) ?_;rintro v w2 ⟨rfl,hq⟩;replace hS:=hS.below hq.below;replace hS:=hS.eN (eK ((hS.ow 0 rfl).el pG));exact⟨gL [],λ_ _=>rfl,hS.aV [0,1] rfl⟩;intro o ho a w iL M Hb hv hO aJ;obtain rfl:=cA ho;have H:=(Hb).add (hv 5 (by decide) (by decide) 26 rfl);have hS:=aJ;have hd:=hS.hand [0] [0] rfl rfl;refine bh.mono (dv H rfl rfl (a7o (al:=fF.s cL.toNat 0) m _ _ Jm _ _ hd)) ?_;rintro v w2 hq;obtain⟨j4,lq,rfl,hq⟩:=hq;replace hS:=hS.join [0] [0] rfl rfl hq;exact⟨gL [j4,lq],λ_ _=>rfl,hS.aV [0,1,2] rfl⟩;intro o ho a w iL M Hb hv hO aJ;obtain rfl:=cA ho;have H:=(Hb).add (hv 6 (by decide) (by decide) 27 rfl);have hS:=aJ;replace hS:=SH.fJ (hS.aV [0,1] rfl);replace hS:=SH.fJ (hS.aV [1,0] rfl);have hd:=hS.hand [1,0] [0,1] rfl rfl;refine bh.mono (oM bq 66 (vG [vU 0,vN,vI 0,vN,vO,vF,vO]) [nx] [gL [iL 6 0,iL 6 1]] H hd rfl (bd.cons (S5 (hd.im 0 rfl) (hd.im 1 rfl)) bd.nil)) ?_;rintro v w2 hq;obtain⟨p8,rfl,hq⟩:=hq;replace hS:=hS.join [1,0] [0,1] rfl rfl hq;exact⟨gL [p8],λ_ _=>rfl,hS.aV [0,1,2] rfl⟩;intro o ho a w iL M Hb hv hO aJ;obtain rfl:=cA ho;have H:=((Hb).add (hv 1 (by decide) (by decide) 22 rfl)).add (hv 7 (by decide) (by decide) 28 rfl);have hS:=aJ;have hd:=hS.hand [3,0] [1,2] rfl rfl;refine bh.mono (CV (T:=bq) (zv:=vG [vU 0,vN,vI 0,vN,vO,vF,vO]) (g1:=mq) (g2:=iL 7 0) (l1:=fG) (l2:=([nx]:List bu)) yQ a7q.symm H hd rfl rfl rfl rfl rfl rfl rfl (by kernel_rfl) (by kernel_rfl) rfl rfl Jn) ?_;rintro v w2 hq;obtain⟨ny,rfl,hq⟩:=hq;replace hS:=hS.join [3,0] [1,2] rfl rfl hq;exact⟨gL [ny],λ_ _=>rfl,hS.aV [0,1,2,3] rfl⟩;intro o ho a w iL M Hb hv hO aJ;obtain rfl:=cA ho;have H:=((Hb).add (hv 8 (by decide) (by decide) 29 rfl)).add (hv 9 (by decide) (by decide) 30 rfl);have hS:=aJ;have hd:=hS.hand [1] [0] rfl rfl;refine bh.mono (qe [vU 2,vN,vI 0,vN,vO,vF,.slice (iL 8 0).a yQ.length (iL 8 0).c] H hd rfl rfl (by kernel_rfl) rfl rfl rfl) ?_;rintro v w2 hq;replace hS:=hS.join [1] [0] rfl rfl hq;exact⟨gL [],(λ_ h=>by cases h),hS.aV [0,1] rfl⟩
 have Jo:Fr 35 (fS [2,4,5,6] [vP b1,vP gB,vL fF cI,vI cL]) _:=aw.aQ (ks:=[2,4,5,6]) uy (by kernel_rfl);replace hS:SH M _ w [eI aa (gi cI cL) (fF.s cL.toNat 0),eO 66 bq ([nx]:List bu) (iL 7 0),eI bq nx.ae (iL 6 1),eI aa nx.aS.Value (iL 6 0),eO 66 bq yQ (iL 8 0),eB gB [vU 2,vN,vI 0,vN,vO,vF,.slice (iL 8 0).a yQ.length (iL 8 0).c],eO 61 (Ty.sl aa) cI fF,eB b1 [vU 0,vN,vI 0,vN,vO,vF,vO]] _:=hS;clear hv uy;generalize iL 7 0=Dz at Jo hS;generalize iL 6 1=Jp at Jo hS;generalize iL 6 0=kg at Jo hS;generalize iL 8 0=ov at Jo hS;replace hS:=hS.aV [4,5,6,7] rfl;refine aN Jo hS (uV 6 (vI (J (cL+1))) [] (aB [0,2,1,3] ?_));exact uh ov hm;intro hm;refine bn ?_;cases hm;exact tg mq;intro je;refine aM (uB 4 [4,5] [31,34] [vG [vU 2,vN,vI 0,vN,vO,vF,vL je z31],vB (decide (ln cI≤64))] [⟨some (vG [vU 2,vN,vI 0,vN,vO,vF,vL je z31]),rN gB 0 [vU 2,vN,vI 0,vN,vO,vF,vL je z31],λ_ hS=>(hS.bk 2 rfl).eU rfl⟩] ?_);refine uL [3] [0,1,2] [31] (oS [vU 2,vN,vI 0,vN,vO,vF,vL je z31] rfl rfl) ?_;refine uB 6 [34] [3] [vB (decide (ln cI≤64))] [] (aC (aB [0,1] (aR ?_)));cases hm;refine cQ 163 aa ?_;exact λ_ _ H71 hS=>pq H71 rfl (qd rfl (hS.bk 1 rfl) underlying66 rfl (by kernel_rfl)) rfl ⟨_,rfl,Gh.nil,je,rfl,hS.aV [0,2] rfl⟩
theorem a7s{al:Gh}(m)(v_)(r)(hm:Nq m v_=some r)(M:Av)(w:World)(hS:S0 M [eI aa v_ al] w):eV prog 124 ⟨[vL al v_]⟩ w (λv w'=>∃(aG:Gh)(dQ:Gh),v=.tuple ⟨[.agg ⟨e4 r.1 (gL [aG,dQ])⟩,vB r.2]⟩∧SH M (ay [eI aa v_ al]) w [eO 163 aa r.1.aS.Value aG,eO 66 bq r.1.ae dQ] w'):=⟨call124 _,a7p M m v_ r hm w hS⟩

def T9(m:Nat)(l_:List a6):Nat→Int→Option Unit
 |0,_=>none
 |kk+1,v9=>cond (decide (v9<ln l_)) (aH (0≤v9∧v9<ln l_)<|Option.bind (Nh m (gi l_ v9)) λkR=>cond (!kR) (none) (T9 m l_ kk (J (v9+1)))) (some ())
def Ta(m:Nat)(l_:List a6):Option Bool:=lt (cond (decide (ln l_<1)) true (decide (16<ln l_))) λx3=>cond x3 (none) (Option.bind (T9 m l_ m 0) λ(z6:Unit)=>some true)
theorem a7t{a7:Gh}(m)(l_)(r)(hm:Ta m l_=some r)(w)(hL:Rd [eI tS l_ a7] w):Rb 234 [vL a7 l_] (vB r) w:=by
 rw[Ta]at hm;refine cu hL (call234 _) func234 ntmps234 λM X w=>?_;refine uO [] (az ?_);obtain⟨x3,iq,hm⟩:=bl hm;refine gf [] hm ?_ (he:=by subst iq;kernel_rfl);intro hm;refine aq ?_;obtain⟨z6,hz,hm⟩:=ah hm;refine uK [0] [] [] [eI tS l_ a7] ?_ ?_;replace hm:=hz;refine uA 3 (vI 0) [] (aL ?_);refine ep [] [3] (λv9=>[vI v9]) (λ_=>[eI tS l_ a7]) hm (λkk v9 hm=>?_);rw[T9]at hm;refine az (uI [] hm ?_ ?_);intro hm;refine aq (az (aL ?_));obtain⟨ml,kR,yR,hm⟩:=kL hm;refine gf [ki 0 ml,kj 0 0 ml,kc (a0g m _ _ yR)] hm ?_;intro hm;exact aq (fK [] hm);intro hm;refine bn ?_;cases hm;exact te;refine aB [] ?_;cases hm;exact uZ [] []

def Tb(m:Nat)(y5:List ax):Nat→List a6→Int→Option (List a6)
 |0,_,_=>none
 |kk+1,bI,v20=>cond (decide (v20<ln y5)) (aH (0≤v20∧v20<ln y5)<|cond (Int.tmod v20 2==0) (cond ((gi y5 v20).aX.an !=1) (none) (aH (ln bI+ln ([(gi y5 v20).aX.cY]:List a6)≤137438953472)<|lt (bI++([(gi y5 v20).aX.cY]:List a6)) λDA=>Tb m y5 kk DA (J (v20+1)))) (none)) (some bI)
def Nr(m:Nat)(v_:List ax):Option ((List a6)×Bool):=Option.bind (AW m v_) λy5=>Option.bind (Tb m y5 m ([]:List a6) 0) λ(iH:List a6)=>Option.bind (cond (Int.tmod (ln y5) 2==1) (Ta m iH) (some default)) λy56=>lt (cond (Int.tmod (ln y5) 2==1) y56 false) λkm=>some (iH,km)
theorem a0q{al:Gh}(m)(v_)(r)(hm:Nr m v_=some r):Dm 179 [vL al v_] [eI aa v_ al] (λ(aG:Gh)=>vW [vL aG r.1,vB r.2]) (λaG=>[eO 9 tS r.1 aG]):=by
 rw[Nr]at hm;refine gy (call179 _) func179 ntmps179 λM X w=>?_;refine uO [] (aM ?_);refine uB 1 [0] [7] [vL al v_] [] ?_;obtain⟨y5,iG,hm⟩:=ah hm;refine uQ [0] [0] [7] (FH (al:=al) m _ _ iG) λg6=>?_;refine uB 3 [8] [0] [vL g6 y5] [] (aC (aB [0] ?_));refine uA 4 vO [] ?_;obtain⟨iH,hz,hm⟩:=ah hm;refine gz [] [4] (λ(kO:Gh)=>[vL kO iH]) (λkO=>[eO 9 tS iH kO,eI aa y5 g6]) ?_ ?_;replace hm:=hz;refine uA 5 (vI 0) [] (aL ?_);refine cQ 9 tS ?_;refine mI [] [0,4,5] (λbI v20 g19=>[vL g6 y5,vL g19 bI,vI v20]) (λbI _ g19=>[eO 9 tS bI g19,eI aa y5 g6]) Gh.nil hm (λkk bI v20 g19 hm=>?_);rw[Tb]at hm;refine az (uI [] hm ?_ ?_);intro hm;refine aq (az (aL (aM ?_)));obtain⟨nU,hm⟩:=bX hm;refine uB 5 [] [19] [.agg ⟨e7 (gi y5 v20).aX⟩] [ki 1 nU,⟨some (.agg ⟨e7 (gi y5 v20).aX⟩),λwz=>V.bZ (ab g6.a) (ao g6.a+v20.toNat*6) (e7 (gi y5 v20).aX) 0 wz,λ_ hS=>(hS.im 1 rfl).eg nU 0 rfl⟩] ?_;refine uM [] [0,1] [] (oA [vU 0,vN,vI 0,vN,vF]) λb26=>?_;refine uL [0] [1,2] [19] (oS (e7 (gi y5 v20).aX) rfl rfl) (aC ?_);refine RC [⟨none,λ_=>(2:Int)≠0,λ_ _=>(by show(2:Int)≠0;decide)⟩] hm ?_;intro hm;refine az (gf [kb 0 0] hm ?_);intro hm;refine aq (dH (uB 3 [4,6] [26,28] [vL g19 bI,vS (gi y5 v20).aX.cY] [kb 0 1] ?_));refine uM [] [0,1,2] [28] (oL tS 9 vN [(gi y5 v20).aX.cY] [gL []] (λ_=>bd.cons trivial bd.nil) rfl) λmq=>?_;obtain⟨pG,DA,Tc,hm⟩:=cx hm;refine uM [2,0] [1,3] [26,29] (oP tS vN g19 mq Tc pG rfl rfl) λj0=>?_;refine uB 6 [30] [0,4,5] [vL g6 y5,vL j0 DA,vI v20] [] (aC (aB [0,3] ?_));exact xi [] j0 hm;intro hm;refine bn ?_;cases hm;exact tg g19;intro kO;obtain⟨y56,a7u,km,DB,hm⟩:=iD hm;refine uR [0,4] [2,3] [vL kO iH,vB km] [⟨none,λ_=>(2:Int)≠0,λ_ _=>(by show(2:Int)≠0;decide)⟩,fw (gT (Int.tmod (ln y5) 2==1)) λ_ hS hg=>a7t (a7:=kO) m _ _ (bT (hg.1) a7u) _ (aK bc (hS.cB 0 rfl))] ?_ (he:=by subst DB;kernel_rfl);refine aB [0] (aR ?_);cases hm;exact db kO [0] eW

def Td(m:Nat)(jg:List (List ax)):Nat→Int→List (List a6)→Option (List (List a6))
 |0,_,_=>none
 |kk+1,sj,B2=>cond (decide (sj<ln jg)) (aH (0≤sj∧sj<ln jg)<|Option.bind (Nr m (gi jg sj)) λxw=>cond (!xw.2) (none) (aH (ln B2+ln ([xw.1]:List (List a6))≤137438953472)<|lt (B2++([xw.1]:List (List a6))) λNs=>Td m jg kk (J (sj+1)) Ns)) (some B2)
def Nt(m:Nat)(c_:oC):Option (bB×Bool):=cond c_.FD (Option.bind (AW m c_.jd) λfh=>cond (ln fh==0) (none) (Option.bind (Nr m c_.jd) λdD=>some (bB.mk 4 ([]:List bL) ([]:List cR) (bu.mk 0 [] 0 (cR.mk [] ([]:List ax) false) ([]:List bu)) ([dD.1]:List (List a6)) ([]:List bB),dD.2))) (Option.bind (FG m c_.jd 18) λjg=>Option.bind (Td m jg m 0 ([]:List (List a6))) λ(oI:List (List a6))=>some (bB.mk 5 ([]:List bL) ([]:List cR) (bu.mk 0 [] 0 (cR.mk [] ([]:List ax) false) ([]:List bu)) oI ([]:List bB),decide (ln jg≤64)))
theorem a7v{aF aj:Gh}(M:Av)(m)(c_)(r)(hm:Nt m c_=some r)(w:World)(hS:S0 M [eI aa c_.jd aF,eI aa c_.lr aj] w):Calls prog 126 ⟨[.agg ⟨xq c_ (gL [aF,aj])⟩]⟩ w (λe w'=>∃v,e=.returned v∧∃(aG:Gh)(dQ:Gh)(wg:Gh)(wj:Gh)(wk:Gh)(wm:Gh),v=.tuple ⟨[.agg ⟨e5 r.1 (gL [aG,dQ,wg,wj,wk,wm])⟩,vB r.2]⟩∧SH M (ay [eI aa c_.jd aF,eI aa c_.lr aj]) w [eO 152 bG r.1.dC aG,eO 63 dB r.1.cO dQ,eO 163 aa r.1.aT.aS.Value wg,eO 66 bq r.1.aT.ae wj,eO 31 (Ty.sl tS) r.1.bH wk,eO 68 bM r.1.bE wm] w'):=by
 rw[Nt]at hm;have aJ:SH M (ay [eI aa c_.jd aF,eI aa c_.lr aj]) w [eI aa c_.jd aF,eI aa c_.lr aj] w:=hS;generalize hX:ay [eI aa c_.jd aF,eI aa c_.lr aj]=X at aJ⊢;clear hS hX;have hS:=aJ;clear aJ;refine dZ func126 rfl ntmps126 rfl λ_ H=>?_;refine aN H hS (aM (ek [] [0,1] [] [] (oB (xq c_ (gL [aF,aj])) rfl) λb1=>?_));refine uM [] [0,1,2] [] (oA [vU 0,vO,vO,vU 0,vN,vI 0,vN,vO,vF,vO,vO,vO]) λb4=>?_;refine uP 3 [] (aC (az ?_));refine uI [kb 1 3] hm ?_ ?_;intro hm;refine aM (uB 1 [] [14] [vG [vU 4,vO,vO,vU 0,vN,vI 0,vN,vO,vF,vO,vO,vO]] [] ?_);refine uM [] [0,1,2,3] [] (oA [vU 0,vO,vO,vU 0,vN,vI 0,vN,vO,vF,vO,vO,vO]) λJq=>?_;refine uL [0] [1,2,3,4] [14] (oS [vU 4,vO,vO,vU 0,vN,vI 0,vN,vO,vF,vO,vO,vO] rfl rfl) (aC (az (aM ?_)));refine uB 2 [] [16] [vL aF c_.jd] [kb 2 1] ?_;obtain⟨fh,tA,hm⟩:=ah hm;refine uQ [3] [0,1,2,3,4] [16] (FH (al:=aF) m _ _ tA) λg21=>?_;refine uB 5 [17] [1,2,4,19] [vP b1,vP b4,vP Jq,vB (ln fh==0)] [] (aC (aB [1,2,3,4,5] ?_));refine D1 hm ?_;intro hm;refine aq (aM (uB 2 [1,19] [23] [vL aF c_.jd] [kb 2 1] ?_));obtain⟨dD,uw,hm⟩:=ah hm;refine uQ [3] [0,1,2,3,4] [23] (a0q (al:=aF) m _ _ uw) λmQ=>?_;refine uB 8 [24] [5,6] [vL mQ dD.1,vB dD.2] [] (aC (aB [0,1,2] (aM ?_)));refine uB 1 [5] [27] [vL mQ dD.1] [] ?_;refine jO [0,1,2] ?_;refine uM [0] [0,1,2] [27] (oL (Ty.sl tS) 31 vO [dD.1] [gL [mQ]] (λhd=>bd.cons (hd.im 0 rfl) bd.nil) rfl) λoy=>?_;refine uB 3 [] [28,29] [vK oy 1,vA Jq 10] [] ?_;refine oY [2] [0,1,3] [2,4,6] [vP b4,vP Jq,vB dD.2] (oS [vU 4,vO,vO,vU 0,vN,vI 0,vN,vO,vF,vO,vK oy 1,vO] rfl rfl) (aC (aB [0,1,3] (aM ?_)));refine uB 2 [4,6] [30,31] [vG [vU 4,vO,vO,vU 0,vN,vI 0,vN,vO,vF,vO,vK oy 1,vO],vB dD.2] [⟨some (vG [vU 4,vO,vO,vU 0,vN,vI 0,vN,vO,vF,vO,vK oy 1,vO]),rN Jq 0 [vU 4,vO,vO,vU 0,vN,vI 0,vN,vO,vF,vO,vK oy 1,vO],λ_ hS=>(hS.bk 0 rfl).eU rfl⟩] ?_;refine uL [2] [0,1] [30] (oS [vU 4,vO,vO,vU 0,vN,vI 0,vN,vO,vF,vO,vK oy 1,vO] rfl rfl) ?_;refine uB 4 [31] [3] [vB dD.2] [] (aC (aB [0,2] (aR ?_)));cases hm;refine cQ 152 bG ?_;refine cQ 63 dB ?_;refine cQ 163 aa ?_;refine cQ 66 bq ?_;refine cQ 68 bM ?_;exact λ_ _ xx hS=>pq xx rfl (qd rfl (hS.bk 5 rfl) underlying68 rfl (by kernel_rfl)) rfl ⟨_,rfl,Gh.nil,Gh.nil,Gh.nil,Gh.nil,oy,Gh.nil,rfl,hS.aV [4,3,2,1,6,0] rfl⟩;intro hm;refine aq (aM (uB 1 [] [32] [vG [vU 5,vO,vO,vU 0,vN,vI 0,vN,vO,vF,vO,vO,vO]] [] ?_));refine uM [] [0,1,2,3] [] (oA [vU 0,vO,vO,vU 0,vN,vI 0,vN,vO,vF,vO,vO,vO]) λwo=>?_;refine uL [0] [1,2,3,4] [32] (oS [vU 5,vO,vO,vU 0,vN,vI 0,vN,vO,vF,vO,vO,vO] rfl rfl) (aC (aM ?_));refine uB 2 [1] [34] [vL aF c_.jd] [kb 2 1] ?_;obtain⟨jg,DC,hm⟩:=ah hm;refine uQ [3] [0,1,2,3,4] [34] (Nd (al:=aF) m _ _ _ DC) λiu=>?_;refine uB 4 [35] [2,7,8] [vP b4,vP wo,vL iu jg] [] (aC (aB [0,1,2] ?_));obtain⟨oI,hz,hm⟩:=ah hm;refine gz [] [] (λ(mT:Gh)=>[]) (λmT=>[eO 31 (Ty.sl tS) oI mT,eO 61 (Ty.sl aa) jg iu,eB wo [vU 5,vO,vO,vU 0,vN,vI 0,vN,vO,vF,vO,vL mT oI,vO],eB b4 [vU 0,vO,vO,vU 0,vN,vI 0,vN,vO,vF,vO,vO,vO]]) ?_ ?_;replace hm:=hz;refine uA 9 (vI 0) [] (aL ?_);refine cQ 31 (Ty.sl tS) ?_;refine mI [] [9] (λsj _ _=>[vI sj]) (λ_ B2 pJ=>[eO 31 (Ty.sl tS) B2 pJ,eO 61 (Ty.sl aa) jg iu,eB wo [vU 5,vO,vO,vU 0,vN,vI 0,vN,vO,vF,vO,vL pJ B2,vO],eB b4 [vU 0,vO,vO,vU 0,vN,vI 0,vN,vO,vF,vO,vO,vO]]) Gh.nil hm (λkk sj B2 pJ hm=>?_);rw[Td]at hm;refine az (uI [] hm ?_ ?_);intro hm;refine aq (az (aL (aM ?_)));obtain⟨FO,hm⟩:=bX hm;refine uB 4 [] [46] [.slice (iu.s sj.toNat 0).a (gi jg sj).length (iu.s sj.toNat 0).c] [kI 1 FO,kJ 1 0 FO] ?_;intro _ _ wq hS;replace hS:=hS.eN (eK ((hS.ow 1 rfl).el FO));obtain⟨xw,a7w,hm⟩:=ah hm;refine aN wq hS (uQ [0] [0,1,2,3,4] [46] (a0q (al:=iu.s sj.toNat 0) m _ _ a7w) λjA=>?_);refine uB 10 [47] [10,11] [vL jA xw.1,vB xw.2] [] (aC (aB [0,2,3,4,5] (az ?_)));refine uR [11] [2,7,8,9,10,51] [vP b4,vP wo,vL iu jg,vI sj,vL jA xw.1,vB (!xw.2)] [] ?_;refine D1 hm ?_;intro hm;refine aq (dH (uB 3 [10,51] [54,55] [vL pJ B2,vL jA xw.1] [kb 3 10] ?_));refine jO [0,1,2,3,4] ?_;refine uM [0] [0,1,2,3,4] [55] (oL (Ty.sl tS) 31 vO [xw.1] [gL [jA]] (λhd=>bd.cons (hd.im 0 rfl) bd.nil) rfl) λg98=>?_;obtain⟨a7x,Ns,a7y,hm⟩:=cx hm;refine uM [2,0] [1,3,4,5] [54,56] (oP (Ty.sl tS) vO pJ g98 a7y a7x rfl rfl) λTe=>?_;refine uB 6 [] [57,58] [vL Te Ns,vA wo 10] [] ?_;refine uL [4] [0,1,2,3,5] [57,58] (oS [vU 5,vO,vO,vU 0,vN,vI 0,vN,vO,vF,vO,vL Te Ns,vO] rfl rfl) (aC (aB [0,1,4,5] ?_));refine uV 9 (vI (J (sj+1))) [] (aB [1,2,0,3] ?_);exact uh Te hm;intro hm;refine bn ?_;cases hm;exact tg pJ;intro mT;refine aM (uB 4 [7,8] [59,62] [vG [vU 5,vO,vO,vU 0,vN,vI 0,vN,vO,vF,vO,vL mT oI,vO],vB (decide (ln jg≤64))] [⟨some (vG [vU 5,vO,vO,vU 0,vN,vI 0,vN,vO,vF,vO,vL mT oI,vO]),rN wo 0 [vU 5,vO,vO,vU 0,vN,vI 0,vN,vO,vF,vO,vL mT oI,vO],λ_ hS=>(hS.bk 2 rfl).eU rfl⟩] ?_);refine uL [3] [0,1,2] [59] (oS [vU 5,vO,vO,vU 0,vN,vI 0,vN,vO,vF,vO,vL mT oI,vO] rfl rfl) ?_;refine uB 6 [62] [3] [vB (decide (ln jg≤64))] [] (aC (aB [0,1] (aR ?_)));cases hm;refine cQ 152 bG ?_;refine cQ 63 dB ?_;refine cQ 163 aa ?_;refine cQ 66 bq ?_;refine cQ 68 bM ?_;exact λ_ _ a7z hS=>pq a7z rfl (qd rfl (hS.bk 5 rfl) underlying68 rfl (by kernel_rfl)) rfl ⟨_,rfl,Gh.nil,Gh.nil,Gh.nil,Gh.nil,mT,Gh.nil,rfl,hS.aV [4,3,2,1,6,0] rfl⟩
theorem a7A{aF aj:Gh}(m)(c_)(r)(hm:Nt m c_=some r)(M:Av)(w:World)(hS:S0 M [eI aa c_.jd aF,eI aa c_.lr aj] w):eV prog 126 ⟨[.agg ⟨xq c_ (gL [aF,aj])⟩]⟩ w (λv w'=>∃(aG:Gh)(dQ:Gh)(wg:Gh)(wj:Gh)(wk:Gh)(wm:Gh),v=.tuple ⟨[.agg ⟨e5 r.1 (gL [aG,dQ,wg,wj,wk,wm])⟩,vB r.2]⟩∧SH M (ay [eI aa c_.jd aF,eI aa c_.lr aj]) w [eO 152 bG r.1.dC aG,eO 63 dB r.1.cO dQ,eO 163 aa r.1.aT.aS.Value wg,eO 66 bq r.1.aT.ae wj,eO 31 (Ty.sl tS) r.1.bH wk,eO 68 bM r.1.bE wm] w'):=⟨call126 _,a7v M m c_ r hm w hS⟩

def Nu(m:Nat)(c_:oC):Option (bB×Bool):=cond (c_.At==[]) (Option.bind (SV m c_.jd) λkR=>cond (cond (!c_.FD) true (kR.2 !=0)) (none) (Option.bind (SY m c_.lr) λcI=>some (bB.mk 1 kR.1 cI (bu.mk 0 [] 0 (cR.mk [] ([]:List ax) false) ([]:List bu)) ([]:List (List a6)) ([]:List bB),true))) (Option.bind (FM m c_.At [109,101,100,105,97]) λrc=>cond (cond rc c_.FD false) (Option.bind (Nq m c_.jd) λfL=>some (bB.mk 2 ([]:List bL) ([]:List cR) fL.1 ([]:List (List a6)) ([]:List bB),fL.2)) (Option.bind (FM m c_.At [115,117,112,112,111,114,116,115]) λDD=>cond (cond DD c_.FD false) (none) (Option.bind (FM m c_.At [108,97,121,101,114]) λy74=>cond y74 (Option.bind (Nt m c_) λDE=>some (DE.1,DE.2)) (none))))
theorem a7B{aF aj:Gh}(M:Av)(m)(c_)(r)(hm:Nu m c_=some r)(w:World)(hS:S0 M [eI aa c_.jd aF,eI aa c_.lr aj] w):Calls prog 79 ⟨[.agg ⟨xq c_ (gL [aF,aj])⟩]⟩ w (λe w'=>∃v,e=.returned v∧∃(aG:Gh)(dQ:Gh)(wg:Gh)(wj:Gh)(wk:Gh)(wm:Gh),v=.tuple ⟨[.agg ⟨e5 r.1 (gL [aG,dQ,wg,wj,wk,wm])⟩,vB r.2]⟩∧SH M (ay [eI aa c_.jd aF,eI aa c_.lr aj]) w [eO 152 bG r.1.dC aG,eO 63 dB r.1.cO dQ,eO 163 aa r.1.aT.aS.Value wg,eO 66 bq r.1.aT.ae wj,eO 31 (Ty.sl tS) r.1.bH wk,eO 68 bM r.1.bE wm] w'):=by
 rw[Nu]at hm;have aJ:SH M (ay [eI aa c_.jd aF,eI aa c_.lr aj]) w [eI aa c_.jd aF,eI aa c_.lr aj] w:=hS;generalize hX:ay [eI aa c_.jd aF,eI aa c_.lr aj]=X at aJ⊢;clear hS hX;have hS:=aJ;clear aJ;refine dZ func79 rfl ntmps79 rfl λ_ H=>?_;refine aN H hS (aM (ek [] [0,1] [] [] (oB (xq c_ (gL [aF,aj])) rfl) λb1=>?_));refine uM [] [0,1,2] [] (oA [vU 0,vO,vO,vU 0,vN,vI 0,vN,vO,vF,vO,vO,vO]) λb4=>?_;refine uP 3 [] (aC (az ?_));refine uI [kb 1 0] hm ?_ ?_;intro hm;refine aM (uB 2 [] [15] [vL aF c_.jd] [kb 1 1] ?_);obtain⟨kR,yR,hm⟩:=ah hm;refine uQ [2] [0,1,2,3] [15] (a7i (al:=aF) m _ _ yR) λg14=>?_;refine uB 8 [16] [4,5] [vL g14 kR.1,vI kR.2] [] (aC (az ?_));refine rT [5] [kb 2 3] hm ?_;intro hm;refine aq (aM (uB 3 [1,4] [27,29] [vL g14 kR.1,vL aj c_.lr] [kb 2 2] ?_));obtain⟨cI,nT,hm⟩:=ah hm;refine RB [4] [0,1,2,3,4] [2,27] [vP b4,vL g14 kR.1] (a7k (al:=aj) m _ _ nT) λfF=>?_;refine uB 5 [27,30] [31] [vG [vU 1,vL g14 kR.1,vL fF cI,vU 0,vN,vI 0,vN,vO,vF,vO,vO,vO]] [] ?_;refine uL [2] [0,1,3,4,5] [31] (oS [vU 1,vL g14 kR.1,vL fF cI,vU 0,vN,vI 0,vN,vO,vF,vO,vO,vO] rfl rfl) ?_;refine uB 7 [] [3] [vT] [] (aC (aB [0,1,2] (aR ?_)));cases hm;refine cQ 163 aa ?_;refine cQ 66 bq ?_;refine cQ 31 (Ty.sl tS) ?_;refine cQ 68 bM ?_;exact λ_ _ jR hS=>pq jR rfl (qd rfl (hS.bk 4 rfl) underlying68 rfl (by kernel_rfl)) rfl ⟨_,rfl,g14,fF,Gh.nil,Gh.nil,Gh.nil,Gh.nil,rfl,hS.aV [6,5,3,2,1,0] rfl⟩;intro hm;refine aq (az ?_);obtain⟨rc,Jr,hm⟩:=ah hm;refine uA 38 (vB (cond rc c_.FD false)) [kb 1 0,kc (Nk m _ _ _ Jr),bP (gT rc) 1 3] ?_;refine qL (λhc=>?_) (λhc=>?a7C)
 case a7C=>
  replace hm:=bF hc hm;refine aq (az ?_);obtain⟨DD,Tf,hm⟩:=ah hm;refine rT [38] [kb 1 0,kc (Nk m _ _ _ Tf),bP (gT DD) 1 3] hm ?_;intro hm;refine aq (az ?_);obtain⟨y74,a7D,hm⟩:=ah hm;refine uI [kb 1 0,kc (Nk m _ _ _ a7D)] hm ?_ ?_;intro hm;refine aM (uB 1 [1] [67] [.agg ⟨xq c_ (gL [aF,aj])⟩] [kE 1 4] ?_);obtain⟨DE,a7E,hm⟩:=ah hm;intro _ _ H78 hS;have hd:=hS.hand [2,3] [0,1,2,3] rfl rfl;refine fY [68,2] [(2,[],vP b4)] H78 rfl rfl rfl rfl (dv H78 rfl rfl (a7A (aF:=aF) (aj:=aj) m _ _ a7E _ _ hd)) (λ_=>rfl) λ_ _ v Nv hq=>?_;obtain⟨pJ,yS,us,jB,jA,Nw,rfl,hq⟩:=hq;replace hS:=hS.join [2,3] [0,1,2,3] rfl rfl hq;refine aN Nv hS (fQ 4 [2,69,70] [vP b4,.agg ⟨e5 DE.1 (gL [pJ,yS,us,jB,jA,Nw])⟩,vB DE.2] [] ?_);refine uL [6] [0,1,2,3,4,5,7,8,9] [69] (oS (e5 DE.1 (gL [pJ,yS,us,jB,jA,Nw])) rfl rfl) ?_;refine uB 6 [70] [3] [vB DE.2] [] (aC (aB [0,1,2,3,4,5,6] (aR ?_)));cases hm;exact λ_ _ FP hS=>pq FP rfl (qd rfl (hS.bk 0 rfl) underlying68 rfl (by kernel_rfl)) rfl ⟨_,rfl,pJ,yS,us,jB,jA,Nw,rfl,hS.aV [1,2,3,4,5,6] rfl⟩;intro hm;refine aq ?_;intro _ _ Nx hS;exact cM hm
 replace hm:=bT hc hm;refine aM (uB 2 [1,38] [41] [vL aF c_.jd] [kb 1 1] ?_);obtain⟨fL,Dw,hm⟩:=ah hm;intro _ _ re hS;have hd:=hS.hand [2] [0,1,2,3] rfl rfl;refine fY [42,2] [(2,[],vP b4)] re rfl rfl rfl rfl (dv re rfl rfl (a7s (al:=aF) m _ _ Dw _ _ hd)) (λ_=>rfl) λ_ _ v xx hq=>?_;obtain⟨lq,p8,rfl,hq⟩:=hq;replace hS:=hS.join [2] [0,1,2,3] rfl rfl hq;refine aN xx hS (fQ 6 [2,43,44] [vP b4,.agg ⟨e4 fL.1 (gL [lq,p8])⟩,vB fL.2] [] ?_);refine uM [] [0,1,2,3,4,5] [] (oA [vU 0,vN,vI 0,vN,vO,vF,vO]) λb54=>?_;refine uL [0] [1,2,3,4,5,6] [43] (oS (e4 fL.1 (gL [lq,p8])) rfl rfl) ?_;refine uB 9 [44] [7] [vB fL.2] [] (aC (aB [0,1,2,3] (aM ?_)));refine uB 3 [6,7] [2,46,47] [vP b4,vG [vU 2,vO,vO,vU fL.1.an,vS fL.1.bm,vI fL.1.cS,vS fL.1.aS.bm,vL lq fL.1.aS.Value,vB fL.1.aS.lN,vL p8 fL.1.ae,vO,vO],vB fL.2] [kE 0 7] ?_;refine uL [3] [0,1,2] [46] (oS [vU 2,vO,vO,vU fL.1.an,vS fL.1.bm,vI fL.1.cS,vS fL.1.aS.bm,vL lq fL.1.aS.Value,vB fL.1.aS.lN,vL p8 fL.1.ae,vO,vO] rfl rfl) ?_;refine uB 5 [47] [3] [vB fL.2] [] (aC (aB [0,2,3] (aR ?_)));cases hm;refine cQ 152 bG ?_;refine cQ 63 dB ?_;refine cQ 31 (Ty.sl tS) ?_;refine cQ 68 bM ?_;exact λ_ _ H66 hS=>pq H66 rfl (qd rfl (hS.bk 4 rfl) underlying68 rfl (by kernel_rfl)) rfl ⟨_,rfl,Gh.nil,Gh.nil,lq,p8,Gh.nil,Gh.nil,rfl,hS.aV [3,2,5,6,1,0] rfl⟩
theorem a7F{aF aj:Gh}(m)(c_)(r)(hm:Nu m c_=some r)(M:Av)(w:World)(hS:S0 M [eI aa c_.jd aF,eI aa c_.lr aj] w):eV prog 79 ⟨[.agg ⟨xq c_ (gL [aF,aj])⟩]⟩ w (λv w'=>∃(aG:Gh)(dQ:Gh)(wg:Gh)(wj:Gh)(wk:Gh)(wm:Gh),v=.tuple ⟨[.agg ⟨e5 r.1 (gL [aG,dQ,wg,wj,wk,wm])⟩,vB r.2]⟩∧SH M (ay [eI aa c_.jd aF,eI aa c_.lr aj]) w [eO 152 bG r.1.dC aG,eO 63 dB r.1.cO dQ,eO 163 aa r.1.aT.aS.Value wg,eO 66 bq r.1.aT.ae wj,eO 31 (Ty.sl tS) r.1.bH wk,eO 68 bM r.1.bE wm] w'):=⟨call79 _,a7B M m c_ r hm w hS⟩

def Ny(cy:Int):Bool:=lt (cond (cond (cy==2) true (cy==3)) true (cy==4)) λx3=>x3
theorem a7G(cy:Int):Rt 80 [vU cy] (vB (Ny cy)):=by
 generalize hm:Ny cy=r;rw[Ny]at hm;refine df (call80 _) func80 ntmps80 λM X w=>?_;refine uO [] ?_;obtain⟨x3,iq,hm⟩:=bl hm;refine uR [0] [2] [vB x3] [] ?_ (he:=by subst iq;kernel_rfl);refine aR ?_;subst hm;exact bj [] bp

def a7H(eC:(List ax)→Bool→Int→Option ((List bB)×Int)):Prop:=∀(al:Gh)(M:Av)(v_:List ax)(top:Bool)(room:Int)(r:(List bB)×Int),eC v_ top room=some r→∀w,S0 M [eI aa v_ al] w→Calls prog 51 ⟨[vL al v_,vB top,vI room]⟩ w (λe w'=>∃v,e=.returned v∧∃(aG:Gh),v=vW [vL aG r.1,vI r.2]∧SH M (ay [eI aa v_ al]) w [eO 68 bM r.1 aG] w')
def Tg(m:Nat)(y7:List oC)(a0r:(List ax)→Bool→Int→Option ((List bB)×Int)):Nat→Int→List bB→Int→Option (Int×(List bB))
 |0,_,_,_=>none
 |kk+1,bI,dp,v21=>lt (cond (decide (v21<ln y7)) (decide (0<bI)) false) λlz=>cond lz (Option.bind (aH (0≤v21∧v21<ln y7)<|Option.bind (Nu m (gi y7 v21)) λdk=>cond (!dk.2) (some (bI,dp)) (Option.bind (cond (Ny dk.1.an) (Option.bind (a0r (gi y7 v21).lr false (J (bI-1))) λwu=>some (wu.2,wu.1)) (some (J (bI-1),dk.1.bE))) λ(z59:Int×(List bB))=>aH (ln dp+ln ([bB.mk dk.1.an dk.1.dC dk.1.cO dk.1.aT dk.1.bH z59.2]:List bB)≤137438953472)<|lt (dp++([bB.mk dk.1.an dk.1.dC dk.1.cO dk.1.aT dk.1.bH z59.2]:List bB)) λTh=>some (z59.1,Th))) λ(z25:Int×(List bB))=>Tg m y7 a0r kk z25.1 z25.2 (J (v21+1))) (some (bI,dp))
def Nz(m:Nat):Nat→List ax→Bool→Int→Option ((List bB)×Int)
 |0,_,_,_=>none
 |k+1,v_,top,room=>Option.bind (Sx m v_ top) λy7=>Option.bind (Tg m y7 (Nz m k) m room ([]:List bB) 0) λ(iH:Int×(List bB))=>some (iH.2,iH.1)
theorem a7I(m:Nat):∀(k:Nat),a7H (Nz m k):=by
 intro k
 induction k with
 |zero=>intro al M v_ top room r hm;exact cM hm
 |succ k ih=>
  intro al M v_ top room r hm w hS;rw[Nz]at hm;have aJ:SH M (ay [eI aa v_ al]) w [eI aa v_ al] w:=hS;generalize hX:ay [eI aa v_ al]=X at aJ⊢;clear hS hX;have hS:=aJ;clear aJ;refine dZ func51 rfl ntmps51 rfl λ_ H=>?_;refine aN H hS (dm [0,1,2] [vL al v_,vB top,vI room] [] ?_);refine uA 8 vO [] (aM ?_);refine uB 2 [0,1] [13,14] [vL al v_,vB top] [] ?_;obtain⟨y7,qS,hm⟩:=ah hm;refine uQ [0] [0] [13,14] (a6X (al:=al) m _ _ _ qS) λg8=>?_;refine uB 4 [15] [9] [vL g8 y7] [] (aC (aB [0] ?_));obtain⟨iH,hz,hm⟩:=ah hm;refine gz [9] [2,8] (λ(FQ:Gh)=>[vI iH.1,vL FQ iH.2]) (λFQ=>[eO 68 bM iH.2 FQ,eO 145 p7 y7 g8]) ?_ ?_;replace hm:=hz;refine uA 10 (vI 0) [] (aL ?_);refine cQ 68 bM ?_;refine MK [] [9,2,8,10] (λbI dp v21 g20=>[vL g8 y7,vI bI,vL g20 dp,vI v21]) (λ_ dp _ g20=>[eO 68 bM dp g20,eO 145 p7 y7 g8]) Gh.nil hm (λkk bI dp v21 g20 hm=>?_);rw[Tg]at hm;refine az ?_;obtain⟨lz,tH,hm⟩:=bl hm;refine uI [] hm ?_ ?_ (he:=by subst tH;kernel_rfl);intro hm;refine aq ?_;obtain⟨z25,hz,hm⟩:=ah hm;refine gz [] [2,8] (λ(nV:Gh)=>[vI z25.1,vL nV z25.2]) (λnV=>[eO 68 bM z25.2 nV,eO 145 p7 y7 g8]) ?_ ?_;replace hm:=hz;refine aL (aM ?_);obtain⟨lQ,hm⟩:=bX hm;refine uB 4 [] [30] [.agg ⟨xq (gi y7 v21) (g8.s v21.toNat)⟩] [kI 1 lQ,⟨some (.agg ⟨xq (gi y7 v21) (g8.s v21.toNat)⟩),λwz=>V.bZ (ab g8.a) (ao g8.a+v21.toNat*4) (xq (gi y7 v21) (g8.s v21.toNat)) 0 wz,λ_ hS=>(hS.cB 1 rfl).eg lQ 0 rfl⟩] ?_;intro _ _ ll hS;replace hS:=hS.eN (a6V ((hS.ow 1 rfl).el lQ));replace hS:=hS.eN (a0f ((hS.ow 2 rfl).el lQ));obtain⟨dk,Js,hm⟩:=ah hm;have hd:=hS.hand [1,0] [0,1,2,3] rfl rfl;refine fY [31,2,8,9,10] (fS [2,8,9,10] [vI bI,vL g20 dp,vL g8 y7,vI v21]) ll rfl rfl rfl rfl (dv ll rfl rfl (a7F (aF:=g8.s v21.toNat 0) (aj:=g8.s v21.toNat 1) m _ _ Js _ _ hd)) (λ_=>rfl) λ_ _ v yT hq=>?_;obtain⟨eX,nQ,p9,oy,nM,lR,rfl,hq⟩:=hq;replace hS:=hS.join [1,0] [0,1,2,3] rfl rfl hq;refine aN yT hS (fQ 8 [2,8,9,10,32,33] [vI bI,vL g20 dp,vL g8 y7,vI v21,.agg ⟨e5 dk.1 (gL [eX,nQ,p9,oy,nM,lR])⟩,vB dk.2] [] ?_);refine uM [] [0,1,2,3,4,5,6,7,8,9] [] (oA [vU 0,vO,vO,vU 0,vN,vI 0,vN,vO,vF,vO,vO,vO]) λJt=>?_;refine uL [0] [1,2,3,4,5,6,7,8,9,10] [32] (oS (e5 dk.1 (gL [eX,nQ,p9,oy,nM,lR])) rfl rfl) ?_;refine uB 11 [33] [12] [vB dk.2] [] (aC (aB [0,1,2,3,4,5,6,9,10] (az ?_)));refine uJ [12] [] hm ?_ ?_;intro hm;refine bn ?_;cases hm;refine aB [7,8] ?_;exact tg g20;intro hm;refine aq (uR [] [2,8,9,10,11] [vI (J (bI-1)),vL g20 dp,vL g8 y7,vI v21,vP Jt] [] ?_);obtain⟨z59,hz,hm⟩:=ah hm;refine gz [] [2] (λ(nW:Gh)=>[vI z59.1]) (λnW=>[eO 68 bM z59.2 nW,eB Jt [vU dk.1.an,vL eX dk.1.dC,vL nQ dk.1.cO,vU dk.1.aT.an,vS dk.1.aT.bm,vI dk.1.aT.cS,vS dk.1.aT.aS.bm,vL p9 dk.1.aT.aS.Value,vB dk.1.aT.aS.lN,vL oy dk.1.aT.ae,vL nM dk.1.bH,vL nW z59.2],eO 152 bG dk.1.dC eX,eO 63 dB dk.1.cO nQ,eO 163 aa dk.1.aT.aS.Value p9,eO 66 bq dk.1.aT.ae oy,eO 31 (Ty.sl tS) dk.1.bH nM,eO 68 bM dp g20,eO 145 p7 y7 g8]) ?_ ?_;replace hm:=hz;refine uI [kb 0 0,kc (a7G dk.1.an)] hm ?_ ?_;intro hm;refine dH (uB 6 [2] [46,47] [.slice (g8.s v21.toNat 1).a (gi y7 v21).lr.length (g8.s v21.toNat 1).c,vI (J (bI-1))] [kI 8 lQ,kJ 8 2 lQ] ?_);intro _ _ lS hS;replace hS:=hS.eN (a0f ((hS.ow 8 rfl).el lQ));obtain⟨wu,Ti,hm⟩:=ah hm;refine aN lS hS (uM [0] [0,1,2,3,4,5,6,7,8,9] [46,47] (λ_ _ lS hd=>dv lS rfl rfl (⟨call51 _,ih (g8.s v21.toNat 1) _ _ _ _ _ Ti _ hd⟩:eV _ _ _ _ _)) λrf=>?_);refine uB 11 [48] [49,50,51] [vL rf wu.1,vI wu.2,vA Jt 11] [] ?_;refine uL [2] [0,1,3,4,5,6,7,8,9,10] [49,51] (oS [vU dk.1.an,vL eX dk.1.dC,vL nQ dk.1.cO,vU dk.1.aT.an,vS dk.1.aT.bm,vI dk.1.aT.cS,vS dk.1.aT.aS.bm,vL p9 dk.1.aT.aS.Value,vB dk.1.aT.aS.lN,vL oy dk.1.aT.ae,vL nM dk.1.bH,vL rf wu.1] rfl rfl) ?_;refine uB 13 [50] [2] [vI wu.2] [] (aC (aB [0,1,3,4,5,6,7,8,9,10] ?_));cases hm;refine aB [1,0,2,3,4,5,6,8,9] ?_;exact tg rf;intro hm;refine aq ?_;cases hm;refine aB [6,0,1,2,3,4,5,7,8] ?_;exact tg lR;intro nW;refine dH (uB 2 [8,11] [52,53] [vL g20 dp,vG [vU dk.1.an,vL eX dk.1.dC,vL nQ dk.1.cO,vU dk.1.aT.an,vS dk.1.aT.bm,vI dk.1.aT.cS,vS dk.1.aT.aS.bm,vL p9 dk.1.aT.aS.Value,vB dk.1.aT.aS.lN,vL oy dk.1.aT.ae,vL nM dk.1.bH,vL nW z59.2]] [kE 1 12] ?_);refine jO [2,0,1,3,4,5,6,7,8] ?_;refine jO [3,0,1,2,4,5,6,7,8] ?_;refine jO [4,0,1,2,3,5,6,7,8] ?_;refine jO [5,0,1,2,3,4,6,7,8] ?_;refine jO [6,0,1,2,3,4,5,7,8] ?_;refine jO [5,0,1,2,3,4,6,7,8] ?_;refine uM [5,4,3,2,1,0] [0,1,2,3,4,5,6,7,8] [53] (oL bM 68 (vG [vU 0,vO,vO,vU 0,vN,vI 0,vN,vO,vF,vO,vO,vO]) [bB.mk dk.1.an dk.1.dC dk.1.cO dk.1.aT dk.1.bH z59.2] [gL [eX,nQ,p9,oy,nM,nW]] (λhd=>bd.cons (ZY (hd.im 0 rfl) (hd.im 1 rfl) (hd.im 2 rfl) (hd.im 3 rfl) (hd.im 4 rfl) (hd.im 5 rfl)) bd.nil) rfl) λJu=>?_;obtain⟨Tj,Th,a7J,hm⟩:=cx hm;refine uM [8,0] [1,2,3,4,5,6,7,9] [52,54] (oP bM (vG [vU 0,vO,vO,vU 0,vN,vI 0,vN,vO,vF,vO,vO,vO]) g20 Ju a7J Tj rfl rfl) λkq=>?_;refine uB 5 [55] [8] [vL kq Th] [] (aC (aB [0,9] ?_));cases hm;exact tg kq;intro nV;exact Zk [] nV hm;intro hm;refine bn ?_;cases hm;exact tg g20;intro FQ;refine aB [0] ?_;refine uR [2,8] [6,7] [vL FQ iH.2,vI iH.1] [] (aR ?_);cases hm;exact db FQ [0] eW
def a0s(m:Nat)(v_:List ax)(top:Bool)(room:Int):Option ((List bB)×Int):=Nz m m v_ top room
theorem a7K{al:Gh}(m)(v_)(top)(room)(r)(hm:a0s m v_ top room=some r)(M:Av)(w:World)(hS:S0 M [eI aa v_ al] w):eV prog 51 ⟨[vL al v_,vB top,vI room]⟩ w (λv w'=>∃(aG:Gh),v=vW [vL aG r.1,vI r.2]∧SH M (ay [eI aa v_ al]) w [eO 68 bM r.1 aG] w'):=⟨call51 _,a7I m m al M v_ top room r hm w hS⟩

def Tk(m:Nat)(s:a6):Option (tt×Int):=Option.bind (Sv m s) λy8=>cond (y8.2 !=0) (none) (Option.bind (a0s m y8.1 true 64) λfo=>some (tt.mk fo.1,0))
theorem a7L(m)(s)(r)(hm:Tk m s=some r):Dm 33 [vS s] [] (λ(aG:Gh)=>vW [vG [vL aG r.1.bE],vI r.2]) (λaG=>[eO 68 bM r.1.bE aG]):=by
 rw[Tk]at hm;refine gy (call33 _) func33 ntmps33 λM X w=>(aM ?_);refine uM [] [] [] (oA [vO]) λb1=>?_;refine uP 2 [] (aC (aM ?_));refine uB 1 [0] [9] [vS s] [] ?_;obtain⟨y8,k6,hm⟩:=ah hm;refine uQ [] [0] [9] (a6T m _ _ k6) λg9=>?_;refine uB 7 [10] [4,5] [vL g9 y8.1,vI y8.2] [] (aC (az ?_));refine gf [] hm ?_;intro hm;refine aq (aM (uB 1 [4,5] [18] [vL g9 y8.1] [] ?_));refine jO [0,1] ?_;obtain⟨fo,qk,hm⟩:=ah hm;refine uQ [0] [0,1] [18] (a7K (al:=g9) m _ _ _ _ qk) λg20=>?_;refine uB 7 [19] [2,6] [vP b1,vL g20 fo.1] [] (aC (aB [0,2] (aM ?_)));refine uB 2 [6] [23] [vG [vL g20 fo.1]] [] ?_;refine uL [1] [0] [23] (oS [vL g20 fo.1] rfl rfl) ?_;refine uB 4 [] [3] [vI 0] [] (aC (aR ?_));cases hm;exact db g20 [1] (lK 0 underlying41)

def Tl(m:Nat)(fA:Int)(s:a6):Option gg:=Option.bind (Tk m s) λy6=>some (gg.mk fA (tt.mk y6.1.bE))
theorem a7M(m)(fA)(s)(r)(hm:Tl m fA s=some r):Dm 19 [vU fA,vS s] [] (λ(aG:Gh)=>vG [vU r.pB,vL aG r.iF.bE]) (λaG=>[eO 68 bM r.iF.bE aG]):=by
 rw[Tl]at hm;refine gy (call19 _) func19 ntmps19 λM X w=>(aM ?_);refine uM [] [] [] (oA [vU 0,vO]) λb1=>aC (aM ?_);refine uB 1 [1] [4,8] [vP b1,vS s] [] ?_;obtain⟨y6,gh,hm⟩:=ah hm;refine uQ [] [0] [8] (a7L m _ _ gh) λg7=>?_;refine uB 5 [9] [10,11] [vG [vL g7 y6.1.bE],vI y6.2] [] ?_;refine uM [] [0,1] [] (oA [vO]) λJq=>?_;refine uL [0] [1,2] [10] (oS [vL g7 y6.1.bE] rfl rfl) ?_;refine uB 8 [11] [] [] [] (aC (aM ?_));refine uB 3 [0,5] [4,14] [vP b1,vG [vU fA,vL g7 y6.1.bE]] [kE 0 1] ?_;refine uL [2] [0,1] [14] (oS [vU fA,vL g7 y6.1.bE] rfl rfl) (aC (aB [0,2] (aR ?_)));cases hm;exact db g7 [1] (IQ 0 underlying43)

def NA(m:Nat)(s:a6):Option (List gg):=Option.bind (Tl m 3 s) λy5=>some ([y5]:List gg)
theorem a0t(m)(s)(r)(hm:NA m s=some r):Dm 9 [vS s] [] (λ(aG:Gh)=>vL aG r) (λaG=>[eO 43 gJ r aG]):=by
 rw[NA]at hm;refine gy (call9 _) func9 ntmps9 λM X w=>?_;refine uO [] (aM ?_);refine uB 1 [0] [3] [vS s] [] ?_;obtain⟨y5,iG,hm⟩:=ah hm;refine uQ [] [] [3] (a7M m _ _ _ iG) λg6=>?_;refine jO [0] ?_;refine uM [0] [0] [4] (oL gJ 43 (vG [vU 0,vO]) [y5] [gL [g6]] (λhd=>bd.cons (ZZ (hd.im 0 rfl)) bd.nil) rfl) λg10=>?_;refine uB 4 [5] [2] [vK g10 1] [] (aC (aB [0] (aR ?_)));cases hm;exact db g10 [0] bp

theorem a7N(x0:a6)(x1:Int)(w:World):Rb 235 [vS x0,vU x1] (vI (Fi x0 x1)) w:=a4B func235 (by kernel_rfl) rfl (by kernel_rfl) (by kernel_rfl) _ _ w

structure yU where
  rules:Int
  depth:Int
  bad:Bool
instance:Inhabited yU:=⟨⟨default,default,default⟩⟩
def a7O:Ty yU where
  z:=3
  enc:=λx g=>[vI x.rules,vI x.depth,vB x.bad]
  bJ:=λ_ _ _ _=>True
  len:=λ_ _=>rfl
  one:=λ_ _=>rfl
  kp:=λ_ _ _=>trivial
  bU:=λ_ _=>trivial
  fresh:=λ_=>trivial
def FR(x:yU):List Value:=a7O.enc x (gL [])
def stringslite_IndexByte(s:a6)(c_:Int):Int:=(Fi s c_)
theorem a0u(s:a6)(c_:Int):Rt 182 [vS s,vU c_] (vI (stringslite_IndexByte s c_)):=by
 generalize hm:stringslite_IndexByte s c_=r;rw[stringslite_IndexByte]at hm;refine df (call182 _) func182 ntmps182 λM X w=>?_;refine uO [] ?_;refine uR [0,1] [4] [vI (Fi s c_)] [⟨some (vI (Fi s c_)),rB 235 [vS s,vU c_] (vI (Fi s c_)),λ_ _=>a7N _ _ _⟩] (aR ?_);subst hm;exact bj [] bp

def strings_IndexByte(s:a6)(c_:Int):Int:=(stringslite_IndexByte s c_)
theorem Jv(s:a6)(c_:Int):Rt 130 [vS s,vU c_] (vI (strings_IndexByte s c_)):=by
 generalize hm:strings_IndexByte s c_=r;rw[strings_IndexByte]at hm;refine df (call130 _) func130 ntmps130 λM X w=>?_;refine uO [] ?_;refine uR [0,1] [4] [vI (stringslite_IndexByte s c_)] [kc (a0u s c_)] (aR ?_);subst hm;exact bj [] bp

def NB(s:a6):Bool:=lt (cond (s==[]) true (decide (64<ln s))) λx3=>lt (cond x3 true (decide (0≤strings_IndexByte s 0))) λx4=>x4
theorem a7P(s:a6):Rt 129 [vS s] (vB (NB s)):=by
 generalize hm:NB s=r;rw[NB]at hm;refine df (call129 _) func129 ntmps129 λM X w=>?_;refine uO [] ?_;obtain⟨x3,iq,x4,mj,hm⟩:=eA hm;refine uR [0] [2] [vB x4] [fv (gF x3) λhg=>Jv s 0] ?_ (he:=by subst iq mj;kernel_rfl);refine aR ?_;subst hm;exact bj [] bp

def FT(m:Nat)(s:List a6):Nat→Int→Option (Sum Int Unit)
 |0,_=>none
 |kk+1,v6=>cond (decide (v6<ln s)) (aH (0≤v6∧v6<ln s)<|cond (NB (gi s v6)) (some (.inl v6)) (FT m s kk (J (v6+1)))) (some (.inr ()))
def NC(m:Nat)(s:List a6):Option Int:=Option.bind (FT m s m 0) λ(z3:Sum Int Unit)=>di z3 λdq=>some (-1)
theorem a7Q{aZ:Gh}(m)(s)(r)(hm:NC m s=some r)(w)(hL:Rd [eI tS s aZ] w):Rb 181 [vL aZ s,.func (.func 129) ⟨[]⟩ ⟨[]⟩] (vI r) w:=by
 rw[NC]at hm;refine cu hL (call181 _) func181 ntmps181 λM X w=>?_;refine uO [] ?_;obtain⟨z3,hz,eQ⟩:=ah hm;intro _ _ H2 hS;refine dh (λa' w'=>∃dq:Unit,z3=Sum.inr dq∧Fr 19 [] a'∧SH M X w [eI tS s aZ] w') ?_ ?_;replace hm:=hz;refine aN H2 hS (uR [] [7,8] [vI (ln s),vI 0] [] (aL ?_));refine ep [] [8] (λv6=>[vI v6]) (λ_=>[eI tS s aZ]) hm (λkk v6 hm=>?_);rw[FT]at hm;refine uA 9 (vB (decide (v6<ln s))) [] (az ?_);refine uC hm ?_ ?_;intro hm;refine aq (az (aL (uR [9] [5] [vI v6] [] ?_)));obtain⟨dn,hm⟩:=bX hm;refine uI [ki 0 dn,kj 0 0 dn,kc (a7P (gi s v6))] hm ?_ ?_;intro hm;cases hm;have hm:=eQ;cases hm;exact uZ [] [];intro hm;exact aq (fK [] hm);intro hm;refine bn ?_;cases hm;exact λ_ _ H8 hS=>⟨_,rfl,aw.aQ (ks:=[]) H8 (by kernel_rfl),hS⟩;rintro _ _ ⟨dq,hz,H,hS⟩;subst hz;replace hm:=dW eQ;replace hS:SH M _ w [] _:=hS.aV [] rfl;refine aN H hS ?_;cases hm;exact uZ [] []

def NE(m:Nat)(s:List a6):Option Bool:=Option.bind (NC m s) λy3=>some (decide (0≤y3))
theorem a7R{aZ:Gh}(m)(s)(r)(hm:NE m s=some r)(w)(hL:Rd [eI tS s aZ] w):Rb 128 [vL aZ s,.func (.func 129) ⟨[]⟩ ⟨[]⟩] (vB r) w:=by
 rw[NE]at hm;refine cu hL (call128 _) func128 ntmps128 λM X w=>?_;refine uO [] ?_;obtain⟨y3,cd,hm⟩:=ah hm;refine uR [0,1] [4] [vB (decide (0≤y3))] [kr λ_ hS=>a7Q (aZ:=aZ) m _ _ cd _ (aK bc (hS.im 0 rfl))] (aB [] (aR ?_));cases hm;exact bj [] bp

def Jw(m:Nat)(l_:List a6):Option Bool:=lt (cond (decide (0<ln l_)) (decide (ln l_≤16)) false) λx3=>Option.bind (cond x3 (NE m l_) (some default)) λy4=>some (cond x3 (!y4) false)
theorem a7S{a7:Gh}(m)(l_)(r)(hm:Jw m l_=some r)(w)(hL:Rd [eI tS l_ a7] w):Rb 86 [vL a7 l_] (vB r) w:=by
 rw[Jw]at hm;refine cu hL (call86 _) func86 ntmps86 λM X w=>?_;refine uO [] ?_;obtain⟨x3,iq,y4,qh,hm⟩:=rZ hm;refine uR [0] [2] [vB (cond x3 (!y4) false)] [fw (gT x3) λ_ hS hg=>a7R (aZ:=a7) m _ _ (bT (hg.1) qh) _ (aK bc (hS.im 0 rfl))] ?_ (he:=by subst iq;kernel_rfl);refine aB [] (aR ?_);cases hm;exact bj [] bp

def NF(m:Nat)(l_:List a6):Option Bool:=Option.bind (Jw m l_) λy3=>some (!y3)
theorem a7T{a7:Gh}(m)(l_)(r)(hm:NF m l_=some r)(w)(hL:Rd [eI tS l_ a7] w):Rb 85 [vL a7 l_] (vB r) w:=by
 rw[NF]at hm;refine cu hL (call85 _) func85 ntmps85 λM X w=>?_;refine uO [] ?_;obtain⟨y3,cd,hm⟩:=ah hm;refine uR [0] [2] [vB (!y3)] [kr λ_ hS=>a7S (a7:=a7) m _ _ cd _ (aK bc (hS.im 0 rfl))] (aB [] (aR ?_));cases hm;exact bj [] bp

def FV(m:Nat)(s:List (List a6)):Nat→Int→Option (Sum Int Unit)
 |0,_=>none
 |kk+1,v6=>cond (decide (v6<ln s)) (aH (0≤v6∧v6<ln s)<|Option.bind (NF m (gi s v6)) λdA=>cond dA (some (.inl v6)) (FV m s kk (J (v6+1)))) (some (.inr ()))
def NG(m:Nat)(s:List (List a6)):Option Int:=Option.bind (FV m s m 0) λ(z3:Sum Int Unit)=>di z3 λdq=>some (-1)
theorem a7U{aZ:Gh}(m)(s)(r)(hm:NG m s=some r)(w)(hL:Rd [eI (Ty.sl tS) s aZ] w):Rb 34 [vL aZ s,.func (.func 85) ⟨[]⟩ ⟨[]⟩] (vI r) w:=by
 rw[NG]at hm;refine cu hL (call34 _) func34 ntmps34 λM X w=>?_;refine uO [] ?_;obtain⟨z3,hz,eQ⟩:=ah hm;intro _ _ H2 hS;refine dh (λa' w'=>∃dq:Unit,z3=Sum.inr dq∧Fr 19 [] a'∧SH M X w [eI (Ty.sl tS) s aZ] w') ?_ ?_;replace hm:=hz;refine aN H2 hS (uR [] [7,8] [vI (ln s),vI 0] [] (aL ?_));refine ep [] [8] (λv6=>[vI v6]) (λ_=>[eI (Ty.sl tS) s aZ]) hm (λkk v6 hm=>?_);rw[FV]at hm;refine uA 9 (vB (decide (v6<ln s))) [] (az ?_);refine uC hm ?_ ?_;intro hm;refine aq (az (aL (uR [9] [5] [vI v6] [] ?_)));obtain⟨dn,dA,j3,hm⟩:=kL hm;refine uI [ki 0 dn,kj 0 0 dn,kr λ_ hS=>a7T (a7:=aZ.s v6.toNat 0) m _ _ j3 _ (aK bc (eK ((hS.im 0 rfl).el dn)))] hm ?_ ?_;intro hm;cases hm;have hm:=eQ;cases hm;exact uZ [] [];intro hm;exact aq (fK [] hm);intro hm;refine bn ?_;cases hm;exact λ_ _ H8 hS=>⟨_,rfl,aw.aQ (ks:=[]) H8 (by kernel_rfl),hS⟩;rintro _ _ ⟨dq,hz,H,hS⟩;subst hz;replace hm:=dW eQ;replace hS:SH M _ w [] _:=hS.aV [] rfl;refine aN H hS ?_;cases hm;exact uZ [] []

def Jx(m:Nat)(s:List (List a6)):Option Bool:=Option.bind (NG m s) λy3=>some (decide (0≤y3))
theorem a7V{aZ:Gh}(m)(s)(r)(hm:Jx m s=some r)(w)(hL:Rd [eI (Ty.sl tS) s aZ] w):Rb 84 [vL aZ s,.func (.func 85) ⟨[]⟩ ⟨[]⟩] (vB r) w:=by
 rw[Jx]at hm;refine cu hL (call84 _) func84 ntmps84 λM X w=>?_;refine uO [] ?_;obtain⟨y3,cd,hm⟩:=ah hm;refine uR [0,1] [4] [vB (decide (0≤y3))] [kr λ_ hS=>a7U (aZ:=aZ) m _ _ cd _ (aK bc (hS.im 0 rfl))] (aB [] (aR ?_));cases hm;exact bj [] bp

def a7W(eC:(List bL)→Option Int):Prop:=∀(a7:Gh)(M:Av)(l_:List bL)(r:Int),eC l_=some r→∀w,S0 M [eI bG l_ a7] w→Calls prog 87 ⟨[vL a7 l_]⟩ w (λe w'=>∃v,e=.returned v∧v=vI r∧SH M (ay [eI bG l_ a7]) w [] w')
def B3(m:Nat)(l_:List bL)(v9:Int)(v24:Int)(B4:(List bL)→Option Int):Nat→Int→Int→Option Int
 |0,_,_=>none
 |kk+1,cV,cZ=>lt (decide (cZ<ln (gi (gi l_ v9).bt v24).bA)) λmn=>cond mn (Option.bind (aH (0≤cZ∧cZ<ln (gi (gi l_ v9).bt v24).bA)<|lt (gi (gi (gi l_ v9).bt v24).bA cZ).an λpa=>lt (gi (gi (gi l_ v9).bt v24).bA cZ).bm λB5=>lt (gi (gi (gi l_ v9).bt v24).bA cZ).Op λB6=>lt (gi (gi (gi l_ v9).bt v24).bA cZ).Value λB7=>lt (gi (gi (gi l_ v9).bt v24).bA cZ).AP λrh=>lt (gi (gi (gi l_ v9).bt v24).bA cZ).mg.A λwv=>lt (gi (gi (gi l_ v9).bt v24).bA cZ).mg.B λiM=>lt (gi (gi (gi l_ v9).bt v24).bA cZ).Of λyV=>lt (cond (cond (pa==9) true (pa==10)) (!yV) false) λsk=>lt (cond sk (wv==0&&(iM==1&&true)) false) λyL=>lt (cond (pa==3) true (cond (decide (9≤pa)) (!yL) false)) λtJ=>cond tJ (Option.bind (B4 (gi (gi (gi l_ v9).bt v24).bA cZ).ae) λTm=>lt (if cV<J (Tm+1)then J (Tm+1)else cV) λtE=>some tE) (some cV)) λ(ri:Int)=>B3 m l_ v9 v24 B4 kk ri (J (cZ+1))) (some cV)
def B8(m:Nat)(l_:List bL)(v9:Int)(B4:(List bL)→Option Int):Nat→Int→Int→Option Int
 |0,_,_=>none
 |kk+1,v23,v24=>cond (decide (v24<ln (gi l_ v9).bt)) (Option.bind (aH (0≤v24∧v24<ln (gi l_ v9).bt)<|B3 m l_ v9 v24 B4 m v23 0) λ(eR:Int)=>B8 m l_ v9 B4 kk eR (J (v24+1))) (some v23)
def B9(m:Nat)(l_:List bL)(B4:(List bL)→Option Int):Nat→Int→Int→Option Int
 |0,_,_=>none
 |kk+1,v8,v9=>cond (decide (v9<ln l_)) (Option.bind (aH (0≤v9∧v9<ln l_)<|B8 m l_ v9 B4 m v8 0) λ(z12:Int)=>B9 m l_ B4 kk z12 (J (v9+1))) (some v8)
def rj(m:Nat):Nat→List bL→Option Int
 |0,_=>none
 |k+1,l_=>Option.bind (B9 m l_ (rj m k) m 0 0) λ(z5:Int)=>some z5
theorem a7X(m:Nat):∀(k:Nat),a7W (rj m k):=by
 intro k
 induction k with
 |zero=>intro a7 M l_ r hm;exact cM hm
 |succ k ih=>
  intro a7 M l_ r hm w hS;rw[rj]at hm;have aJ:SH M (ay [eI bG l_ a7]) w [eI bG l_ a7] w:=hS;generalize hX:ay [eI bG l_ a7]=X at aJ⊢;clear hS hX;have hS:=aJ;clear aJ;refine dZ func87 rfl ntmps87 rfl λ_ H=>?_;refine aN H hS (dm [0] [vL a7 l_] [] ?_);refine uA 3 (vI 0) [] ?_;obtain⟨z5,hz,hm⟩:=ah hm;refine uK [0] [3] [vI z5] [eI bG l_ a7] ?_ ?_;replace hm:=hz;refine uR [0] [12,13,14] [vL a7 l_,vI (ln l_),vI 0] [] (aL ?_);refine iV [] [3,14] (λv8 v9=>[vI v8,vI v9]) (λ_ _=>[eI bG l_ a7]) hm (λkk v8 v9 hm=>?_);rw[B9]at hm;refine uA 15 (vB (decide (v9<ln l_))) [] (az ?_);refine uC hm ?_ ?_;intro hm;refine aq ?_;obtain⟨z12,hz,hm⟩:=ah hm;refine uK [15] [3] [vI z12] [eI bG l_ a7] ?_ ?_;replace hm:=hz;refine aL (aM ?_);obtain⟨cH,hm⟩:=bX hm;refine uB 2 [15] [3,12,13,14,17] [vI v8,vL a7 l_,vI (ln l_),vI v9,.agg ⟨e0 (gi l_ v9) (a7.s v9.toNat)⟩] [ki 0 cH,⟨some (.agg ⟨e0 (gi l_ v9) (a7.s v9.toNat)⟩),λwz=>V.bZ (ab a7.a) (ao a7.a+v9.toNat*3) (e0 (gi l_ v9) (a7.s v9.toNat)) 0 wz,λ_ hS=>(hS.im 0 rfl).eg cH 0 rfl⟩] ?_;refine uM [] [0] [] (oA [vU 0,vO,vO]) λrk=>?_;refine uL [0] [1] [17] (oS (e0 (gi l_ v9) (a7.s v9.toNat)) rfl rfl) (aC ?_);refine uR [5] [19,20,21] [.slice (a7.s v9.toNat 0).a (gi l_ v9).bt.length (a7.s v9.toNat 0).c,vI (ln (gi l_ v9).bt),vI 0] [kb 0 1] (aB [1] (aL ?_));refine iV [] [3,21] (λv23 v24=>[vI v23,vI v24]) (λ_ _=>[eI bG l_ a7]) hm (λkk v23 v24 hm=>?_);rw[B8]at hm;refine uA 22 (vB (decide (v24<ln (gi l_ v9).bt))) [] (az ?_);refine uC hm ?_ ?_;intro hm;refine aq ?_;obtain⟨eR,hz,hm⟩:=ah hm;refine uK [22] [3] [vI eR] [eI bG l_ a7] ?_ ?_;replace hm:=hz;refine aL (aM ?_);obtain⟨nY,hm⟩:=bX hm;refine uB 2 [22] [3,12,13,14,19,20,21,24] [vI v23,vL a7 l_,vI (ln l_),vI v9,.slice (a7.s v9.toNat 0).a (gi l_ v9).bt.length (a7.s v9.toNat 0).c,vI (ln (gi l_ v9).bt),vI v24,vG [vS (gi (gi l_ v9).bt v24).Tag,.slice ((a7.s v9.toNat 0).s v24.toNat 0).a (gi (gi l_ v9).bt v24).bA.length ((a7.s v9.toNat 0).s v24.toNat 0).c]] [⟨none,λ_=>dR (a7.s v9.toNat 0).a∧0≤v24∧v24<ln (gi l_ v9).bt,λ_ hS=>(ld ((hS.im 0 rfl).el cH)).iB nY⟩,⟨some (vG [vS (gi (gi l_ v9).bt v24).Tag,.slice ((a7.s v9.toNat 0).s v24.toNat 0).a (gi (gi l_ v9).bt v24).bA.length ((a7.s v9.toNat 0).s v24.toNat 0).c]),λwz=>V.bZ (ab (a7.s v9.toNat 0).a) (ao (a7.s v9.toNat 0).a+v24.toNat*2) [vS (gi (gi l_ v9).bt v24).Tag,.slice ((a7.s v9.toNat 0).s v24.toNat 0).a (gi (gi l_ v9).bt v24).bA.length ((a7.s v9.toNat 0).s v24.toNat 0).c] 0 wz,λ_ hS=>(ld ((hS.im 0 rfl).el cH)).eg nY 0 rfl⟩] ?_;refine uM [] [0] [] (oA [vN,vO]) λJl=>?_;refine uL [0] [1] [24] (oS [vS (gi (gi l_ v9).bt v24).Tag,.slice ((a7.s v9.toNat 0).s v24.toNat 0).a (gi (gi l_ v9).bt v24).bA.length ((a7.s v9.toNat 0).s v24.toNat 0).c] rfl rfl) (aC ?_);refine uR [7] [26,27,28] [.slice ((a7.s v9.toNat 0).s v24.toNat 0).a (gi (gi l_ v9).bt v24).bA.length ((a7.s v9.toNat 0).s v24.toNat 0).c,vI (ln (gi (gi l_ v9).bt v24).bA),vI 0] [kb 0 1] (aB [1] (aL ?_));refine iV [] [3,28] (λcV cZ=>[vI cV,vI cZ]) (λ_ _=>[eI bG l_ a7]) hm (λkk cV cZ hm=>?_);rw[B3]at hm;obtain⟨mn,vY,hm⟩:=bl hm;refine uA 29 (vB mn) [] ?_ (he:=by subst vY;kernel_rfl);refine az (uC hm ?_ ?_);intro hm;refine aq ?_;obtain⟨ri,hz,hm⟩:=ah hm;refine uK [29] [3] [vI ri] [eI bG l_ a7] ?_ ?_;replace hm:=hz;refine aL (aM ?_);obtain⟨Jy,pa,Tn,hm⟩:=cx hm;obtain⟨B5,To,B6,Tp,hm⟩:=eA hm;obtain⟨B7,Tq,rh,Jz,hm⟩:=eA hm;obtain⟨wv,Tr,iM,DF,hm⟩:=eA hm;obtain⟨yV,Ts,hm⟩:=bl hm;refine uB 2 [29] [3,12,13,14,19,20,21,26,27,28,31] [vI cV,vL a7 l_,vI (ln l_),vI v9,.slice (a7.s v9.toNat 0).a (gi l_ v9).bt.length (a7.s v9.toNat 0).c,vI (ln (gi l_ v9).bt),vI v24,.slice ((a7.s v9.toNat 0).s v24.toNat 0).a (gi (gi l_ v9).bt v24).bA.length ((a7.s v9.toNat 0).s v24.toNat 0).c,vI (ln (gi (gi l_ v9).bt v24).bA),vI cZ,vG [vU pa,vS B5,vU B6,vS B7,vB rh,vI wv,vI iM,vB yV,.slice (((a7.s v9.toNat 0).s v24.toNat 0).s cZ.toNat 0).a (gi (gi (gi l_ v9).bt v24).bA cZ).ae.length (((a7.s v9.toNat 0).s v24.toNat 0).s cZ.toNat 0).c]] [⟨none,λ_=>dR ((a7.s v9.toNat 0).s v24.toNat 0).a∧0≤cZ∧cZ<ln (gi (gi l_ v9).bt v24).bA,λ_ hS=>(s0 ((ld ((hS.im 0 rfl).el cH)).el nY)).iB Jy⟩,⟨some (.agg ⟨e2 (gi (gi (gi l_ v9).bt v24).bA cZ) (((a7.s v9.toNat 0).s v24.toNat 0).s cZ.toNat)⟩),λwz=>V.bZ (ab ((a7.s v9.toNat 0).s v24.toNat 0).a) (ao ((a7.s v9.toNat 0).s v24.toNat 0).a+cZ.toNat*9) (e2 (gi (gi (gi l_ v9).bt v24).bA cZ) (((a7.s v9.toNat 0).s v24.toNat 0).s cZ.toNat)) 0 wz,λ_ hS=>(s0 ((ld ((hS.im 0 rfl).el cH)).el nY)).eg Jy 0 rfl⟩] ?_ (he:=by subst Tn To Tp Tq Jz Tr DF Ts;kernel_rfl);refine uM [] [0] [] (oA [vU 0,vN,vU 0,vN,vF,vI 0,vI 0,vF,vO]) λb55=>?_;refine uL [0] [1] [31] (oS [vU pa,vS B5,vU B6,vS B7,vB rh,vI wv,vI iM,vB yV,.slice (((a7.s v9.toNat 0).s v24.toNat 0).s cZ.toNat 0).a (gi (gi (gi l_ v9).bt v24).bA cZ).ae.length (((a7.s v9.toNat 0).s v24.toNat 0).s cZ.toNat 0).c] rfl rfl) (aC ?_);refine uA 10 (vB (cond (pa==9) true (pa==10))) [kb 0 0,bP (gF (pa==9)) 0 0] ?_;obtain⟨sk,DG,yL,Jf,hm⟩:=eA hm;refine uR [10] [11] [vB yL] [bP (gT (cond (pa==9) true (pa==10))) 0 7,⟨some (vG [vI wv,vI iM]),λwz=>sk=true∧True→V.bZ b55 5 [vI wv,vI iM] 0 wz,λ_ hS=>λhg=>(hS.bk 0 rfl).eU rfl⟩] ?_ (he:=by subst DG Jf;kernel_rfl);obtain⟨tJ,JA,hm⟩:=bl hm;refine uJ [11] [kb 0 0,bP (gF (pa==3)) 0 0] hm ?_ ?_ (he:=by subst JA;kernel_rfl);intro hm;obtain⟨Tm,a7Y,tE,Jb,hm⟩:=iD hm;refine uW [9] [3] [vI tE] [kb 0 8,kr λ_ hS=>ik (aK bc (MS ((s0 ((ld ((hS.im 1 rfl).el cH)).el nY)).el Jy))) (call87 _) (λw' h'=>ih (((a7.s v9.toNat 0).s v24.toNat 0).s cZ.toNat 0) F0 _ _ a7Y w' h')] ?_ (he:=by subst Jb;kernel_rfl);refine aB [1] ?_;cases hm;exact te;intro hm;refine aq ?_;cases hm;refine aB [1] ?_;exact te;exact jx [] hm;intro hm;refine bn ?_;cases hm;exact te;exact jx [] hm;intro hm;refine bn ?_;cases hm;exact te;exact jx [] hm;intro hm;refine bn ?_;cases hm;exact te;refine aB [] ?_;cases hm;exact uZ [] []
def a0v(m:Nat)(l_:List bL):Option Int:=rj m m l_
theorem a7Z{a7:Gh}(m)(l_)(r)(hm:a0v m l_=some r)(w)(hL:Rd [eI bG l_ a7] w):Rb 87 [vL a7 l_] (vI r) w:=ik hL (call87 _) (λw' h=>a7X m m a7 F0 l_ r hm w' h)

structure iR where
  dz:Int
  has:Bool
instance:Inhabited iR:=⟨⟨default,default⟩⟩
def aiu:Ty iR where
  z:=2
  enc:=λx g=>[vI x.dz,vB x.has]
  bJ:=λ_ _ _ _=>True
  len:=λ_ _=>rfl
  one:=λ_ _=>rfl
  kp:=λ_ _ _=>trivial
  bU:=λ_ _=>trivial
  fresh:=λ_=>trivial
def JB(s:a6)(most:Int):Bool:=lt (cond (decide (most<ln s)) true (decide (0≤strings_IndexByte s 0))) λx3=>x3
theorem a0w(s:a6)(most:Int):Rt 273 [vS s,vI most] (vB (JB s most)):=by
 generalize hm:JB s most=r;rw[JB]at hm;refine df (call273 _) func273 ntmps273 λM X w=>?_;refine uO [] ?_;obtain⟨x3,iq,hm⟩:=bl hm;refine uR [0,1] [4] [vB x3] [fv (gF (decide (most<ln s))) λhg=>Jv s 0] ?_ (he:=by subst iq;kernel_rfl);refine aR ?_;subst hm;exact bj [] bp

def Ba(s:a6):Bool:=lt (cond (!(s==[])) (!(JB s 64)) false) λx3=>x3
theorem a0x(s:a6):Rt 269 [vS s] (vB (Ba s)):=by
 generalize hm:Ba s=r;rw[Ba]at hm;refine df (call269 _) func269 ntmps269 λM X w=>?_;refine uO [] ?_;obtain⟨x3,iq,hm⟩:=bl hm;refine uR [0] [2] [vB x3] [fv (gT (!(s==[]))) λhg=>a0w s 64] ?_ (he:=by subst iq;kernel_rfl);refine aR ?_;subst hm;exact bj [] bp

def Bb(m:Nat)(s:a6):Nat→Int→List Int→Option (List Int)
 |0,_,_=>none
 |kk+1,aO,bz=>cond (decide (aO<ln (bD s))) (Option.bind (aH (0≤aO∧aO<ln (bD s))<|lt (cond (decide (65≤gi bz aO)) (decide (gi bz aO≤90)) false) λlz=>cond lz (lt (wZ bz aO (fu .or .u8 (gi bz aO) 32)) λBc=>some Bc) (some bz)) λ(iS:List Int)=>Bb m s kk (J (aO+1)) iS) (some bz)
def yW(m:Nat)(s:a6):Option a6:=Option.bind (Bb m s m 0 (bD s)) λ(cW:List Int)=>some (jn cW)
theorem JC(m)(s)(r)(hm:yW m s=some r):Rt 189 [vS s] (vS r):=by
 rw[yW]at hm;refine df (call189 _) func189 ntmps189 λM X w=>?_;refine uO [] (aM ?_);refine uB 1 [0] [6] [vS s] [] ?_;intro _ _ H4 hS;have hd:=hS.hand [] [] rfl rfl;refine fY [7] [] H4 rfl rfl rfl rfl (IA (E:=5) H4 hd rfl (by kernel_rfl) (by kernel_rfl) (by kernel_rfl)) (λ_=>rfl) λ_ _ v H8 hq=>?_;obtain⟨b5,c6,rfl,SB,hq⟩:=hq;replace hS:=hS.join [] [] rfl rfl hq;refine aN H8 hS (fQ 3 [3] [.slice (some ⟨b5,0,none⟩) (bD s).length c6] [] (aC ?_));obtain⟨cW,hz,hm⟩:=ah hm;refine uK [] [] [] [a8.row .u8 b5 cW (ln (bD s))] ?_ ?_;replace hm:=hz;refine uR [] [8,9,10] [.slice (some ⟨b5,0,none⟩) (bD s).length c6,vI (ln (bD s)),vI 0] [] (aL ?_);refine iV [] [10] (λaO _=>[vI aO]) (λ_ bz=>[a8.row .u8 b5 bz (ln (bD s))]) hm (λkk aO bz hm=>?_);rw[Bb]at hm;refine uA 11 (vB (decide (aO<ln (bD s)))) [] (az ?_);refine uC hm ?_ ?_;intro hm;refine aq ?_;obtain⟨iS,hz,hm⟩:=ah hm;refine uK [11] [] [] [a8.row .u8 b5 iS (ln (bD s))] ?_ ?_;replace hm:=hz;refine aL ?_;obtain⟨kS,hm⟩:=bX hm;refine uR [11] [3,4,5,8,9,10] [.slice (some ⟨b5,0,none⟩) (bD s).length c6,vI aO,vU (gi bz aO),.slice (some ⟨b5,0,none⟩) (bD s).length c6,vI (ln (bD s)),vI aO] [⟨none,λ_=>dR (some ⟨b5,0,none⟩)∧0≤aO∧aO<ln (bD s),λ_ _=>⟨rfl,kS⟩⟩,⟨some (vU (gi bz aO)),λwz=>V.c9 ⟨b5,0+aO.toNat*1,none⟩ (vU (gi bz aO)) wz,λ_ hS=>Rw.Fj (hS.rw 0 rfl) kS⟩] ?_;obtain⟨lz,tH,hm⟩:=bl hm;refine uJ [5] [] hm ?_ ?_ (he:=by subst tH;kernel_rfl);intro hm;refine dH ?_;refine uB 6 [4] [25,26] [vU (fu .or .u8 (gi bz aO) 32),.pointer (some ⟨b5,0+aO.toNat*1,none⟩)] [⟨none,λ_=>dR (some ⟨b5,0,none⟩)∧0≤aO∧aO<ln (bD s),λ_ _=>⟨rfl,kS⟩⟩,⟨some (vU (gi bz aO)),λwz=>V.c9 ⟨b5,0+aO.toNat*1,none⟩ (vU (gi bz aO)) wz,λ_ hS=>Rw.Fj (hS.rw 0 rfl) kS⟩,⟨none,λ_=>dR (some ⟨b5,0,none⟩)∧0≤aO∧aO<ln (bD s),λ_ _=>⟨rfl,kS⟩⟩] ?_;intro _ _ k9 hS;have hd:=hS.hand [0] [] rfl rfl;refine ud [3,8,9,10] (fS [3,8,9,10] [.slice (some ⟨b5,0,none⟩) (bD s).length c6,.slice (some ⟨b5,0,none⟩) (bD s).length c6,vI (ln (bD s)),vI aO]) k9 rfl rfl rfl (Mr k9 hd rfl rfl (by kernel_rfl) kS) rfl λ_ _ ll hq=>?_;obtain⟨_,hq⟩:=hq;obtain⟨Bc,JD,hm⟩:=bl hm;rw[←JD]at hq;replace hS:=hS.join [0] [] rfl rfl hq;refine aN ll hS (aC ?_);cases hm;exact te;intro hm;refine aq ?_;cases hm;exact te;exact jx [] hm;intro hm;refine bn ?_;cases hm;exact te;intro _ _ H hS;refine Fa [vS (jn cW)] [2] [(2,[],vS (jn cW))] [λwz=>∀w',Below wz.heap.size wz w'→(convert 150 9 (.slice (some ⟨b5,0,none⟩) (bD s).length c6)).run prog w'=.ok (vS (jn cW)) w'] H (by kernel_rfl) ⟨Mh (E:=5) (by kernel_rfl) (by kernel_rfl) (by kernel_rfl) (hS.rw 0 rfl).1 (hS.rw 0 rfl).2,trivial⟩ λ_ _ ke hb=>?_;replace hS:=hS.below hb;replace hS:SH M _ w [] _:=hS.aV [] rfl;refine aN ke hS (aR ?_);cases hm;exact bj [] bp

def FW(m:Nat)(s:a6):Option Bool:=Option.bind (cond (Ba s) (yW m s) (some default)) λy3=>some (cond (Ba s) (y3==s) false)
theorem a0y(m)(s)(r)(hm:FW m s=some r):Rt 237 [vS s] (vB r):=by
 rw[FW]at hm;refine df (call237 _) func237 ntmps237 λM X w=>?_;refine uO [] ?_;obtain⟨y3,cd,hm⟩:=ah hm;cases hm;exact uZ [] [kc (a0x s),fv (gT (Ba s)) λhg=>JC m _ _ (bT (hg.1) cd)]

def JE(x_:fq):Bool×Bool:=lt (cond (x_.an==9) (x_.an==9) (x_.an==10)) λ(z8:Bool)=>cond z8 ((x_.Of,false)) (lt (cond (x_.an==11) (x_.an==11) (x_.an==12)) λ(cv:Bool)=>cond cv ((true,true)) (lt (cond (x_.an==13) (x_.an==13) (x_.an==14)) λ(z24:Bool)=>cond z24 ((true,false)) ((false,true))))
theorem a81{dM:Gh}(x_:fq)(w)(hL:Rd [eI bG x_.ae dM] w):Rb 270 [.agg ⟨e2 x_ (gL [dM])⟩] (vW [vB (JE x_).1,vB (JE x_).2]) w:=by
 generalize hm:JE x_=r;rw[JE]at hm;refine cu hL (call270 _) func270 ntmps270 λM X w=>(aM ?_);refine uM [] [0] [0] (oB (e2 x_ (gL [dM])) rfl) λb1=>?_;refine uP 3 [] (aC (az ?_));refine uA 5 (vU x_.an) [kb 0 0] (aL ?_);obtain⟨z8,hz,hm⟩:=bl hm;refine uK [] [6] [vB z8] [eB b1 (e2 x_ (gL [dM])),eI bG x_.ae dM] ?_ ?_;replace hm:=hz.symm;refine uA 6 (vB (x_.an==9)) [] ?_;refine uC hm ?_ ?_;intro hm;refine aq ?_;subst hm;exact te;intro hm;refine uV 6 (vB (x_.an==10)) [] ?_;subst hm;exact te;refine qL (λhc=>?c38) (λhc=>?_)
 case c38=>
  replace hm:=bT hc hm;refine uR [1,5,6] [2,3] [vB x_.Of,vF] [kb 0 7] (aB [] (aR ?_));subst hm;exact bj [] eW
 replace hm:=bF hc hm;obtain⟨cv,hz,hm⟩:=bl hm;refine uK [1,6] [11] [vB cv] [eB b1 (e2 x_ (gL [dM])),eI bG x_.ae dM] ?_ ?_;replace hm:=hz.symm;refine uR [1,6] [11] [vB (x_.an==11)] [] ?_;refine uC hm ?_ ?_;intro hm;refine aq ?_;subst hm;exact te;intro hm;refine uV 11 (vB (x_.an==12)) [] ?_;subst hm;exact te;refine aB [] (uC hm ?_ ?_);intro hm;refine uR [5,11] [2,3] [vT,vT] [] (aR ?_);subst hm;exact bj [] eW;intro hm;obtain⟨z24,hz,hm⟩:=bl hm;refine uK [5,11] [14] [vB z24] [] ?_ ?_;replace hm:=hz.symm;refine uR [11] [14] [vB (x_.an==13)] [] ?_;refine uC hm ?_ ?_;intro hm;refine aq ?_;subst hm;exact te;intro hm;refine uW [5] [14] [vB (x_.an==14)] [] ?_;subst hm;exact te;refine uC hm ?_ ?_;intro hm;refine uR [14] [2,3] [vT,vF] [] (aR ?_);subst hm;exact bj [] eW;intro hm;refine aq (uR [14] [2,3] [vF,vT] [] (aR ?_));subst hm;exact bj [] eW

def FX(p:iR)(cy:Int):iR×Bool:=lt (cond (p.dz==3) true (cond p.has (cy==14) false)) λfE=>cond fE ((iR.mk 0 false,false)) ((iR.mk (J (p.dz+1)) (cond p.has true (cy==14)),true))
theorem a82(p:iR)(cy:Int):Rt 271 [vG [vI p.dz,vB p.has],vU cy] (vW [vG [vI (FX p cy).1.dz,vB (FX p cy).1.has],vB (FX p cy).2]):=by
 generalize hm:FX p cy=r;rw[FX]at hm;refine df (call271 _) func271 ntmps271 λM X w=>(aM ?_);refine uM [] [] [0] (oB [vI p.dz,vB p.has] rfl) λb1=>?_;refine uM [] [0] [] (oA [vI 0,vF]) λb4=>?_;refine uP 3 [] (aC ?_);refine uR [1] [6] [vB (cy==14)] [] (az ?_);obtain⟨fE,ox,hm⟩:=bl hm;refine uI [kb 1 0,bP (gF (p.dz==3)) 1 1] hm ?_ ?_ (he:=by subst ox;kernel_rfl);intro hm;refine aM (uB 1 [2,6] [19] [vG [vI 0,vF]] [] ?_);refine uL [0] [1] [19] (oS [vI 0,vF] rfl rfl) ?_;refine uB 3 [] [5] [vF] [] (aC (aB [0] (aR ?_)));subst hm;exact bj [] (lK 0 underlying219);intro hm;refine aq (aM (uB 9 [2,6] [28] [vG [vI (J (p.dz+1)),vB (cond p.has true (cy==14))]] [kb 1 0,kb 1 1] ?_));refine uL [0] [1] [28] (oS [vI (J (p.dz+1)),vB (cond p.has true (cy==14))] rfl rfl) ?_;refine uB 11 [] [5] [vT] [] (aC (aB [0] (aR ?_)));subst hm;exact bj [] (lK 0 underlying219)

def DH(n_:Int):Bool:=lt (cond (decide ((-1000000000)≤n_)) (decide (n_≤1000000000)) false) λx3=>x3
theorem a0z(n_:Int):Rt 300 [vI n_] (vB (DH n_)):=by
 generalize hm:DH n_=r;rw[DH]at hm;refine df (call300 _) func300 ntmps300 λM X w=>?_;refine uO [] ?_;obtain⟨x3,iq,hm⟩:=bl hm;refine uR [0] [2] [vB x3] [] ?_ (he:=by subst iq;kernel_rfl);refine aR ?_;subst hm;exact bj [] bp

def NH(a_:yB):Int:=lt (cond (!(DH a_.A)) true (!(DH a_.B))) λx6=>cond x6 (8) (0)
theorem a83(a_:yB):Rt 274 [vG [vI a_.A,vI a_.B]] (vI (NH a_)):=by
 generalize hm:NH a_=r;rw[NH]at hm;refine df (call274 _) func274 ntmps274 λM X w=>(aM ?_);refine uM [] [] [0] (oB [vI a_.A,vI a_.B] rfl) λb1=>?_;refine uP 2 [] (aC (az ?_));obtain⟨x6,om,hm⟩:=bl hm;refine uR [1] [12] [vB x6] [kb 0 0,kc (a0z a_.A),bP (gF (!(DH a_.A))) 0 1,fv (gF (!(DH a_.A))) λhg=>a0z a_.B] ?_ (he:=by subst om;kernel_rfl);refine aB [] (uC hm ?_ ?_);intro hm;refine uR [12] [2] [vI 8] [] (aR ?_);subst hm;exact bj [] bp;intro hm;refine aq (uR [12] [2] [vI 0] [] (aR ?_));subst hm;exact bj [] bp

def yX(eC:bL→iR→Bool→Option Bool):Prop:=∀(aF:Gh)(aj:Gh)(M:Av)(c_:bL)(p:iR)(gY:Bool)(r:Bool),eC c_ p gY=some r→∀w,S0 M [eI jQ c_.bt aF,eI (tI .u8) c_.iE aj] w→Calls prog 133 ⟨[.agg ⟨e0 c_ (gL [aF,aj])⟩,vG [vI p.dz,vB p.has],vB gY]⟩ w (λe w'=>∃v,e=.returned v∧v=vB r∧SH M (ay [eI jQ c_.bt aF,eI (tI .u8) c_.iE aj]) w [] w')
def NI(m:Nat)(fj:bL→iR→Bool→Option Bool)(c_:bL)(tK:Int)(tL:Bool)(NJ:Int)(Tu:a6)(Tw:Int)(Tx:a6)(Tz:Bool)(TA:Int)(TC:Int)(TD:Bool)(NK:List bL):Option Bool:=Option.bind (fj c_ (iR.mk tK tL) (NJ==14)) λy6=>some (!y6)
theorem a84{aF aj:Gh}{bx:Nat}{cw:Nat}{TE:Gh}(m)(fj)(rm:yX fj)(c_)(tK)(tL)(NJ)(Tu)(Tw)(Tx)(Tz)(TA)(TC)(TD)(NK)(r)(hm:NI m fj c_ tK tL NJ Tu Tw Tx Tz TA TC TD NK=some r)(w)(hL:Rd [eI jQ c_.bt aF,eI (tI .u8) c_.iE aj,a8.ro bx [vI tK,vB tL],a8.ro cw [vU NJ,vS Tu,vU Tw,vS Tx,vB Tz,vI TA,vI TC,vB TD,vL TE NK],eI bG NK TE] w):Rb 272 [.agg ⟨e0 c_ (gL [aF,aj])⟩,vP bx,vP cw] (vB r) w:=by
 rw[NI]at hm;refine cu hL (call272 _) func272 ntmps272 λM X w=>(aM ?_);refine uM [] [0,1,2,3,4] [0] (oB (e0 c_ (gL [aF,aj])) rfl) λb1=>?_;refine uP 2 [] (aC ?_);obtain⟨y6,gh,hm⟩:=ah hm;refine uR [1,2,3] [4] [vB (!y6)] [kE 0 3,⟨some (vG [vI tK,vB tL]),rN bx 0 [vI tK,vB tL],λ_ hS=>(hS.ro 3 rfl).eU rfl⟩,ko 4 0,kr λ_ hS=>ik (aK (aK bc (hS.im 2 rfl)) (hS.im 1 rfl)) (call133 _) (λw' h'=>rm aF aj F0 _ _ _ _ gh w' h')] (aB [] (aR ?_));cases hm;exact bj [] bp
def JF(m:Nat)(fj:bL→iR→Bool→Option Bool)(s:List bL)(jC:Int)(jD:Bool)(so:Int)(sr:a6)(ss:Int)(su:a6)(sv:Bool)(sy:Int)(sA:Int)(sB:Bool)(pb:List bL):Nat→Int→Option (Sum Int Unit)
 |0,_=>none
 |kk+1,v6=>cond (decide (v6<ln s)) (aH (0≤v6∧v6<ln s)<|Option.bind (NI m fj (gi s v6) jC jD so sr ss su sv sy sA sB pb) λdA=>cond dA (some (.inl v6)) (JF m fj s jC jD so sr ss su sv sy sA sB pb kk (J (v6+1)))) (some (.inr ()))
def NL(m:Nat)(fj:bL→iR→Bool→Option Bool)(s:List bL)(jC:Int)(jD:Bool)(so:Int)(sr:a6)(ss:Int)(su:a6)(sv:Bool)(sy:Int)(sA:Int)(sB:Bool)(pb:List bL):Option Int:=Option.bind (JF m fj s jC jD so sr ss su sv sy sA sB pb m 0) λ(z3:Sum Int Unit)=>di z3 λdq=>some (-1)
theorem a86{aZ:Gh}{gZ:Nat}{wx:Nat}{tM:Gh}(m)(fj)(rm:yX fj)(s)(jC)(jD)(so)(sr)(ss)(su)(sv)(sy)(sA)(sB)(pb)(r)(hm:NL m fj s jC jD so sr ss su sv sy sA sB pb=some r)(w)(hL:Rd [eI bG s aZ,a8.ro gZ [vI jC,vB jD],a8.ro wx [vU so,vS sr,vU ss,vS su,vB sv,vI sy,vI sA,vB sB,vL tM pb],eI bG pb tM] w):Rb 183 [vL aZ s,.func (.func 272) ⟨[]⟩ ⟨[vP gZ,vP wx]⟩] (vI r) w:=by
 rw[NL]at hm;refine cu hL (call183 _) func183 ntmps183 λM X w=>?_;refine uO [] ?_;obtain⟨z3,hz,eQ⟩:=ah hm;intro _ _ H2 hS;refine dh (λa' w'=>∃dq:Unit,z3=Sum.inr dq∧Fr 19 [] a'∧SH M X w [eI bG s aZ,a8.ro gZ [vI jC,vB jD],a8.ro wx [vU so,vS sr,vU ss,vS su,vB sv,vI sy,vI sA,vB sB,vL tM pb],eI bG pb tM] w') ?_ ?_;replace hm:=hz;refine aN H2 hS (uR [] [7,8] [vI (ln s),vI 0] [] (aL ?_));refine ep [] [8] (λv6=>[vI v6]) (λ_=>[eI bG s aZ,a8.ro gZ [vI jC,vB jD],a8.ro wx [vU so,vS sr,vU ss,vS su,vB sv,vI sy,vI sA,vB sB,vL tM pb],eI bG pb tM]) hm (λkk v6 hm=>?_);rw[JF]at hm;refine uA 9 (vB (decide (v6<ln s))) [] (az ?_);refine uC hm ?_ ?_;intro hm;refine aq (az (aL (uR [9] [5] [vI v6] [] ?_)));obtain⟨dn,dA,j3,hm⟩:=kL hm;refine uI [ki 0 dn,⟨some (.agg ⟨e0 (gi s v6) (aZ.s v6.toNat)⟩),λwz=>V.bZ (ab aZ.a) (ao aZ.a+v6.toNat*3) (e0 (gi s v6) (aZ.s v6.toNat)) 0 wz,λ_ hS=>(hS.im 0 rfl).eg dn 0 rfl⟩,kr λ_ hS=>a84 (aF:=aZ.s v6.toNat 0) (aj:=aZ.s v6.toNat 1) (bx:=gZ) (cw:=wx) (TE:=tM) m _ rm _ _ _ _ _ _ _ _ _ _ _ _ _ j3 _ (aK (aK (ij (ij (aK bc (hS.im 3 rfl)) (hS.ro 2 rfl)) (hS.ro 1 rfl)) (ZV ((hS.im 0 rfl).el dn))) (ld ((hS.im 0 rfl).el dn)))] hm ?_ ?_;intro hm;cases hm;have hm:=eQ;cases hm;exact uZ [] [];intro hm;exact aq (fK [] hm);intro hm;refine bn ?_;cases hm;exact λ_ _ H8 hS=>⟨_,rfl,aw.aQ (ks:=[]) H8 (by kernel_rfl),hS⟩;rintro _ _ ⟨dq,hz,H,hS⟩;subst hz;replace hm:=dW eQ;replace hS:SH M _ w [] _:=hS.aV [] rfl;refine aN H hS ?_;cases hm;exact uZ [] []
def JG(m:Nat)(fj:bL→iR→Bool→Option Bool)(s:List bL)(jC:Int)(jD:Bool)(so:Int)(sr:a6)(ss:Int)(su:a6)(sv:Bool)(sy:Int)(sA:Int)(sB:Bool)(pb:List bL):Option Bool:=Option.bind (NL m fj s jC jD so sr ss su sv sy sA sB pb) λy3=>some (decide (0≤y3))
theorem a88{aZ:Gh}{gZ:Nat}{wx:Nat}{tM:Gh}(m)(fj)(rm:yX fj)(s)(jC)(jD)(so)(sr)(ss)(su)(sv)(sy)(sA)(sB)(pb)(r)(hm:JG m fj s jC jD so sr ss su sv sy sA sB pb=some r)(w)(hL:Rd [eI bG s aZ,a8.ro gZ [vI jC,vB jD],a8.ro wx [vU so,vS sr,vU ss,vS su,vB sv,vI sy,vI sA,vB sB,vL tM pb],eI bG pb tM] w):Rb 131 [vL aZ s,.func (.func 272) ⟨[]⟩ ⟨[vP gZ,vP wx]⟩] (vB r) w:=by
 rw[JG]at hm;refine cu hL (call131 _) func131 ntmps131 λM X w=>?_;refine uO [] ?_;obtain⟨y3,cd,hm⟩:=ah hm;refine uR [0,1] [4] [vB (decide (0≤y3))] [kr λ_ hS=>a86 (aZ:=aZ) (gZ:=gZ) (wx:=wx) (tM:=tM) m _ rm _ _ _ _ _ _ _ _ _ _ _ _ _ cd _ (aK (ij (ij (aK bc (hS.im 3 rfl)) (hS.ro 2 rfl)) (hS.ro 1 rfl)) (hS.im 0 rfl))] (aB [] (aR ?_));cases hm;exact bj [] bp
def JH(m:Nat)(fj:bL→iR→Bool→Option Bool)(x_:fq)(p:iR):Option Bool:=lt (JE x_) λy9=>Option.bind (cond y9.1 (lt (FX p x_.an) λdX=>lt (cond (!dX.2) true (cond (!y9.2) (ln x_.ae==0) false)) λlA=>Option.bind (cond lA (some default) (JG m fj x_.ae dX.1.dz dX.1.has x_.an x_.bm x_.Op x_.Value x_.AP x_.mg.A x_.mg.B x_.Of x_.ae)) λkf=>cond (cond lA true kf) (some (.inl false)) (some (.inr ()))) (cond (decide (0<ln x_.ae)) (some (.inl false)) (some (.inr ())))) λ(z12:Sum Bool Unit)=>di z12 λTF=>lt (cond (!(x_.an==3)) (cond (cond (x_.Op !=0) true (!(x_.Value==[]))) true x_.AP) false) λoD=>lt (cond oD true (cond (!(cond (x_.an==9) true (x_.an==10))) (cond x_.Of true (!(x_.mg.A==0&&(x_.mg.B==0&&true)))) false)) λmu=>cond mu (some false) (Option.bind (cond (x_.an==1) (some (x_.an==1)) (some (x_.an==2))) λ(ku:Bool)=>cond ku (some (Ba x_.bm)) (cond (x_.an==3) (Option.bind (FW m x_.bm) λJI=>lt (cond (cond JI (decide (x_.Op≤6)) false) (!(JB x_.Value 400)) false) λxy=>lt (cond xy (cond (x_.Op !=0) true (cond (x_.Value==[]) (!x_.AP) false)) false) λsk=>some sk) (lt (cond (x_.bm==[]) (decide (4≤x_.an)) false) λBd=>lt (cond (cond Bd (decide (x_.an≤14)) false) (cond (!(cond (x_.an==9) true (x_.an==10))) true (NH x_.mg==0)) false) λtJ=>some tJ)))
theorem a89{dM:Gh}(m)(fj)(rm:yX fj)(x_)(p)(r)(hm:JH m fj x_ p=some r)(w)(hL:Rd [eI bG x_.ae dM] w):Rb 238 [.agg ⟨e2 x_ (gL [dM])⟩,vG [vI p.dz,vB p.has]] (vB r) w:=by
 rw[JH]at hm;refine cu hL (call238 _) func238 ntmps238 λM X w=>(aM ?_);refine uM [] [0] [0] (oB (e2 x_ (gL [dM])) rfl) λb1=>?_;refine uM [] [0,1] [1] (oB [vI p.dz,vB p.has] rfl) λb4=>?_;refine uP 3 [] (aC ?_);obtain⟨y9,oq,hm⟩:=bl hm;refine uR [] [5,6] [vB y9.1,vB y9.2] [kE 1 9,⟨some (vW [vB y9.1,vB y9.2]),rB 270 [.agg ⟨e2 x_ (gL [dM])⟩] (vW [vB y9.1,vB y9.2]),λ_ hS=>(by rw[oq];exact a81 (dM:=dM) x_ _ (aK bc (hS.im 2 rfl)))⟩] ?_ (he:=by subst oq;kernel_rfl);obtain⟨z12,hz,TG⟩:=ah hm;intro _ _ lj hS;refine dh (λa' w'=>∃TF:Unit,z12=Sum.inr TF∧Fr 149 [(2,[],vP b1)] a'∧SH M X w [eB b4 [vI p.dz,vB p.has],eB b1 (e2 x_ (gL [dM])),eI bG x_.ae dM] w') ?_ ?_;replace hm:=hz;refine aN lj hS (uR [5] [16] [vB y9.1] [] ?_);refine uC hm ?_ ?_;intro hm;refine aM ?_;obtain⟨dX,qn,hm⟩:=bl hm;refine uB 7 [3,16] [22,23] [vG [vI dX.1.dz,vB dX.1.has],vB dX.2] [kE 0 2,kb 1 0,⟨some (vW [vG [vI dX.1.dz,vB dX.1.has],vB dX.2]),rB 271 [vG [vI p.dz,vB p.has],vU x_.an] (vW [vG [vI dX.1.dz,vB dX.1.has],vB dX.2]),λ_ _=>(by rw[qn];exact(a82 p x_.an).b)⟩] ?_ (he:=by subst qn;kernel_rfl);refine ek [] [0,1,2] [2,6,22,23] [vP b1,vB y9.2,vG [vI dX.1.dz,vB dX.1.has],vB dX.2] (oA [vI 0,vF]) λJJ=>?_;refine uL [0] [1,2,3] [22] (oS [vI dX.1.dz,vB dX.1.has] rfl rfl) ?_;refine uB 10 [23] [8] [vB dX.2] [] (aC ?_);obtain⟨lA,wy,kf,Dv,hm⟩:=rZ hm;refine uR [6,7,8] [41] [vB (cond lA true kf)] [bP ((!y9.2)=true∧(!dX.2)=false∧True) 2 8,bP (gF lA) 2 8,fw (gF lA) λ_ hS hg=>a88 (aZ:=dM) (gZ:=JJ) (wx:=b1) (tM:=dM) m _ rm _ _ _ _ _ _ _ _ _ _ _ _ _ (bF (hg.1) Dv) _ (aK (ij (ij (aK bc (hS.im 3 rfl)) (hS.bk 2 rfl)) (hS.bk 0 rfl)) (hS.im 3 rfl))] ?_ (he:=by subst wy;kernel_rfl);refine aB [1,2,3] ?_;refine uC hm ?_ ?_;intro hm;cases hm;have hm:=TG;cases hm;exact uZ [] [];intro hm;refine aq ?_;cases hm;exact λ_ _ ll hS=>⟨_,rfl,aw.aQ (ks:=[2]) ll (by kernel_rfl),hS⟩;intro hm;refine uJ [3,6,16] [kb 1 8] hm ?_ ?_;intro hm;cases hm;have hm:=TG;cases hm;exact uZ [] [];intro hm;refine aq ?_;cases hm;exact λ_ _ tN hS=>⟨_,rfl,aw.aQ (ks:=[2]) tN (by kernel_rfl),hS⟩;rintro _ _ ⟨TF,hz,H,hS⟩;subst hz;replace hm:=dW TG;replace hS:=hS.aV [1,2] rfl;refine aN H hS (uA 9 (vB (x_.an==3)) [kb 0 0] ?_);refine uA 10 (vB (cond (x_.an==9) true (x_.an==10))) [kb 0 0,bP (gF (x_.an==9)) 0 0] (az ?_);obtain⟨oD,Dq,mu,yY,hm⟩:=eA hm;refine uR [9] [86] [vB mu] [bP (gT (!(x_.an==3))) 0 2,bP ((x_.Op !=0)=false∧(!(x_.an==3))=true∧True) 0 3,bP (cond (x_.Op !=0) true (!(x_.Value==[]))=false∧(!(x_.an==3))=true∧True) 0 4,bP ((!(cond (x_.an==9) true (x_.an==10)))=true∧oD=false∧True) 0 7,⟨some (vG [vI x_.mg.A,vI x_.mg.B]),λwz=>x_.Of=false∧(!(cond (x_.an==9) true (x_.an==10)))=true∧oD=false∧True→V.bZ b1 5 [vI x_.mg.A,vI x_.mg.B] 0 wz,λ_ hS=>λhg=>(hS.bk 0 rfl).eU rfl⟩] ?_ (he:=by subst Dq yY;kernel_rfl);refine uC hm ?_ ?_;intro hm;refine uR [2,10,86] [4] [vF] [] (aB [] (aR ?_));cases hm;exact bj [] bp;intro hm;refine aq (az (uR [86] [88] [vU x_.an] [kb 0 0] (aL ?_)));obtain⟨ku,hz,hm⟩:=ah hm;refine uK [] [89] [vB ku] [eB b1 (e2 x_ (gL [dM])),eI bG x_.ae dM] ?_ ?_;replace hm:=hz;refine uA 89 (vB (x_.an==1)) [] ?_;refine uC hm ?_ ?_;intro hm;refine aq ?_;cases hm;exact te;intro hm;refine uW [] [2,10,88,89] [vP b1,vB (cond (x_.an==9) true (x_.an==10)),vU x_.an,vB (x_.an==2)] [] ?_;cases hm;exact te;refine qL (λhc=>?c70) (λhc=>?_)
 case c70=>
  replace hm:=bT hc hm;refine uR [2,10,88,89] [4] [vB (Ba x_.bm)] [kb 0 1,kc (a0x x_.bm)] (aB [] (aR ?_));cases hm;exact bj [] bp
 replace hm:=bF hc hm;refine uJ [88,89] [] hm ?_ ?_;intro hm;obtain⟨JI,a8a,xy,TH,hm⟩:=iD hm;obtain⟨sk,DG,hm⟩:=bl hm;refine uR [2,10] [4] [vB sk] [kb 0 1,kc (a0y m _ _ a8a),bP (gT JI) 0 2,bP (gT (cond JI (decide (x_.Op≤6)) false)) 0 3,fv (gT (cond JI (decide (x_.Op≤6)) false)) λhg=>a0w x_.Value 400,bP (gT xy) 0 2,bP ((x_.Op !=0)=false∧xy=true∧True) 0 3,bP ((x_.Value==[])=true∧(x_.Op !=0)=false∧xy=true∧True) 0 4] ?_ (he:=by subst TH DG;kernel_rfl);refine aB [] (aR ?_);cases hm;exact bj [] bp;intro hm;refine aq ?_;obtain⟨Bd,TI,tJ,JA,hm⟩:=eA hm;refine uR [2,10] [4] [vB tJ] [kb 0 1,bP (gT (x_.bm==[])) 0 0,bP (gT Bd) 0 0,⟨some (vG [vI x_.mg.A,vI x_.mg.B]),λwz=>(!(cond (x_.an==9) true (x_.an==10)))=false∧cond Bd (decide (x_.an≤14)) false=true∧True→V.bZ b1 5 [vI x_.mg.A,vI x_.mg.B] 0 wz,λ_ hS=>λhg=>(hS.bk 0 rfl).eU rfl⟩,fv ((!(cond (x_.an==9) true (x_.an==10)))=false∧cond Bd (decide (x_.an≤14)) false=true∧True) λhg=>a83 x_.mg] ?_ (he:=by subst TI JA;kernel_rfl);refine aB [] (aR ?_);cases hm;exact bj [] bp
def FY(m:Nat)(fj:bL→iR→Bool→Option Bool)(c_:fT)(p:iR):Nat→Int→Option (Sum Bool Unit)
 |0,_=>none
 |kk+1,dp=>cond (decide (dp<ln c_.bA)) (aH (0≤dp∧dp<ln c_.bA)<|Option.bind (JH m fj (gi c_.bA dp) p) λiY=>cond (!iY) (some (.inl false)) (FY m fj c_ p kk (J (dp+1)))) (some (.inr ()))
def JK(m:Nat)(fj:bL→iR→Bool→Option Bool)(c_:fT)(p:iR):Option Bool:=lt (cond (!(c_.Tag==[])) (!(c_.Tag==[42])) false) λx9=>Option.bind (cond x9 (FW m c_.Tag) (some default)) λcJ=>lt (cond (cond x9 (!cJ) false) true (decide (64<ln c_.bA))) λfE=>cond fE (some false) (Option.bind (FY m fj c_ p m 0) λ(cv:Sum Bool Unit)=>di cv λDJ=>lt (cond (!(c_.Tag==[])) true (decide (0<ln c_.bA))) λmn=>some mn)
theorem a8b{aF:Gh}(m)(fj)(rm:yX fj)(c_)(p)(r)(hm:JK m fj c_ p=some r)(w)(hL:Rd [eI qR c_.bA aF] w):Rb 186 [vG [vS c_.Tag,vL aF c_.bA],vG [vI p.dz,vB p.has]] (vB r) w:=by
 rw[JK]at hm;refine cu hL (call186 _) func186 ntmps186 λM X w=>(aM ?_);refine uM [] [0] [0] (oB [vS c_.Tag,vL aF c_.bA] rfl) λb1=>?_;refine uM [] [0,1] [1] (oB [vI p.dz,vB p.has] rfl) λb4=>?_;refine uP 3 [] (aC (az ?_));obtain⟨x9,wc,cJ,nq,hm⟩:=rZ hm;obtain⟨fE,ox,hm⟩:=bl hm;refine uI [kb 1 0,bP (gT (!(c_.Tag==[]))) 1 0,bP (gT x9) 1 0,fv (gT x9) λhg=>a0y m _ _ (bT (hg.1) nq),bP (gF (cond x9 (!cJ) false)) 1 1] hm ?_ ?_ (he:=by subst wc ox;kernel_rfl);intro hm;refine uR [2,3] [4] [vF] [] (aB [] (aR ?_));cases hm;exact bj [] bp;intro hm;refine aq ?_;obtain⟨cv,hz,JL⟩:=ah hm;intro _ _ yZ hS;refine dh (λa' w'=>∃DJ:Unit,cv=Sum.inr DJ∧Fr 48 [(2,[],vP b1)] a'∧SH M X w [eB b4 [vI p.dz,vB p.has],eB b1 [vS c_.Tag,vL aF c_.bA],eI qR c_.bA aF] w') ?_ ?_;replace hm:=hz;refine aN yZ hS (uR [] [28,29,30] [vL aF c_.bA,vI (ln c_.bA),vI 0] [kb 1 1] (aL ?_));refine ep [] [30] (λdp=>[vI dp]) (λ_=>[eB b4 [vI p.dz,vB p.has],eB b1 [vS c_.Tag,vL aF c_.bA],eI qR c_.bA aF]) hm (λkk dp hm=>?_);rw[FY]at hm;refine uA 31 (vB (decide (dp<ln c_.bA))) [] (az ?_);refine uC hm ?_ ?_;intro hm;refine aq (az (aL (aM ?_)));obtain⟨jc,hm⟩:=bX hm;refine uB 2 [31] [2,3,28,29,30,33] [vP b1,vP b4,vL aF c_.bA,vI (ln c_.bA),vI dp,.agg ⟨e2 (gi c_.bA dp) (aF.s dp.toNat)⟩] [ki 2 jc,⟨some (.agg ⟨e2 (gi c_.bA dp) (aF.s dp.toNat)⟩),λwz=>V.bZ (ab aF.a) (ao aF.a+dp.toNat*9) (e2 (gi c_.bA dp) (aF.s dp.toNat)) 0 wz,λ_ hS=>(hS.im 2 rfl).eg jc 0 rfl⟩] ?_;refine uM [] [0,1,2] [] (oA [vU 0,vN,vU 0,vN,vF,vI 0,vI 0,vF,vO]) λb25=>?_;refine uL [0] [1,2,3] [33] (oS (e2 (gi c_.bA dp) (aF.s dp.toNat)) rfl rfl) (aC ?_);obtain⟨iY,Df,hm⟩:=ah hm;refine uR [6] [37] [vB (!iY)] [kE 0 9,kE 1 2,kr λ_ hS=>a89 (dM:=aF.s dp.toNat 0) m _ rm _ _ _ Df _ (aK bc (MS ((hS.im 3 rfl).el jc)))] (aB [1,2,3] ?_);refine uC hm ?_ ?_;intro hm;cases hm;have hm:=JL;cases hm;exact uZ [] [];intro hm;exact aq (fK [] hm);intro hm;refine bn ?_;cases hm;exact λ_ _ qm hS=>⟨_,rfl,aw.aQ (ks:=[2]) qm (by kernel_rfl),hS⟩;rintro _ _ ⟨DJ,hz,H,hS⟩;subst hz;replace hm:=dW JL;replace hS:=hS.aV [1,2] rfl;obtain⟨mn,vY,hm⟩:=bl hm;refine aN H hS (uR [2] [4] [vB mn] [kb 0 0,bP (gF (!(c_.Tag==[]))) 0 1] ?_ (he:=by subst vY;kernel_rfl));refine aB [] (aR ?_);cases hm;exact bj [] bp
def NM(m:Nat)(fj:bL→iR→Bool→Option Bool)(x_:fT)(tK:Int)(tL:Bool):Option Bool:=Option.bind (JK m fj x_ (iR.mk tK tL)) λy6=>some (!y6)
theorem a8c{dM:Gh}{bx:Nat}(m)(fj)(rm:yX fj)(x_)(tK)(tL)(r)(hm:NM m fj x_ tK tL=some r)(w)(hL:Rd [eI qR x_.bA dM,a8.ro bx [vI tK,vB tL]] w):Rb 185 [vG [vS x_.Tag,vL dM x_.bA],vP bx] (vB r) w:=by
 rw[NM]at hm;refine cu hL (call185 _) func185 ntmps185 λM X w=>(aM ?_);refine uM [] [0,1] [0] (oB [vS x_.Tag,vL dM x_.bA] rfl) λb1=>?_;refine uP 2 [] (aC ?_);obtain⟨y6,gh,hm⟩:=ah hm;refine uR [1,2] [3] [vB (!y6)] [kE 0 2,⟨some (vG [vI tK,vB tL]),rN bx 0 [vI tK,vB tL],λ_ hS=>(hS.ro 2 rfl).eU rfl⟩,kr λ_ hS=>a8b (aF:=dM) m _ rm _ _ _ gh _ (aK bc (hS.im 1 rfl))] (aB [] (aR ?_));cases hm;exact bj [] bp
def JM(m:Nat)(fj:bL→iR→Bool→Option Bool)(s:List fT)(jC:Int)(jD:Bool):Nat→Int→Option (Sum Int Unit)
 |0,_=>none
 |kk+1,v6=>cond (decide (v6<ln s)) (aH (0≤v6∧v6<ln s)<|Option.bind (NM m fj (gi s v6) jC jD) λdA=>cond dA (some (.inl v6)) (JM m fj s jC jD kk (J (v6+1)))) (some (.inr ()))
def NN(m:Nat)(fj:bL→iR→Bool→Option Bool)(s:List fT)(jC:Int)(jD:Bool):Option Int:=Option.bind (JM m fj s jC jD m 0) λ(z3:Sum Int Unit)=>di z3 λdq=>some (-1)
theorem a8d{aZ:Gh}{gZ:Nat}(m)(fj)(rm:yX fj)(s)(jC)(jD)(r)(hm:NN m fj s jC jD=some r)(w)(hL:Rd [eI jQ s aZ,a8.ro gZ [vI jC,vB jD]] w):Rb 236 [vL aZ s,.func (.func 185) ⟨[]⟩ ⟨[vP gZ]⟩] (vI r) w:=by
 rw[NN]at hm;refine cu hL (call236 _) func236 ntmps236 λM X w=>?_;refine uO [] ?_;obtain⟨z3,hz,eQ⟩:=ah hm;intro _ _ H2 hS;refine dh (λa' w'=>∃dq:Unit,z3=Sum.inr dq∧Fr 19 [] a'∧SH M X w [eI jQ s aZ,a8.ro gZ [vI jC,vB jD]] w') ?_ ?_;replace hm:=hz;refine aN H2 hS (uR [] [7,8] [vI (ln s),vI 0] [] (aL ?_));refine ep [] [8] (λv6=>[vI v6]) (λ_=>[eI jQ s aZ,a8.ro gZ [vI jC,vB jD]]) hm (λkk v6 hm=>?_);rw[JM]at hm;refine uA 9 (vB (decide (v6<ln s))) [] (az ?_);refine uC hm ?_ ?_;intro hm;refine aq (az (aL (uR [9] [5] [vI v6] [] ?_)));obtain⟨dn,dA,j3,hm⟩:=kL hm;refine uI [ki 0 dn,⟨some (vG [vS (gi s v6).Tag,.slice (aZ.s v6.toNat 0).a (gi s v6).bA.length (aZ.s v6.toNat 0).c]),λwz=>V.bZ (ab aZ.a) (ao aZ.a+v6.toNat*2) [vS (gi s v6).Tag,.slice (aZ.s v6.toNat 0).a (gi s v6).bA.length (aZ.s v6.toNat 0).c] 0 wz,λ_ hS=>(hS.im 0 rfl).eg dn 0 rfl⟩,kr λ_ hS=>a8c (dM:=aZ.s v6.toNat 0) (bx:=gZ) m _ rm _ _ _ _ j3 _ (aK (ij bc (hS.ro 1 rfl)) (s0 ((hS.im 0 rfl).el dn)))] hm ?_ ?_;intro hm;cases hm;have hm:=eQ;cases hm;exact uZ [] [];intro hm;exact aq (fK [] hm);intro hm;refine bn ?_;cases hm;exact λ_ _ H8 hS=>⟨_,rfl,aw.aQ (ks:=[]) H8 (by kernel_rfl),hS⟩;rintro _ _ ⟨dq,hz,H,hS⟩;subst hz;replace hm:=dW eQ;replace hS:SH M _ w [] _:=hS.aV [] rfl;refine aN H hS ?_;cases hm;exact uZ [] []
def NO(m:Nat)(fj:bL→iR→Bool→Option Bool)(s:List fT)(jC:Int)(jD:Bool):Option Bool:=Option.bind (NN m fj s jC jD) λy3=>some (decide (0≤y3))
theorem a8e{aZ:Gh}{gZ:Nat}(m)(fj)(rm:yX fj)(s)(jC)(jD)(r)(hm:NO m fj s jC jD=some r)(w)(hL:Rd [eI jQ s aZ,a8.ro gZ [vI jC,vB jD]] w):Rb 184 [vL aZ s,.func (.func 185) ⟨[]⟩ ⟨[vP gZ]⟩] (vB r) w:=by
 rw[NO]at hm;refine cu hL (call184 _) func184 ntmps184 λM X w=>?_;refine uO [] ?_;obtain⟨y3,cd,hm⟩:=ah hm;refine uR [0,1] [4] [vB (decide (0≤y3))] [kr λ_ hS=>a8d (aZ:=aZ) (gZ:=gZ) m _ rm _ _ _ _ cd _ (aK (ij bc (hS.ro 1 rfl)) (hS.im 0 rfl))] (aB [] (aR ?_));cases hm;exact bj [] bp
def FZ(m:Nat)(c_:bL):Nat→Int→Option (Sum Bool Unit)
 |0,_=>none
 |kk+1,dp=>cond (decide (dp<ln c_.iE)) (aH (0≤dp∧dp<ln c_.iE)<|lt (cond (decide (gi c_.iE dp<1)) true (decide (4<gi c_.iE dp))) λlA=>cond lA (some (.inl false)) (FZ m c_ kk (J (dp+1)))) (some (.inr ()))
def G0(m:Nat):Nat→bL→iR→Bool→Option Bool
 |0,_,_,_=>none
 |k+1,c_,p,gY=>lt (cond (!(gY==(c_.IY !=0))) true (decide (4<c_.IY))) λx9=>lt (cond x9 true (J (ln c_.iE+1) !=ln c_.bt)) λoJ=>lt (cond oJ true (decide (64<ln c_.bt))) λfE=>cond fE (some false) (Option.bind (FZ m c_ m 0) λ(cv:Sum Bool Unit)=>di cv λDJ=>Option.bind (NO m (G0 m k) c_.bt p.dz p.has) λjy=>some (!jy))
theorem a8f(m:Nat):∀(k:Nat),yX (G0 m k):=by
 intro k
 induction k with
 |zero=>intro aF aj M c_ p gY r hm;exact cM hm
 |succ k ih=>
  intro aF aj M c_ p gY r hm w hS;rw[G0]at hm;have aJ:SH M (ay [eI jQ c_.bt aF,eI (tI .u8) c_.iE aj]) w [eI jQ c_.bt aF,eI (tI .u8) c_.iE aj] w:=hS;generalize hX:ay [eI jQ c_.bt aF,eI (tI .u8) c_.iE aj]=X at aJ⊢;clear hS hX;have hS:=aJ;clear aJ;refine dZ func133 rfl ntmps133 rfl λ_ H=>?_;refine aN H hS (aM (ek [] [0,1] [1,2] [vG [vI p.dz,vB p.has],vB gY] (oB (e0 c_ (gL [aF,aj])) rfl) λb1=>?_));refine uM [] [0,1,2] [1] (oB [vI p.dz,vB p.has] rfl) λb4=>?_;refine uP 3 [] (aC (az ?_));obtain⟨x9,wc,oJ,wA,hm⟩:=eA hm;obtain⟨fE,ox,hm⟩:=bl hm;refine uJ [2] [kb 1 0,bP (gF (!(gY==(c_.IY !=0)))) 1 0,bP (gF x9) 1 2,bP (gF x9) 1 1,bP (gF oJ) 1 1] hm ?_ ?_ (he:=by subst wc wA ox;kernel_rfl);intro hm;refine uR [3,4] [6] [vF] [] (aB [] (aR ?_));cases hm;exact bj [] bp;intro hm;refine aq ?_;obtain⟨cv,hz,JL⟩:=ah hm;refine uS (z:=cv) [] [] (λDJ=>[]) (λDJ=>[eB b4 [vI p.dz,vB p.has],eB b1 (e0 c_ (gL [aF,aj])),eI jQ c_.bt aF,eI (tI .u8) c_.iE aj]) ?_ ?_;replace hm:=hz;refine uR [] [36,37,38] [vL aj c_.iE,vI (ln c_.iE),vI 0] [kb 1 2] (aL ?_);refine ep [] [38] (λdp=>[vI dp]) (λ_=>[eB b4 [vI p.dz,vB p.has],eB b1 (e0 c_ (gL [aF,aj])),eI jQ c_.bt aF,eI (tI .u8) c_.iE aj]) hm (λkk dp hm=>?_);rw[FZ]at hm;refine uA 39 (vB (decide (dp<ln c_.iE))) [] (az ?_);refine uC hm ?_ ?_;intro hm;refine aq (az (aL ?_));obtain⟨jc,hm⟩:=bX hm;refine uR [39] [3,4,8,36,37,38] [vP b1,vP b4,vU (gi c_.iE dp),vL aj c_.iE,vI (ln c_.iE),vI dp] [ki 3 jc,kj 3 0 jc] ?_;obtain⟨lA,wy,hm⟩:=bl hm;refine uJ [8] [] hm ?_ ?_ (he:=by subst wy;kernel_rfl);intro hm;cases hm;have hm:=JL;cases hm;exact uZ [] [];intro hm;exact aq (fK [] hm);intro hm;refine bn ?_;cases hm;exact ts;rintro DJ hz;subst hz;replace hm:=dW JL;obtain⟨jy,xv,hm⟩:=ah hm;refine uR [3,4] [6] [vB (!jy)] [kb 1 1,kr λ_ hS=>a8e (aZ:=aF) (gZ:=b4) m _ ih _ _ _ _ xv _ (aK (ij bc (hS.bk 0 rfl)) (hS.im 2 rfl))] (aB [] (aR ?_));cases hm;exact bj [] bp
def a0A(m:Nat)(c_:bL)(p:iR)(gY:Bool):Option Bool:=G0 m m c_ p gY
theorem a8g{aF aj:Gh}(m)(c_)(p)(gY)(r)(hm:a0A m c_ p gY=some r)(w)(hL:Rd [eI jQ c_.bt aF,eI (tI .u8) c_.iE aj] w):Rb 133 [.agg ⟨e0 c_ (gL [aF,aj])⟩,vG [vI p.dz,vB p.has],vB gY] (vB r) w:=ik hL (call133 _) (λw' h=>a8f m m aF aj F0 c_ p gY r hm w' h)

def NP(m:Nat)(c_:bL):Option Bool:=Option.bind (a0A m c_ (iR.mk 0 false) false) λy6=>some (!y6)
theorem a8h{aF aj:Gh}(m)(c_)(r)(hm:NP m c_=some r)(w)(hL:Rd [eI jQ c_.bt aF,eI (tI .u8) c_.iE aj] w):Rb 132 [.agg ⟨e0 c_ (gL [aF,aj])⟩] (vB r) w:=by
 rw[NP]at hm;refine cu hL (call132 _) func132 ntmps132 λM X w=>(aM ?_);refine uM [] [0,1] [0] (oB (e0 c_ (gL [aF,aj])) rfl) λb1=>?_;refine uP 2 [] (aC ?_);obtain⟨y6,gh,hm⟩:=ah hm;refine uR [1] [2] [vB (!y6)] [kE 0 3,kr λ_ hS=>a8g (aF:=aF) (aj:=aj) m _ _ _ _ gh _ (aK (aK bc (hS.im 2 rfl)) (hS.im 1 rfl))] (aB [] (aR ?_));cases hm;exact bj [] bp

def G1(m:Nat)(s:List bL):Nat→Int→Option (Sum Int Unit)
 |0,_=>none
 |kk+1,v6=>cond (decide (v6<ln s)) (aH (0≤v6∧v6<ln s)<|Option.bind (NP m (gi s v6)) λdA=>cond dA (some (.inl v6)) (G1 m s kk (J (v6+1)))) (some (.inr ()))
def NQ(m:Nat)(s:List bL):Option Int:=Option.bind (G1 m s m 0) λ(z3:Sum Int Unit)=>di z3 λdq=>some (-1)
theorem a8i{aZ:Gh}(m)(s)(r)(hm:NQ m s=some r)(w)(hL:Rd [eI bG s aZ] w):Rb 183 [vL aZ s,.func (.func 132) ⟨[]⟩ ⟨[]⟩] (vI r) w:=by
 rw[NQ]at hm;refine cu hL (call183 _) func183 ntmps183 λM X w=>?_;refine uO [] ?_;obtain⟨z3,hz,eQ⟩:=ah hm;intro _ _ H2 hS;refine dh (λa' w'=>∃dq:Unit,z3=Sum.inr dq∧Fr 19 [] a'∧SH M X w [eI bG s aZ] w') ?_ ?_;replace hm:=hz;refine aN H2 hS (uR [] [7,8] [vI (ln s),vI 0] [] (aL ?_));refine ep [] [8] (λv6=>[vI v6]) (λ_=>[eI bG s aZ]) hm (λkk v6 hm=>?_);rw[G1]at hm;refine uA 9 (vB (decide (v6<ln s))) [] (az ?_);refine uC hm ?_ ?_;intro hm;refine aq (az (aL (uR [9] [5] [vI v6] [] ?_)));obtain⟨dn,dA,j3,hm⟩:=kL hm;refine uI [ki 0 dn,⟨some (.agg ⟨e0 (gi s v6) (aZ.s v6.toNat)⟩),λwz=>V.bZ (ab aZ.a) (ao aZ.a+v6.toNat*3) (e0 (gi s v6) (aZ.s v6.toNat)) 0 wz,λ_ hS=>(hS.im 0 rfl).eg dn 0 rfl⟩,kr λ_ hS=>a8h (aF:=aZ.s v6.toNat 0) (aj:=aZ.s v6.toNat 1) m _ _ j3 _ (aK (aK bc (ZV ((hS.im 0 rfl).el dn))) (ld ((hS.im 0 rfl).el dn)))] hm ?_ ?_;intro hm;cases hm;have hm:=eQ;cases hm;exact uZ [] [];intro hm;exact aq (fK [] hm);intro hm;refine bn ?_;cases hm;exact λ_ _ H8 hS=>⟨_,rfl,aw.aQ (ks:=[]) H8 (by kernel_rfl),hS⟩;rintro _ _ ⟨dq,hz,H,hS⟩;subst hz;replace hm:=dW eQ;replace hS:SH M _ w [] _:=hS.aV [] rfl;refine aN H hS ?_;cases hm;exact uZ [] []

def NR(m:Nat)(s:List bL):Option Bool:=Option.bind (NQ m s) λy3=>some (decide (0≤y3))
theorem a8j{aZ:Gh}(m)(s)(r)(hm:NR m s=some r)(w)(hL:Rd [eI bG s aZ] w):Rb 131 [vL aZ s,.func (.func 132) ⟨[]⟩ ⟨[]⟩] (vB r) w:=by
 rw[NR]at hm;refine cu hL (call131 _) func131 ntmps131 λM X w=>?_;refine uO [] ?_;obtain⟨y3,cd,hm⟩:=ah hm;refine uR [0,1] [4] [vB (decide (0≤y3))] [kr λ_ hS=>a8i (aZ:=aZ) m _ _ cd _ (aK bc (hS.im 0 rfl))] (aB [] (aR ?_));cases hm;exact bj [] bp

def a8k(eC:(List bL)→Option Int):Prop:=∀(a7:Gh)(M:Av)(l_:List bL)(r:Int),eC l_=some r→∀w,S0 M [eI bG l_ a7] w→Calls prog 134 ⟨[vL a7 l_]⟩ w (λe w'=>∃v,e=.returned v∧v=vI r∧SH M (ay [eI bG l_ a7]) w [] w')
def Be(m:Nat)(l_:List bL)(v9:Int)(v24:Int)(Bf:(List bL)→Option Int):Nat→Int→Int→Option Int
 |0,_,_=>none
 |kk+1,cV,cZ=>lt (decide (cZ<ln (gi (gi l_ v9).bt v24).bA)) λmn=>cond mn (aH (0≤cZ∧cZ<ln (gi (gi l_ v9).bt v24).bA)<|lt (gi (gi (gi l_ v9).bt v24).bA cZ).an λrn=>lt (gi (gi (gi l_ v9).bt v24).bA cZ).bm λpa=>lt (gi (gi (gi l_ v9).bt v24).bA cZ).Op λB5=>lt (gi (gi (gi l_ v9).bt v24).bA cZ).Value λB6=>lt (gi (gi (gi l_ v9).bt v24).bA cZ).AP λB7=>lt (gi (gi (gi l_ v9).bt v24).bA cZ).mg.A λrh=>lt (gi (gi (gi l_ v9).bt v24).bA cZ).mg.B λwv=>lt (gi (gi (gi l_ v9).bt v24).bA cZ).Of λiM=>Option.bind (Bf (gi (gi (gi l_ v9).bt v24).bA cZ).ae) λTJ=>Be m l_ v9 v24 Bf kk (J (cV+TJ)) (J (cZ+1))) (some cV)
def Bg(m:Nat)(l_:List bL)(v9:Int)(Bf:(List bL)→Option Int):Nat→Int→Int→Option Int
 |0,_,_=>none
 |kk+1,v23,v24=>cond (decide (v24<ln (gi l_ v9).bt)) (Option.bind (aH (0≤v24∧v24<ln (gi l_ v9).bt)<|Be m l_ v9 v24 Bf m v23 0) λ(eR:Int)=>Bg m l_ v9 Bf kk eR (J (v24+1))) (some v23)
def Bh(m:Nat)(l_:List bL)(Bf:(List bL)→Option Int):Nat→Int→Int→Option Int
 |0,_,_=>none
 |kk+1,v8,v9=>cond (decide (v9<ln l_)) (Option.bind (aH (0≤v9∧v9<ln l_)<|Bg m l_ v9 Bf m v8 0) λ(z12:Int)=>Bh m l_ Bf kk z12 (J (v9+1))) (some v8)
def rp(m:Nat):Nat→List bL→Option Int
 |0,_=>none
 |k+1,l_=>Option.bind (Bh m l_ (rp m k) m (ln l_) 0) λ(z5:Int)=>some z5
theorem a8l(m:Nat):∀(k:Nat),a8k (rp m k):=by
 intro k
 induction k with
 |zero=>intro a7 M l_ r hm;exact cM hm
 |succ k ih=>
  intro a7 M l_ r hm w hS;rw[rp]at hm;have aJ:SH M (ay [eI bG l_ a7]) w [eI bG l_ a7] w:=hS;generalize hX:ay [eI bG l_ a7]=X at aJ⊢;clear hS hX;have hS:=aJ;clear aJ;refine dZ func134 rfl ntmps134 rfl λ_ H=>?_;refine aN H hS (dm [0] [vL a7 l_] [] ?_);refine uA 3 (vI (ln l_)) [] ?_;obtain⟨z5,hz,hm⟩:=ah hm;refine uK [0] [3] [vI z5] [eI bG l_ a7] ?_ ?_;replace hm:=hz;refine uR [0] [12,13,14] [vL a7 l_,vI (ln l_),vI 0] [] (aL ?_);refine iV [] [3,14] (λv8 v9=>[vI v8,vI v9]) (λ_ _=>[eI bG l_ a7]) hm (λkk v8 v9 hm=>?_);rw[Bh]at hm;refine uA 15 (vB (decide (v9<ln l_))) [] (az ?_);refine uC hm ?_ ?_;intro hm;refine aq ?_;obtain⟨z12,hz,hm⟩:=ah hm;refine uK [15] [3] [vI z12] [eI bG l_ a7] ?_ ?_;replace hm:=hz;refine aL (aM ?_);obtain⟨cH,hm⟩:=bX hm;refine uB 2 [15] [3,12,13,14,17] [vI v8,vL a7 l_,vI (ln l_),vI v9,.agg ⟨e0 (gi l_ v9) (a7.s v9.toNat)⟩] [ki 0 cH,⟨some (.agg ⟨e0 (gi l_ v9) (a7.s v9.toNat)⟩),λwz=>V.bZ (ab a7.a) (ao a7.a+v9.toNat*3) (e0 (gi l_ v9) (a7.s v9.toNat)) 0 wz,λ_ hS=>(hS.im 0 rfl).eg cH 0 rfl⟩] ?_;refine uM [] [0] [] (oA [vU 0,vO,vO]) λrk=>?_;refine uL [0] [1] [17] (oS (e0 (gi l_ v9) (a7.s v9.toNat)) rfl rfl) (aC ?_);refine uR [5] [19,20,21] [.slice (a7.s v9.toNat 0).a (gi l_ v9).bt.length (a7.s v9.toNat 0).c,vI (ln (gi l_ v9).bt),vI 0] [kb 0 1] (aB [1] (aL ?_));refine iV [] [3,21] (λv23 v24=>[vI v23,vI v24]) (λ_ _=>[eI bG l_ a7]) hm (λkk v23 v24 hm=>?_);rw[Bg]at hm;refine uA 22 (vB (decide (v24<ln (gi l_ v9).bt))) [] (az ?_);refine uC hm ?_ ?_;intro hm;refine aq ?_;obtain⟨eR,hz,hm⟩:=ah hm;refine uK [22] [3] [vI eR] [eI bG l_ a7] ?_ ?_;replace hm:=hz;refine aL (aM ?_);obtain⟨nY,hm⟩:=bX hm;refine uB 2 [22] [3,12,13,14,19,20,21,24] [vI v23,vL a7 l_,vI (ln l_),vI v9,.slice (a7.s v9.toNat 0).a (gi l_ v9).bt.length (a7.s v9.toNat 0).c,vI (ln (gi l_ v9).bt),vI v24,vG [vS (gi (gi l_ v9).bt v24).Tag,.slice ((a7.s v9.toNat 0).s v24.toNat 0).a (gi (gi l_ v9).bt v24).bA.length ((a7.s v9.toNat 0).s v24.toNat 0).c]] [⟨none,λ_=>dR (a7.s v9.toNat 0).a∧0≤v24∧v24<ln (gi l_ v9).bt,λ_ hS=>(ld ((hS.im 0 rfl).el cH)).iB nY⟩,⟨some (vG [vS (gi (gi l_ v9).bt v24).Tag,.slice ((a7.s v9.toNat 0).s v24.toNat 0).a (gi (gi l_ v9).bt v24).bA.length ((a7.s v9.toNat 0).s v24.toNat 0).c]),λwz=>V.bZ (ab (a7.s v9.toNat 0).a) (ao (a7.s v9.toNat 0).a+v24.toNat*2) [vS (gi (gi l_ v9).bt v24).Tag,.slice ((a7.s v9.toNat 0).s v24.toNat 0).a (gi (gi l_ v9).bt v24).bA.length ((a7.s v9.toNat 0).s v24.toNat 0).c] 0 wz,λ_ hS=>(ld ((hS.im 0 rfl).el cH)).eg nY 0 rfl⟩] ?_;refine uM [] [0] [] (oA [vN,vO]) λJl=>?_;refine uL [0] [1] [24] (oS [vS (gi (gi l_ v9).bt v24).Tag,.slice ((a7.s v9.toNat 0).s v24.toNat 0).a (gi (gi l_ v9).bt v24).bA.length ((a7.s v9.toNat 0).s v24.toNat 0).c] rfl rfl) (aC ?_);refine uR [7] [26,27,28] [.slice ((a7.s v9.toNat 0).s v24.toNat 0).a (gi (gi l_ v9).bt v24).bA.length ((a7.s v9.toNat 0).s v24.toNat 0).c,vI (ln (gi (gi l_ v9).bt v24).bA),vI 0] [kb 0 1] (aB [1] (aL ?_));refine iV [] [3,28] (λcV cZ=>[vI cV,vI cZ]) (λ_ _=>[eI bG l_ a7]) hm (λkk cV cZ hm=>?_);rw[Be]at hm;obtain⟨mn,vY,hm⟩:=bl hm;refine uA 29 (vB mn) [] ?_ (he:=by subst vY;kernel_rfl);refine az (uC hm ?_ ?_);intro hm;refine aq (az (aL (aM ?_)));obtain⟨wB,rn,DK,hm⟩:=cx hm;obtain⟨pa,Tn,B5,To,hm⟩:=eA hm;obtain⟨B6,Tp,B7,Tq,hm⟩:=eA hm;obtain⟨rh,Jz,wv,Tr,hm⟩:=eA hm;obtain⟨iM,DF,hm⟩:=bl hm;refine uB 2 [29] [31] [vG [vU rn,vS pa,vU B5,vS B6,vB B7,vI rh,vI wv,vB iM,.slice (((a7.s v9.toNat 0).s v24.toNat 0).s cZ.toNat 0).a (gi (gi (gi l_ v9).bt v24).bA cZ).ae.length (((a7.s v9.toNat 0).s v24.toNat 0).s cZ.toNat 0).c]] [⟨none,λ_=>dR ((a7.s v9.toNat 0).s v24.toNat 0).a∧0≤cZ∧cZ<ln (gi (gi l_ v9).bt v24).bA,λ_ hS=>(s0 ((ld ((hS.im 0 rfl).el cH)).el nY)).iB wB⟩,⟨some (.agg ⟨e2 (gi (gi (gi l_ v9).bt v24).bA cZ) (((a7.s v9.toNat 0).s v24.toNat 0).s cZ.toNat)⟩),λwz=>V.bZ (ab ((a7.s v9.toNat 0).s v24.toNat 0).a) (ao ((a7.s v9.toNat 0).s v24.toNat 0).a+cZ.toNat*9) (e2 (gi (gi (gi l_ v9).bt v24).bA cZ) (((a7.s v9.toNat 0).s v24.toNat 0).s cZ.toNat)) 0 wz,λ_ hS=>(s0 ((ld ((hS.im 0 rfl).el cH)).el nY)).eg wB 0 rfl⟩] ?_ (he:=by subst DK Tn To Tp Tq Jz Tr DF;kernel_rfl);refine ek [] [0] [3,12,13,14,19,20,21,26,27,28,31] [vI cV,vL a7 l_,vI (ln l_),vI v9,.slice (a7.s v9.toNat 0).a (gi l_ v9).bt.length (a7.s v9.toNat 0).c,vI (ln (gi l_ v9).bt),vI v24,.slice ((a7.s v9.toNat 0).s v24.toNat 0).a (gi (gi l_ v9).bt v24).bA.length ((a7.s v9.toNat 0).s v24.toNat 0).c,vI (ln (gi (gi l_ v9).bt v24).bA),vI cZ,vG [vU rn,vS pa,vU B5,vS B6,vB B7,vI rh,vI wv,vB iM,.slice (((a7.s v9.toNat 0).s v24.toNat 0).s cZ.toNat 0).a (gi (gi (gi l_ v9).bt v24).bA cZ).ae.length (((a7.s v9.toNat 0).s v24.toNat 0).s cZ.toNat 0).c]] (oA [vU 0,vN,vU 0,vN,vF,vI 0,vI 0,vF,vO]) λb54=>?_;refine uL [0] [1] [31] (oS [vU rn,vS pa,vU B5,vS B6,vB B7,vI rh,vI wv,vB iM,.slice (((a7.s v9.toNat 0).s v24.toNat 0).s cZ.toNat 0).a (gi (gi (gi l_ v9).bt v24).bA cZ).ae.length (((a7.s v9.toNat 0).s v24.toNat 0).s cZ.toNat 0).c] rfl rfl) (aC ?_);obtain⟨TJ,a8m,hm⟩:=ah hm;refine uW [9] [3] [vI (J (cV+TJ))] [kb 0 8,kr λ_ hS=>ik (aK bc (MS ((s0 ((ld ((hS.im 1 rfl).el cH)).el nY)).el wB))) (call134 _) (λw' h'=>ih (((a7.s v9.toNat 0).s v24.toNat 0).s cZ.toNat 0) F0 _ _ a8m w' h')] (aB [1] ?_);exact jx [] hm;intro hm;refine bn ?_;cases hm;exact te;exact jx [] hm;intro hm;refine bn ?_;cases hm;exact te;exact jx [] hm;intro hm;refine bn ?_;cases hm;exact te;refine aB [] ?_;cases hm;exact uZ [] []
def a0B(m:Nat)(l_:List bL):Option Int:=rp m m l_
theorem a8n{a7:Gh}(m)(l_)(r)(hm:a0B m l_=some r)(w)(hL:Rd [eI bG l_ a7] w):Rb 134 [vL a7 l_] (vI r) w:=ik hL (call134 _) (λw' h=>a8l m m a7 F0 l_ r hm w' h)

def JN(m:Nat)(l_:List bL):Option Int:=Option.bind (cond (ln l_==0) (some default) (NR m l_)) λy3=>cond (cond (ln l_==0) true y3) (some 8) (Option.bind (a0B m l_) λy8=>cond (decide (64<y8)) (some 4) (some 0))
theorem a8o{a7:Gh}(m)(l_)(r)(hm:JN m l_=some r)(w)(hL:Rd [eI bG l_ a7] w):Rb 88 [vL a7 l_] (vI r) w:=by
 rw[JN]at hm;refine cu hL (call88 _) func88 ntmps88 λM X w=>?_;refine uO [] (az ?_);obtain⟨y3,cd,hm⟩:=ah hm;refine uI [fw (gF (ln l_==0)) λ_ hS hg=>a8j (aZ:=a7) m _ _ (bF (hg.1) cd) _ (aK bc (hS.im 0 rfl))] hm ?_ ?_;intro hm;refine uR [0] [2] [vI 8] [] (aB [] (aR ?_));cases hm;exact bj [] bp;intro hm;refine aq (az ?_);obtain⟨y8,k6,hm⟩:=ah hm;refine uR [0] [12] [vB (decide (64<y8))] [kr λ_ hS=>a8n (a7:=a7) m _ _ k6 _ (aK bc (hS.im 0 rfl))] (aB [] ?_);refine uC hm ?_ ?_;intro hm;cases hm;exact uZ [] [];intro hm;refine aq ?_;cases hm;exact uZ [] []

def uz(c_:bu):Bool:=lt (cond (c_.an==0) (c_.bm==[]) false) λj5=>lt (cond (cond j5 (c_.cS==0) false) (ln c_.ae==0) false) λgM=>lt (cond (cond gM (c_.aS.bm==[]) false) (ln c_.aS.Value==0) false) λpE=>cond pE (!c_.aS.lN) false
theorem TK{aF aj:Gh}(c_:bu)(w)(hL:Rd [eI aa c_.aS.Value aF,eI bq c_.ae aj] w):Rb 89 [.agg ⟨e4 c_ (gL [aF,aj])⟩] (vB (uz c_)) w:=by
 generalize hm:uz c_=r;rw[uz]at hm;refine cu hL (call89 _) func89 ntmps89 λM X w=>(aM ?_);refine uM [] [0,1] [0] (oB (e4 c_ (gL [aF,aj])) rfl) λb1=>?_;refine uP 2 [] (aC (aM ?_));refine uB 2 [] [5] [.agg ⟨e8 c_.aS (gL [aF])⟩] [⟨some (.agg ⟨e8 c_.aS (gL [aF])⟩),λwz=>V.bZ b1 3 (e8 c_.aS (gL [aF])) 0 wz,λ_ hS=>(hS.bk 0 rfl).eU rfl⟩] ?_;refine uM [] [0,1,2] [] (oA [vN,vO,vF]) λb8=>?_;refine uL [0] [1,2,3] [5] (oS (e8 c_.aS (gL [aF])) rfl rfl) (aC ?_);obtain⟨j5,wC,gM,rq,hm⟩:=eA hm;obtain⟨pE,Dp,hm⟩:=bl hm;refine uR [1,3] [2] [vB (cond pE (!c_.aS.lN) false)] [kb 1 0,bP (gT (c_.an==0)) 1 1,bP (gT j5) 1 2,bP (gT (cond j5 (c_.cS==0) false)) 1 6,bP (gT gM) 0 0,bP (gT (cond gM (c_.aS.bm==[]) false)) 0 1,bP (gT pE) 0 2] ?_ (he:=by subst wC rq Dp;kernel_rfl);refine aB [] (aR ?_);subst hm;exact bj [] bp

def pc(cy:Int):Int:=cond (cy==2) (22) (lt (cond (cy==19) (cy==19) (cond (cy==21) (cy==21) (cy==23))) λ(z9:Bool)=>cond z9 (cU (cy+1)) (0))
theorem a0C(cy:Int):Rt 187 [vU cy] (vU (pc cy)):=by
 generalize hm:pc cy=r;rw[pc]at hm;refine df (call187 _) func187 ntmps187 λM X w=>?_;refine uO [] (az ?_);refine uA 3 (vU cy) [] (aL ?_);refine uA 4 (vB (cy==2)) [] ?_;refine uC hm ?_ ?_;intro hm;refine uR [0,3,4] [2] [vU 22] [] (aR ?_);subst hm;exact bj [] bp;intro hm;obtain⟨z9,hz,hm⟩:=bl hm;refine uK [3,4] [6] [vB z9] [] ?_ ?_;replace hm:=hz.symm;refine uR [4] [6] [vB (cy==19)] [] ?_;refine uC hm ?_ ?_;intro hm;refine aq ?_;subst hm;exact te;intro hm;refine uA 6 (vB (cy==21)) [] ?_;refine uC hm ?_ ?_;intro hm;refine aq ?_;subst hm;exact te;intro hm;refine uW [3] [6] [vB (cy==23)] [] ?_;subst hm;exact te;refine uC hm ?_ ?_;intro hm;refine uR [0,6] [2] [vU (cU (cy+1))] [] (aR ?_);subst hm;exact bj [] bp;intro hm;refine aq (uR [0,6] [2] [vU 0] [] (aR ?_));subst hm;exact bj [] bp

structure xz where
  depth:Int
  TL:Int
  bad:Bool
instance:Inhabited xz:=⟨⟨default,default,default⟩⟩
def a8p:Ty xz where
  z:=3
  enc:=λx g=>[vI x.depth,vI x.TL,vB x.bad]
  bJ:=λ_ _ _ _=>True
  len:=λ_ _=>rfl
  one:=λ_ _=>rfl
  kp:=λ_ _ _=>trivial
  bU:=λ_ _=>trivial
  fresh:=λ_=>trivial
def DL(x:xz):List Value:=a8p.enc x (gL [])
def a8q(eC:(List ax)→Int→Option xz):Prop:=∀(al:Gh)(M:Av)(v_:List ax)(mU:Int)(r:xz),eC v_ mU=some r→∀w,S0 M [eI aa v_ al] w→Calls prog 135 ⟨[vL al v_,vU mU]⟩ w (λe w'=>∃v,e=.returned v∧v=.agg ⟨DL r⟩∧SH M (ay [eI aa v_ al]) w [] w')
def JO(m:Nat)(v_:List ax)(mU:Int)(a0D:(List ax)→Int→Option xz):Nat→Int→Int→Int→Bool→Option (Int×Int×Bool)
 |0,_,_,_,_=>none
 |kk+1,v10,v11,v12,fg=>cond (decide (v10<ln v_)) (Option.bind (aH (0≤v10∧v10<ln v_)<|Option.bind (lt (cond (mU !=0) ((gi v_ v10).aX.an==mU) false) λDM=>lt (cond DM true (cond (pc (gi v_ v10).aX.an==0) (decide (0<ln (gi v_ v10).ae)) false)) λG2=>cond G2 (some true) (some fg)) λ(z31:Bool)=>lt (pc (gi v_ v10).aX.an==0) λrr=>cond rr (some (J (v12+1),z31,v11)) (Option.bind (a0D (gi v_ v10).ae (pc (gi v_ v10).aX.an)) λlB=>lt (if v11<J (lB.depth+1)then J (lB.depth+1)else v11) λyV=>lt (J (J (J (v12+1)+lB.TL)+1)) λpK=>some (pK,cond z31 true lB.bad,yV))) λ(cv:Int×Bool×Int)=>JO m v_ mU a0D kk (J (v10+1)) cv.2.2 cv.1 cv.2.1) (some (v11,v12,fg))
def DN(m:Nat):Nat→List ax→Int→Option xz
 |0,_,_=>none
 |k+1,v_,mU=>Option.bind (JO m v_ mU (DN m k) m 0 0 0 false) λ(z7:Int×Int×Bool)=>some (xz.mk z7.1 z7.2.1 z7.2.2)
theorem a8r(m:Nat):∀(k:Nat),a8q (DN m k):=by
 intro k
 induction k with
 |zero=>intro al M v_ mU r hm;exact cM hm
 |succ k ih=>
  intro al M v_ mU r hm w hS;rw[DN]at hm;have aJ:SH M (ay [eI aa v_ al]) w [eI aa v_ al] w:=hS;generalize hX:ay [eI aa v_ al]=X at aJ⊢;clear hS hX;have hS:=aJ;clear aJ;refine dZ func135 rfl ntmps135 rfl λ_ H=>?_;refine aN H hS (aM (ek [] [0] [0,1] [vL al v_,vU mU] (oA [vI 0,vI 0,vF]) λb1=>aC (aM ?_)));refine ek [] [0,1] [0,1,4] [vL al v_,vU mU,vP b1] (oA [vI 0,vI 0,vF]) λb4=>(aC ?_);obtain⟨z7,hz,hm⟩:=ah hm;refine uK [0,1] [5] [vP b4] [eB b4 [vI z7.1,vI z7.2.1,vB z7.2.2],eB b1 [vI 0,vI 0,vF],eI aa v_ al] ?_ ?_;replace hm:=hz;refine uR [0] [5,10,11,12] [vP b4,vL al v_,vI (ln v_),vI 0] [] (aL ?_);refine ML [] [12] (λv10 _ _ _=>[vI v10]) (λ_ v11 v12 fg=>[eB b4 [vI v11,vI v12,vB fg],eB b1 [vI 0,vI 0,vF],eI aa v_ al]) hm (λkk v10 v11 v12 fg hm=>?_);rw[JO]at hm;refine uA 13 (vB (decide (v10<ln v_))) [] (az ?_);refine uC hm ?_ ?_;intro hm;refine aq ?_;obtain⟨cv,hz,hm⟩:=ah hm;refine uK [13] [] [] [eB b4 [vI cv.2.2,vI cv.1,vB cv.2.1],eB b1 [vI 0,vI 0,vF],eI aa v_ al] ?_ ?_;replace hm:=hz;refine aL (aM ?_);obtain⟨fm,hm⟩:=bX hm;refine uB 2 [13] [15] [.agg ⟨e3 (gi v_ v10) (al.s v10.toNat)⟩] [ki 2 fm,⟨some (.agg ⟨e3 (gi v_ v10) (al.s v10.toNat)⟩),λwz=>V.bZ (ab al.a) (ao al.a+v10.toNat*6) (e3 (gi v_ v10) (al.s v10.toNat)) 0 wz,λ_ hS=>(hS.im 2 rfl).eg fm 0 rfl⟩] ?_;refine ek [] [0,1,2] [1,4,5,10,11,12,15] [vU mU,vP b1,vP b4,vL al v_,vI (ln v_),vI v10,.agg ⟨e3 (gi v_ v10) (al.s v10.toNat)⟩] (oA [vU 0,vN,vI 0,vN,vF,vO]) λk8=>?_;refine uL [0] [1,2,3] [15] (oS (e3 (gi v_ v10) (al.s v10.toNat)) rfl rfl) (aC (aM ?_));refine uB 4 [] [18,19] [vI (J (v12+1)),vA b4 1] [kb 1 1] ?_;refine uL [1] [0,2,3] [18,19] (oS [vI v11,vI (J (v12+1)),vB fg] rfl rfl) (aC ?_);refine uA 8 (vU (pc (gi v_ v10).aX.an)) [kb 1 0,kc (a0C (gi v_ v10).aX.an)] ?_;obtain⟨z31,hz,hm⟩:=ah hm;refine uK [] [] [] [eB b4 [vI v11,vI (J (v12+1)),vB z31],eB k8 (e3 (gi v_ v10) (al.s v10.toNat)),eB b1 [vI 0,vI 0,vF],eI aa v_ al] ?_ ?_;replace hm:=hz;obtain⟨DM,TM,G2,TN,hm⟩:=eA hm;refine uI [bP (gT (mU !=0)) 1 0,bP ((pc (gi v_ v10).aX.an==0)=true∧DM=false∧True) 1 5] hm ?_ ?_ (he:=by subst TM TN;kernel_rfl);intro hm;refine dH (uB 1 [] [43] [vA b4 2] [] ?_);refine oY [0] [1,2,3] [1,4,5,7,8,10,11,12] [vU mU,vP b1,vP b4,vP k8,vU (pc (gi v_ v10).aX.an),vL al v_,vI (ln v_),vI v10] (oS [vI v11,vI (J (v12+1)),vT] rfl rfl) (aC ?_);cases hm;exact te;intro hm;refine aq ?_;cases hm;exact te;refine az ?_;obtain⟨rr,JP,hm⟩:=bl hm;refine uI [] hm ?_ ?_ (he:=by subst JP;kernel_rfl);intro hm;refine bn ?_;cases hm;refine aB [0,2,3] ?_;exact te;intro hm;refine aq (aM ?_);obtain⟨lB,Bi,hm⟩:=ah hm;refine uB 4 [7,8] [49] [.agg ⟨DL lB⟩] [kb 1 5,kr λ_ hS=>ik (aK bc (s7 ((hS.im 3 rfl).el fm))) (call135 _) (λw' h'=>ih (al.s v10.toNat 0) F0 _ _ _ Bi w' h')] ?_;refine ek [] [0,1,2,3] [1,4,5,10,11,12,49] [vU mU,vP b1,vP b4,vL al v_,vI (ln v_),vI v10,.agg ⟨DL lB⟩] (oA [vI 0,vI 0,vF]) λb47=>?_;refine uL [0] [1,2,3,4] [49] (oS (DL lB) rfl rfl) (aC (aB [0,1,3,4] (dH ?_)));obtain⟨yV,Ts,pK,JQ,hm⟩:=eA hm;refine uB 19 [9] [68] [vG [vI yV,vI pK,vB (cond z31 true lB.bad)]] [kb 1 0,kb 0 0,kb 1 1,kb 0 1,kb 1 2,bP (gF z31) 0 2] ?_ (he:=by subst Ts JQ;kernel_rfl);refine uL [1] [0,2,3] [68] (oS [vI yV,vI pK,vB (cond z31 true lB.bad)] rfl rfl) (aC (aB [0,2,3] ?_));cases hm;exact te;exact RL [] hm;intro hm;refine bn ?_;cases hm;exact te;refine aB [0,1] (aM ?_);refine uB 1 [5] [70] [vG [vI z7.1,vI z7.2.1,vB z7.2.2]] [kE 0 3] ?_;refine uL [1] [0] [70] (oS [vI z7.1,vI z7.2.1,vB z7.2.2] rfl rfl) (aC (aB [0] (aR ?_)));cases hm;exact bj [] (IQ 0 underlying222)
def JR(m:Nat)(v_:List ax)(mU:Int):Option xz:=DN m m v_ mU
theorem a0E{al:Gh}(m)(v_)(mU)(r)(hm:JR m v_ mU=some r)(w)(hL:Rd [eI aa v_ al] w):Rb 135 [vL al v_,vU mU] (.agg ⟨DL r⟩) w:=ik hL (call135 _) (λw' h=>a8r m m al F0 v_ mU r hm w' h)

def Bj(m:Nat)(v_:List ax):Option Int:=Option.bind (JR m v_ 0) λy3=>cond (decide (16<y3.depth)) (some 20) (cond (decide (1500<y3.TL)) (some 4) (cond y3.bad (some 8) (some 0)))
theorem NS{al:Gh}(m)(v_)(r)(hm:Bj m v_=some r)(w)(hL:Rd [eI aa v_ al] w):Rb 97 [vL al v_] (vI r) w:=by
 rw[Bj]at hm;refine cu hL (call97 _) func97 ntmps97 λM X w=>?_;refine uO [] (az (aM ?_));obtain⟨y3,cd,hm⟩:=ah hm;refine uB 2 [0] [5] [.agg ⟨DL y3⟩] [kr λ_ hS=>a0E (al:=al) m _ _ _ cd _ (aK bc (hS.im 0 rfl))] ?_;refine uM [] [0] [] (oA [vI 0,vI 0,vF]) λb6=>?_;refine uL [0] [1] [5] (oS (DL y3) rfl rfl) (aC (aB [0] (aL ?_)));refine uI [kb 0 0] hm ?_ ?_;intro hm;refine uR [3] [2] [vI 20] [] (aB [] (aR ?_));cases hm;exact bj [] bp;intro hm;refine uI [kb 0 1] hm ?_ ?_;intro hm;refine uR [3] [2] [vI 4] [] (aB [] (aR ?_));cases hm;exact bj [] bp;intro hm;refine uR [3] [14] [vB y3.bad] [kb 0 2] (aB [] ?_);refine uC hm ?_ ?_;intro hm;cases hm;exact uZ [] [];intro hm;refine aq ?_;cases hm;exact uZ [] []

def DO(m:Nat)(v_:List ax):Option (Int×Int):=Option.bind (Bj m v_) λy3=>cond (y3 !=0) (some (0,y3)) (Option.bind (JR m v_ 0) λcJ=>some (cJ.depth,0))
theorem TO{al:Gh}(m)(v_)(r)(hm:DO m v_=some r)(w)(hL:Rd [eI aa v_ al] w):Rb 90 [vL al v_] (vW [vI r.1,vI r.2]) w:=by
 rw[DO]at hm;refine cu hL (call90 _) func90 ntmps90 λM X w=>?_;refine uO [] (az ?_);obtain⟨y3,cd,hm⟩:=ah hm;refine uA 4 (vI y3) [kr λ_ hS=>NS (al:=al) m _ _ cd _ (aK bc (hS.im 0 rfl))] ?_;refine uI [] hm ?_ ?_;intro hm;refine uR [0,4] [2,3] [vI 0,vI y3] [] (aB [] (aR ?_));cases hm;exact bj [] eW;intro hm;refine aq ?_;obtain⟨cJ,nq,hm⟩:=ah hm;refine uR [0,4] [2,3] [vI cJ.depth,vI 0] [kr λ_ hS=>a0E (al:=al) m _ _ _ nq _ (aK bc (hS.im 0 rfl))] (aB [] (aR ?_));cases hm;exact bj [] eW

def a8s(eC:(List ct)→List ax→Option (List ct)):Prop:=∀(a7:Gh)(al:Gh)(M:Av)(l_:List ct)(v_:List ax)(r:List ct),eC l_ v_=some r→∀w,S0 M [eO 161 dJ l_ a7,eI aa v_ al] w→Calls prog 188 ⟨[vL a7 l_,vL al v_]⟩ w (λe w'=>∃v,e=.returned v∧∃(aG:Gh),v=vL aG r∧SH M (ay [eO 161 dJ l_ a7,eI aa v_ al]) w [eO 161 dJ r aG] w')
def G3(m:Nat)(v_:List ax)(a0F:(List ct)→List ax→Option (List ct)):Nat→List ct→Int→Option (List ct)
 |0,_,_=>none
 |kk+1,v6,v8=>cond (decide (v8<ln v_)) (Option.bind (aH (0≤v8∧v8<ln v_)<|aH (ln v6+ln ([(gi v_ v8).aX]:List ct)≤137438953472)<|lt (v6++([(gi v_ v8).aX]:List ct)) λDP=>lt (pc (gi v_ v8).aX.an !=0) λG4=>cond G4 (Option.bind (a0F DP (gi v_ v8).ae) λru=>aH (ln ru+ln ([ct.mk (pc (gi v_ v8).aX.an) [] 0 [] false]:List ct)≤137438953472)<|lt (ru++([ct.mk (pc (gi v_ v8).aX.an) [] 0 [] false]:List ct)) λDQ=>some (DQ,DP)) (some (DP,DP))) λ(cW:(List ct)×(List ct))=>G3 m v_ a0F kk cW.1 (J (v8+1))) (some v6)
def DR(m:Nat):Nat→List ct→List ax→Option (List ct)
 |0,_,_=>none
 |k+1,l_,v_=>Option.bind (G3 m v_ (DR m k) m l_ 0) λ(z3:List ct)=>some z3
theorem a8t(m:Nat):∀(k:Nat),a8s (DR m k):=by
 intro k
 induction k with
 |zero=>intro a7 al M l_ v_ r hm;exact cM hm
 |succ k ih=>
  intro a7 al M l_ v_ r hm w hS;rw[DR]at hm;have aJ:SH M (ay [eO 161 dJ l_ a7,eI aa v_ al]) w [eO 161 dJ l_ a7,eI aa v_ al] w:=hS;generalize hX:ay [eO 161 dJ l_ a7,eI aa v_ al]=X at aJ⊢;clear hS hX;have hS:=aJ;clear aJ;refine dZ func188 rfl ntmps188 rfl λ_ H=>?_;refine aN H hS (dm [0,1] [vL a7 l_,vL al v_] [] ?_);obtain⟨z3,hz,hm⟩:=ah hm;refine gz [1] [0] (λ(iu:Gh)=>[vL iu z3]) (λiu=>[eO 161 dJ z3 iu,eI aa v_ al]) ?_ ?_;replace hm:=hz;refine uR [1] [8,9,10] [vL al v_,vI (ln v_),vI 0] [] (aL ?_);refine mI [] [0,10] (λv6 v8 g7=>[vL g7 v6,vI v8]) (λv6 _ g7=>[eO 161 dJ v6 g7,eI aa v_ al]) a7 hm (λkk v6 v8 g7 hm=>?_);rw[G3]at hm;refine uA 11 (vB (decide (v8<ln v_))) [] (az ?_);refine uC hm ?_ ?_;intro hm;refine aq ?_;obtain⟨cW,hz,hm⟩:=ah hm;intro _ _ uo hS;refine dh (λa' w'=>∃(nZ:Gh)(N7:Gh),Fr 35 (fS [8,9,10,0] [vL al v_,vI (ln v_),vI v8,vL nZ cW.1]) a'∧SH M X w [eO 161 dJ cW.1 nZ,eI aa v_ al] w') ?_ ?_;replace hm:=hz;refine aN uo hS (aL (aM ?_));obtain⟨ml,hm⟩:=bX hm;refine uB 2 [11] [13] [.agg ⟨e3 (gi v_ v8) (al.s v8.toNat)⟩] [ki 1 ml,⟨some (.agg ⟨e3 (gi v_ v8) (al.s v8.toNat)⟩),λwz=>V.bZ (ab al.a) (ao al.a+v8.toNat*6) (e3 (gi v_ v8) (al.s v8.toNat)) 0 wz,λ_ hS=>(hS.im 1 rfl).eg ml 0 rfl⟩] ?_;refine uM [] [0,1] [] (oA [vU 0,vN,vI 0,vN,vF,vO]) λB1=>?_;refine oY [0] [1,2] [0,6,8,9,10] [vL g7 v6,vP B1,vL al v_,vI (ln v_),vI v8] (oS (e3 (gi v_ v8) (al.s v8.toNat)) rfl rfl) (aC (aM ?_));refine uB 3 [0] [14,16] [vL g7 v6,.agg ⟨e7 (gi v_ v8).aX⟩] [kE 0 5] ?_;refine uM [] [0,1,2] [16] (oL dJ 161 (vG [vU 0,vN,vI 0,vN,vF]) [(gi v_ v8).aX] [gL []] (λ_=>bd.cons trivial bd.nil) rfl) λg22=>?_;obtain⟨lQ,DP,a8u,hm⟩:=cx hm;refine uM [2,0] [1,3] [14,17] (oP dJ (vG [vU 0,vN,vI 0,vN,vF]) g7 g22 a8u lQ rfl rfl) λmQ=>?_;refine uB 6 [18] [0] [vL mQ DP] [] (aC (aB [0,2,3] ?_));refine uA 7 (vU (pc (gi v_ v8).aX.an)) [kb 1 0,kc (a0C (gi v_ v8).aX.an)] ?_;obtain⟨G4,TP,hm⟩:=bl hm;refine uI [] hm ?_ ?_ (he:=by subst TP;kernel_rfl);intro hm;refine dH (uB 3 [6,0] [25,27] [vL mQ DP,.slice (al.s v8.toNat 0).a (gi v_ v8).ae.length (al.s v8.toNat 0).c] [kb 1 5] ?_);intro _ _ sf hS;replace hS:=hS.eN (s7 ((hS.im 2 rfl).el ml));obtain⟨ru,JS,hm⟩:=ah hm;refine aN sf hS (ek [1,0] [0,2,3] [7,8,9,10] [vU (pc (gi v_ v8).aX.an),vL al v_,vI (ln v_),vI v8] (λ_ _ sf hd=>dv sf rfl rfl (⟨call188 _,ih mQ (al.s v8.toNat 0) _ _ _ _ JS _ hd⟩:eV _ _ _ _ _)) λlR=>?_);refine uB 6 [7] [28,30] [vL lR ru,vG [vU (pc (gi v_ v8).aX.an),vN,vI 0,vN,vF]] [] ?_;refine uM [] [0,1,2,3] [30] (oL dJ 161 (vG [vU 0,vN,vI 0,vN,vF]) [ct.mk (pc (gi v_ v8).aX.an) [] 0 [] false] [gL []] (λ_=>bd.cons trivial bd.nil) rfl) λp8=>?_;obtain⟨a8v,DQ,TQ,hm⟩:=cx hm;refine uM [1,0] [2,3,4] [28,31] (oP dJ (vG [vU 0,vN,vI 0,vN,vF]) lR p8 TQ a8v rfl rfl) λDz=>?_;refine uB 9 [32] [0] [vL Dz DQ] [] (aC (aB [0,4] ?_));cases hm;exact λ_ _ H58 hS=>⟨Dz,mQ,aw.aQ (ks:=[8,9,10,0]) H58 (by kernel_rfl),hS⟩;intro hm;refine aq ?_;cases hm;refine aB [0,2] ?_;exact λ_ _ ke hS=>⟨mQ,mQ,aw.aQ (ks:=[8,9,10,0]) ke (by kernel_rfl),hS⟩;rintro _ _ ⟨nZ,N7,H,hS⟩;refine aN H hS (qK [0,8,9,10] [vL nZ cW.1,vL al v_,vI (ln v_),vI (J (v8+1))] [] ?_);exact uh nZ hm;intro hm;refine bn ?_;cases hm;exact tg g7;intro iu;refine aB [0] ?_;refine uR [0] [4] [vL iu z3] [] (aR ?_);cases hm;exact db iu [0] bp
def NT(m:Nat)(l_:List ct)(v_:List ax):Option (List ct):=DR m m l_ v_
theorem a8w{a7 al:Gh}(m)(l_)(v_)(r)(hm:NT m l_ v_=some r)(M:Av)(w:World)(hS:S0 M [eO 161 dJ l_ a7,eI aa v_ al] w):eV prog 188 ⟨[vL a7 l_,vL al v_]⟩ w (λv w'=>∃(aG:Gh),v=vL aG r∧SH M (ay [eO 161 dJ l_ a7,eI aa v_ al]) w [eO 161 dJ r aG] w'):=⟨call188 _,a8t m m a7 al M l_ v_ r hm w hS⟩

def G5(m:Nat)(v_:List ax):Option ((List ct)×Int):=Option.bind (Bj m v_) λy3=>cond (y3 !=0) (some (([]:List ct),y3)) (Option.bind (NT m [] v_) λed=>some (ed,0))
theorem a8x{al:Gh}(m)(v_)(r)(hm:G5 m v_=some r):Dm 136 [vL al v_] [eI aa v_ al] (λ(aG:Gh)=>vW [vL aG r.1,vI r.2]) (λaG=>[eO 161 dJ r.1 aG]):=by
 rw[G5]at hm;refine gy (call136 _) func136 ntmps136 λM X w=>?_;refine uO [] (az ?_);obtain⟨y3,cd,hm⟩:=ah hm;refine uA 4 (vI y3) [kr λ_ hS=>NS (al:=al) m _ _ cd _ (aK bc (hS.im 0 rfl))] ?_;refine uI [] hm ?_ ?_;intro hm;refine uR [0,4] [2,3] [vO,vI y3] [] (aB [] (aR ?_));cases hm;refine cQ 161 dJ ?_;exact db Gh.nil [0] eW;intro hm;refine aq (aM (uB 1 [0,4] [10] [vL al v_] [] ?_));refine cQ 161 dJ ?_;obtain⟨ed,sd,hm⟩:=ah hm;refine uQ [0,1] [1] [10] (a8w (a7:=Gh.nil) (al:=al) m _ _ _ sd) λg15=>?_;refine uB 4 [11] [2,3] [vL g15 ed,vI 0] [] (aC (aB [0] (aR ?_)));cases hm;exact db g15 [0] eW

def Bk(s:a6)(cC:a6):Option Bool:=aH (decide (ln cC≤ln s)=true→0≤ln cC∧ln cC≤ln s)<|lt (cond (decide (ln cC≤ln s)) (sub s 0 (ln cC)==cC) false) λx4=>some x4
theorem a0G(s)(cC)(r)(hm:Bk s cC=some r):Rt 194 [vS s,vS cC] (vB r):=by
 rw[Bk]at hm;refine df (call194 _) func194 ntmps194 λM X w=>?_;refine uO [] ?_;obtain⟨li,x4,mj,hm⟩:=cx hm;refine uR [0,1] [4] [vB x4] [nK (gT (decide (ln cC≤ln s))) λhg=>li hg.1] ?_ (he:=by subst mj;kernel_rfl);refine aR ?_;cases hm;exact bj [] bp

def z1(s:a6)(cC:a6):Option Bool:=Option.bind (Bk s cC) λy3=>some y3
theorem NU(s)(cC)(r)(hm:z1 s cC=some r):Rt 144 [vS s,vS cC] (vB r):=by
 rw[z1]at hm;refine df (call144 _) func144 ntmps144 λM X w=>?_;refine uO [] ?_;obtain⟨y3,cd,hm⟩:=ah hm;cases hm;exact uZ [] [kc (a0G _ _ _ cd)]

def JT(m:Nat)(s:a6):Option Bool:=lt (cond (s==[]) true (decide (64<ln s))) λx3=>lt (cond x3 true (decide (0≤strings_IndexByte s 0))) λx4=>cond x4 (some false) (Option.bind (z1 s [45,45]) λy9=>cond y9 (some (!(s==[45,45]))) (Option.bind (yW m s) λed=>some (s==ed)))
theorem a8y(m)(s)(r)(hm:JT m s=some r):Rt 137 [vS s] (vB r):=by
 rw[JT]at hm;refine df (call137 _) func137 ntmps137 λM X w=>?_;refine uO [] (az ?_);obtain⟨x3,iq,x4,mj,hm⟩:=eA hm;refine uI [fv (gF x3) λhg=>Jv s 0] hm ?_ ?_ (he:=by subst iq mj;kernel_rfl);intro hm;cases hm;exact uZ [] [];intro hm;refine aq (az ?_);obtain⟨y9,oq,hm⟩:=ah hm;refine uI [kc (NU _ _ _ oq)] hm ?_ ?_;intro hm;cases hm;exact uZ [] [];intro hm;refine aq ?_;obtain⟨ed,sd,hm⟩:=ah hm;cases hm;exact uZ [] [kc (JC m _ _ sd)]

def NV(s:a6)(cC:a6):Option a6:=Option.bind (Bk s cC) λy3=>cond y3 (aH (0≤ln cC∧ln cC≤ln s)<|some (sub s (ln cC) (ln s))) (some s)
theorem a8z(s)(cC)(r)(hm:NV s cC=some r):Rt 301 [vS s,vS cC] (vS r):=by
 rw[NV]at hm;refine df (call301 _) func301 ntmps301 λM X w=>?_;refine uO [] (az ?_);obtain⟨y3,cd,hm⟩:=ah hm;refine uI [kc (a0G _ _ _ cd)] hm ?_ ?_;intro hm;obtain⟨qW,hm⟩:=bX hm;cases hm;exact uZ [] [kh qW];intro hm;refine aq ?_;cases hm;exact uZ [] []

def JU(s:a6)(cC:a6):Option a6:=Option.bind (NV s cC) λy3=>some y3
theorem a8A(s)(cC)(r)(hm:JU s cC=some r):Rt 275 [vS s,vS cC] (vS r):=by
 rw[JU]at hm;refine df (call275 _) func275 ntmps275 λM X w=>?_;refine uO [] ?_;obtain⟨y3,cd,hm⟩:=ah hm;cases hm;exact uZ [] [kc (a8z _ _ _ cd)]

def JV(c_:Int):Bool:=lt (cond (decide (48≤c_)) (decide (c_≤57)) false) λx3=>x3
theorem a0H(c_:Int):Rt 276 [vU c_] (vB (JV c_)):=by
 generalize hm:JV c_=r;rw[JV]at hm;refine df (call276 _) func276 ntmps276 λM X w=>?_;refine uO [] ?_;obtain⟨x3,iq,hm⟩:=bl hm;refine uR [0] [2] [vB x3] [] ?_ (he:=by subst iq;kernel_rfl);refine aR ?_;subst hm;exact bj [] bp

def JW(s:a6):Option Bool:=Option.bind (JU s [45]) λy3=>aH ((!(y3==[]))=true→0≤(0:Int)∧(0:Int)<ln y3)<|lt (cond (!(y3==[])) (JV (bQ y3 0)) false) λx7=>some x7
theorem a8B(s)(r)(hm:JW s=some r):Rt 239 [vS s] (vB r):=by
 rw[JW]at hm;refine df (call239 _) func239 ntmps239 λM X w=>?_;refine uO [] ?_;obtain⟨y3,cd,hm⟩:=ah hm;refine uA 0 (vS y3) [kc (a8A _ _ _ cd)] ?_;obtain⟨qW,x7,vM,hm⟩:=cx hm;refine uR [0] [2] [vB x7] [nK (gT (!(y3==[]))) λhg=>qW hg.1,fv (gT (!(y3==[]))) λhg=>a0H (bQ y3 0)] ?_ (he:=by subst vM;kernel_rfl);refine aR ?_;cases hm;exact bj [] bp

def JX(c_:Int):Bool:=lt (cond (decide (97≤fu .or .u8 c_ 32)) (decide (fu .or .u8 c_ 32≤122)) false) λx3=>cond x3 (decide (c_<128)) false
theorem a8C(c_:Int):Rt 277 [vU c_] (vB (JX c_)):=by
 generalize hm:JX c_=r;rw[JX]at hm;refine df (call277 _) func277 ntmps277 λM X w=>?_;refine uO [] ?_;obtain⟨x3,iq,hm⟩:=bl hm;refine uR [0] [2] [vB (cond x3 (decide (c_<128)) false)] [] ?_ (he:=by subst iq;kernel_rfl);refine aR ?_;subst hm;exact bj [] bp

def NW(c_:Int):Bool:=lt (cond (JX c_) true (JV c_)) λx3=>lt (cond (cond x3 true (c_==95)) true (c_==45)) λx4=>cond x4 true (decide (128≤c_))
theorem a8D(c_:Int):Rt 240 [vU c_] (vB (NW c_)):=by
 generalize hm:NW c_=r;rw[NW]at hm;refine df (call240 _) func240 ntmps240 λM X w=>?_;refine uO [] ?_;obtain⟨x3,iq,x4,mj,hm⟩:=eA hm;refine uR [0] [2] [vB (cond x4 true (decide (128≤c_)))] [kc (a8C c_),fv (gF (JX c_)) λhg=>a0H c_] ?_ (he:=by subst iq mj;kernel_rfl);refine aR ?_;subst hm;exact bj [] bp

def stringslite_Index(s:a6)(nz:a6):Option Int:=lt (cond (ln nz==0) true (nz==s)) λx5=>cond x5 (some 0) (cond (ln nz==1) (aH (0≤(0:Int)∧(0:Int)<ln nz)<|some (stringslite_IndexByte s (bQ nz 0))) (cond (decide (ln s≤ln nz)) (some (-1)) (none)))
theorem a8E(s)(nz)(r)(hm:stringslite_Index s nz=some r):Rt 302 [vS s,vS nz] (vI r):=by
 rw[stringslite_Index]at hm;refine df (call302 _) func302 ntmps302 λM X w=>?_;refine uO [] ?_;refine uA 5 (vI (ln nz)) [] (az (aL ?_));obtain⟨x5,Du,hm⟩:=bl hm;refine uI [] hm ?_ ?_ (he:=by subst Du;kernel_rfl);intro hm;cases hm;exact uZ [] [];intro hm;refine uI [] hm ?_ ?_;intro hm;obtain⟨ml,hm⟩:=bX hm;cases hm;exact uZ [] [kh ml,kc (a0u s (bQ nz 0))];intro hm;refine RC [] hm ?_;intro hm;cases hm;exact uZ [] []

def strings_Index(s:a6)(nz:a6):Option Int:=Option.bind (stringslite_Index s nz) λy3=>some y3
theorem a8F(s)(nz)(r)(hm:strings_Index s nz=some r):Rt 278 [vS s,vS nz] (vI r):=by
 rw[strings_Index]at hm;refine df (call278 _) func278 ntmps278 λM X w=>?_;refine uO [] ?_;obtain⟨y3,cd,hm⟩:=ah hm;cases hm;exact uZ [] [kc (a8E _ _ _ cd)]

def strings_Contains(s:a6)(nz:a6):Option Bool:=Option.bind (strings_Index s nz) λy3=>some (decide (0≤y3))
theorem a8G(s)(nz)(r)(hm:strings_Contains s nz=some r):Rt 241 [vS s,vS nz] (vB r):=by
 rw[strings_Contains]at hm;refine df (call241 _) func241 ntmps241 λM X w=>?_;refine uO [] ?_;obtain⟨y3,cd,hm⟩:=ah hm;cases hm;exact uZ [] [kc (a8F _ _ _ cd)]

def JY(t_:ct):Option Bool:=aH (ln t_.cY+ln t_.Unit≤9223372036854775807)<|lt (strings_IndexByte (t_.cY++t_.Unit) 0) λx9=>Option.bind (Option.bind (cond (t_.an==1) (some (t_.an==1)) (cond (t_.an==2) (some (t_.an==2)) (some (t_.an==3)))) λ(eP:Bool)=>cond eP (lt (cond (decide (x9<0)) (!(t_.cY==[])) false) λiX=>some (true,false,false,false,iX)) (cond (t_.an==4) (lt (cond (decide (x9<0)) (!(t_.cY==[])) false) λnr=>Option.bind (cond nr (cond t_.mh (some default) (JW t_.cY)) (some default)) λft=>Option.bind (cond nr (cond t_.mh (some default) (cond ft (z1 t_.cY [45,45]) (some default))) (some default)) λqU=>lt (cond nr (cond (cond t_.mh true (cond ft (!qU) false)) true (t_.cY==[45])) false) λTR=>some (true,false,false,true,TR)) (Option.bind (cond (t_.an==5) (some (t_.an==5)) (some (t_.an==7))) λ(z37:Bool)=>cond z37 (some (true,false,false,false,decide (x9<0))) (cond (t_.an==9) (lt (cond (decide (x9<0)) (ln t_.cY==1) false) λrh=>aH (rh=true→0≤(0:Int)∧(0:Int)<ln t_.cY)<|lt (cond rh (!(NW (bQ t_.cY 0))) false) λiM=>Option.bind (cond (cond iM true (t_.cY==[45])) (strings_Contains [32,9,10,12,13,34,39,58,59,44,91,93,40,41,123,125] t_.cY) (some default)) λgW=>lt (cond (cond iM true (t_.cY==[45])) (!gW) false) λxA=>some (true,false,false,false,xA)) (Option.bind (cond (t_.an==10) (some (t_.an==10)) (cond (t_.an==11) (some (t_.an==11)) (some (t_.an==12)))) λ(TS:Bool)=>cond TS (lt (cond (decide (x9<0)) (decide ((-1000000000000)≤t_.cS)) false) λTT=>lt (cond TT (decide (t_.cS≤1000000000000)) false) λtE=>lt (cond tE (cond (!t_.mh) true (Int.tmod t_.cS 1000==0)) false) λTU=>lt (cond TU (cond (!(t_.an==12)) true (!(t_.Unit==[]))) false) λrv=>some (false,t_.an==12,true,t_.an !=11,rv)) (lt (cond (decide (13≤t_.an)) (decide (t_.an≤24)) false) λTV=>some (false,false,false,false,TV))))))) λ(z12:Bool×Bool×Bool×Bool×Bool)=>lt (cond z12.2.2.2.2 (cond z12.1 true (t_.cY==[])) false) λDS=>lt (cond DS (cond z12.2.1 true (t_.Unit==[])) false) λTW=>lt (cond TW (cond z12.2.2.1 true (t_.cS==0)) false) λTX=>lt (cond TX (cond z12.2.2.2.1 true (!t_.mh)) false) λTY=>some TY
theorem a8H(t_)(r)(hm:JY t_=some r):Rt 190 [.agg ⟨e7 t_⟩] (vB r):=by
 rw[JY]at hm;refine df (call190 _) func190 ntmps190 λM X w=>(aM ?_);refine uM [] [] [0] (oB (e7 t_) rfl) λb1=>?_;refine uP 2 [] (aC ?_);refine uR [] [3,4,5,6] [vF,vF,vF,vF] [] ?_;obtain⟨wD,x9,wc,hm⟩:=cx hm;refine uA 7 (vB (decide (x9<0))) [kb 0 1,kb 0 3,kh wD,kc (Jv (t_.cY++t_.Unit) 0)] ?_ (he:=by subst wc;kernel_rfl);obtain⟨z12,hz,hm⟩:=ah hm;refine uK [] [3,4,5,6,7] [vB z12.1,vB z12.2.1,vB z12.2.2.1,vB z12.2.2.2.1,vB z12.2.2.2.2] [eB b1 (e7 t_)] ?_ ?_;replace hm:=hz;refine uA 16 (vU t_.an) [kb 0 0] (aL ?_);obtain⟨eP,hz,hm⟩:=ah hm;refine uK [] [25] [vB eP] [eB b1 (e7 t_)] ?_ ?_;replace hm:=hz;refine uR [] [1,3,4,5,6,7,16,25] [vP b1,vF,vF,vF,vF,vB (decide (x9<0)),vU t_.an,vB (t_.an==1)] [] ?_;refine uC hm ?_ ?_;intro hm;refine aq ?_;cases hm;exact te;intro hm;refine uA 25 (vB (t_.an==2)) [] ?_;refine uC hm ?_ ?_;intro hm;refine aq ?_;cases hm;exact te;intro hm;refine uV 25 (vB (t_.an==3)) [] ?_;cases hm;exact te;refine qL (λhc=>?TZ) (λhc=>?_)
 case TZ=>
  replace hm:=bT hc hm;obtain⟨iX,tw,hm⟩:=bl hm;refine MG [1,3,4,5,6,7] [vP b1,vT,vF,vF,vF,vB iX] [bP (gT (decide (x9<0))) 0 1] ?_ (he:=by subst tw;kernel_rfl);cases hm;exact te
 replace hm:=bF hc hm;refine uR [25] [1,3,4,5,6,7,16,35] [vP b1,vF,vF,vF,vF,vB (decide (x9<0)),vU t_.an,vB (t_.an==4)] [] ?_;refine uC hm ?_ ?_;intro hm;refine uR [16,35] [3,6] [vT,vT] [] ?_;obtain⟨nr,Dn,ft,yP,hm⟩:=rZ hm;obtain⟨qU,J7,TR,a8I,hm⟩:=iD hm;refine uV 7 (vB TR) [bP (gT (decide (x9<0))) 0 1,bP (gT nr) 0 4,bP (t_.mh=false∧nr=true∧True) 0 1,fv (t_.mh=false∧nr=true∧True) λhg=>a8B _ _ (bF (hg.1) (bT (hg.2.1) yP)),bP (ft=true∧t_.mh=false∧nr=true∧True) 0 1,fv (ft=true∧t_.mh=false∧nr=true∧True) λhg=>NU _ _ _ (bT (hg.1) (bF (hg.2.1) (bT (hg.2.2.1) J7))),bP (cond t_.mh true (cond ft (!qU) false)=false∧nr=true∧True) 0 1] ?_ (he:=by subst Dn a8I;kernel_rfl);cases hm;exact te;intro hm;obtain⟨z37,hz,hm⟩:=ah hm;refine uK [35] [63] [vB z37] [eB b1 (e7 t_)] ?_ ?_;replace hm:=hz;refine uR [35] [63] [vB (t_.an==5)] [] ?_;refine uC hm ?_ ?_;intro hm;refine aq ?_;cases hm;exact te;intro hm;refine uV 63 (vB (t_.an==7)) [] ?_;cases hm;exact te;refine qL (λhc=>?c81) (λhc=>?_)
 case c81=>
  replace hm:=bT hc hm;refine uW [16,63] [3] [vT] [] ?_;cases hm;exact te
 replace hm:=bF hc hm;refine uR [63] [66] [vB (t_.an==9)] [] ?_;refine uC hm ?_ ?_;intro hm;refine uR [16,66] [3] [vT] [] ?_;obtain⟨rh,Jz,Jn,hm⟩:=mf hm;obtain⟨iM,DF,hm⟩:=bl hm;refine uA 7 (vB (cond iM true (t_.cY==[45]))) [bP (gT (decide (x9<0))) 0 1,bP (gT rh) 0 1,nK (gT rh) λhg=>Jn hg.1,fv (gT rh) λhg=>a8D (bQ t_.cY 0),bP (gF iM) 0 1] ?_ (he:=by subst Jz DF;kernel_rfl);obtain⟨gW,yH,xA,U0,hm⟩:=iD hm;refine uV 7 (vB xA) [bP (gT (cond iM true (t_.cY==[45]))) 0 1,fv (gT (cond iM true (t_.cY==[45]))) λhg=>a8G _ _ _ (bT (hg.1) yH)] ?_ (he:=by subst U0;kernel_rfl);cases hm;exact te;intro hm;obtain⟨TS,hz,hm⟩:=ah hm;refine uK [16,66] [94] [vB TS] [eB b1 (e7 t_)] ?_ ?_;replace hm:=hz;refine uR [66] [94] [vB (t_.an==10)] [] ?_;refine uC hm ?_ ?_;intro hm;refine aq ?_;cases hm;exact te;intro hm;refine uA 94 (vB (t_.an==11)) [] ?_;refine uC hm ?_ ?_;intro hm;refine aq ?_;cases hm;exact te;intro hm;refine uW [16] [94] [vB (t_.an==12)] [] ?_;cases hm;exact te;refine uC hm ?_ ?_;intro hm;refine lZ [1,3,4,5,6,7] [vP b1,vF,vB (t_.an==12),vT,vB (t_.an !=11),vB (decide (x9<0))] [kb 0 0,kb 0 0] ?_;obtain⟨TT,a8J,tE,Jb,hm⟩:=eA hm;obtain⟨TU,a8K,rv,JZ,hm⟩:=eA hm;refine uV 7 (vB rv) [bP (gT (decide (x9<0))) 0 2,bP (gT TT) 0 2,bP (gT tE) 0 4,bP ((!t_.mh)=false∧tE=true∧True) 0 2,⟨none,λ_=>((!t_.mh)=false∧tE=true∧True→(1000:Int)≠0),λ_ _=>λhg=>(by show(1000:Int)≠0;decide)⟩,bP ((!(t_.an==12))=false∧TU=true∧True) 0 3] ?_ (he:=by subst a8J Jb a8K JZ;kernel_rfl);cases hm;exact te;intro hm;obtain⟨TV,a8L,hm⟩:=bl hm;refine uW [94] [7] [vB TV] [kb 0 0,bP (gT (decide (13≤t_.an))) 0 0] ?_ (he:=by subst a8L;kernel_rfl);cases hm;exact te;obtain⟨DS,U1,TW,a8M,hm⟩:=eA hm;obtain⟨TX,a8N,TY,a8O,hm⟩:=eA hm;refine uR [1,3,4,5,6,7] [2] [vB TY] [bP (z12.1=false∧z12.2.2.2.2=true∧True) 0 1,bP (z12.2.1=false∧DS=true∧True) 0 3,bP (z12.2.2.1=false∧TW=true∧True) 0 2,bP (z12.2.2.2.1=false∧TX=true∧True) 0 4] ?_ (he:=by subst U1 a8M a8N a8O;kernel_rfl);refine aB [] (aR ?_);cases hm;exact bj [] bp

def DT(i:Int)(k_:Int)(u0:List ct):Option Bool:=aH (decide (i<ln u0)=true→0≤i∧i<ln u0)<|lt (cond (decide (i<ln u0)) ((gi u0 i).an==k_) false) λx4=>some x4
theorem U2{bx:Nat}{qo:Gh}(i)(k_)(u0)(r)(hm:DT i k_ u0=some r)(w)(hL:Rd [a8.ro bx [vL qo u0],eI dJ u0 qo] w):Rb 242 [vI i,vU k_,vP bx] (vB r) w:=by
 rw[DT]at hm;refine cu hL (call242 _) func242 ntmps242 λM X w=>?_;refine uO [] ?_;obtain⟨li,x4,mj,hm⟩:=cx hm;refine uR [0,1,2] [5] [vB x4] [ko 0 0,kgo (gT (decide (i<ln u0))) 0 0,jZ (gT (decide (i<ln u0))) 1 λhg=>li hg.1,mc (gT (decide (i<ln u0))) 1 0 λhg=>li hg.1] ?_ (he:=by subst mj;kernel_rfl);refine aB [] (aR ?_);cases hm;exact bj [] bp

def K0(m:Nat)(a_:a6)(b_:a6):Option Bool:=Option.bind (yW m a_) λy3=>Option.bind (yW m b_) λy4=>some (y3==y4)
theorem a8P(m)(a_)(b_)(r)(hm:K0 m a_ b_=some r):Rt 243 [vS a_,vS b_] (vB r):=by
 rw[K0]at hm;refine df (call243 _) func243 ntmps243 λM X w=>?_;refine uO [] ?_;obtain⟨y3,cd,y4,qh,hm⟩:=pz hm;cases hm;exact uZ [] [kc (JC m _ _ cd),kc (JC m _ _ qh)]

def K1(m:Nat)(l_:List ct):Option Int:=aH (0≤(0:Int)∧(0:Int)<ln l_)<|lt (cond ((gi l_ (0:Int)).an==9) ((gi l_ (0:Int)).cY==[92]) false) λol=>cond ol (Option.bind (DT 1 13 l_) λfo=>cond (!fo) (some 0) (some 2)) (Option.bind (cond ((gi l_ (0:Int)).an==2) (K0 m (gi l_ (0:Int)).cY [117,114,108]) (some default)) λbi=>lt (cond ((gi l_ (0:Int)).an==2) bi false) λux=>cond ux (Option.bind (Option.bind (DT 1 13 l_) λj6=>cond j6 (some 2) (some 1)) λ(fM:Int)=>Option.bind (DT fM 5 l_) λrc=>cond (!rc) (some 0) (some (J (fM+1)))) (some 1))
theorem a8Q{a7:Gh}(m)(l_)(r)(hm:K1 m l_=some r)(w)(hL:Rd [eI dJ l_ a7] w):Rb 191 [vL a7 l_] (vI r) w:=by
 rw[K1]at hm;refine cu hL (call191 _) func191 ntmps191 λM X w=>(aM ?_);refine uM [] [0] [0] (oB [vL a7 l_] rfl) λb1=>?_;refine uP 2 [] (aC ?_);refine uA 3 (.func (.func 242) ⟨[]⟩ ⟨[vP b1]⟩) [] (az (aM ?_));obtain⟨wD,hm⟩:=bX hm;refine uB 3 [1] [9] [.agg ⟨e7 (gi l_ (0:Int))⟩] [kb 0 0,ki 1 wD,⟨some (.agg ⟨e7 (gi l_ (0:Int))⟩),λwz=>V.bZ (ab a7.a) (ao a7.a+((0:Int)).toNat*5) (e7 (gi l_ (0:Int))) 0 wz,λ_ hS=>(hS.im 1 rfl).eg wD 0 rfl⟩] ?_;refine uM [] [0,1] [] (oA [vU 0,vN,vI 0,vN,vF]) λjh=>?_;refine uL [0] [1,2] [9] (oS (e7 (gi l_ (0:Int))) rfl rfl) (aC (aL ?_));obtain⟨ol,yC,hm⟩:=bl hm;refine uA 10 (vB ol) [kb 0 0,bP (gT ((gi l_ (0:Int)).an==9)) 0 1] ?_ (he:=by subst yC;kernel_rfl);refine uC hm ?_ ?_;intro hm;refine az ?_;obtain⟨fo,qk,hm⟩:=ah hm;refine uR [3,4,10] [21] [vB (!fo)] [kr λ_ hS=>U2 (bx:=b1) (qo:=a7) _ _ _ _ qk _ (ij (aK bc (hS.im 2 rfl)) (hS.bk 1 rfl))] (aB [] ?_);refine uC hm ?_ ?_;intro hm;cases hm;exact uZ [] [];intro hm;refine aq ?_;cases hm;exact uZ [] [];intro hm;obtain⟨bi,vX,ux,Jk,hm⟩:=iD hm;refine uR [4,10] [3,22] [.func (.func 242) ⟨[]⟩ ⟨[vP b1]⟩,vB ux] [kb 0 0,bP (gT ((gi l_ (0:Int)).an==2)) 0 1,fv (gT ((gi l_ (0:Int)).an==2)) λhg=>a8P m _ _ _ (bT (hg.1) vX)] ?_ (he:=by subst Jk;kernel_rfl);refine aB [1,2] ?_;refine uC hm ?_ ?_;intro hm;refine uR [22] [5] [vI 1] [] ?_;obtain⟨fM,hz,hm⟩:=ah hm;refine uK [] [5] [vI fM] [eB b1 [vL a7 l_],eI dJ l_ a7] ?_ ?_;replace hm:=hz;obtain⟨j6,Bl,hm⟩:=ah hm;refine uI [kr λ_ hS=>U2 (bx:=b1) (qo:=a7) _ _ _ _ Bl _ (ij (aK bc (hS.im 1 rfl)) (hS.bk 0 rfl))] hm ?_ ?_;intro hm;refine uV 5 (vI 2) [] ?_;cases hm;exact te;intro hm;refine aq ?_;cases hm;exact te;refine az ?_;obtain⟨rc,Jr,hm⟩:=ah hm;refine uR [3] [39] [vB (!rc)] [kr λ_ hS=>U2 (bx:=b1) (qo:=a7) _ _ _ _ Jr _ (ij (aK bc (hS.im 1 rfl)) (hS.bk 0 rfl))] (aB [] ?_);refine uC hm ?_ ?_;intro hm;cases hm;exact uZ [] [];intro hm;refine aq ?_;cases hm;exact uZ [] [];intro hm;refine aq (uR [3,22] [2] [vI 1] [] (aB [] (aR ?_)));cases hm;exact bj [] bp

def G6(m:Nat)(l_:List ct):Nat→Int→Option (Sum Int Unit)
 |0,_=>none
 |kk+1,v10=>cond (decide (v10<ln l_)) (aH (0≤v10∧v10<ln l_)<|Option.bind (Option.bind (JY (gi l_ v10)) λcI=>lt (!cI) λlA=>cond lA (some true) (aH (0≤v10∧v10≤ln l_∧ln l_≤ln l_)<|lt (ff l_ v10 (ln l_)) λq38=>Option.bind (K1 m q38) λnx=>some (nx==0))) λ(z23:Bool)=>cond z23 (some (.inl 8)) (G6 m l_ kk (J (v10+1)))) (some (.inr ()))
def K3(m:Nat)(l_:List ct):Option Int:=cond (decide (1500<ln l_)) (some 4) (Option.bind (G6 m l_ m 0) λ(z7:Sum Int Unit)=>di z7 λoK=>some 0)
theorem a8R{a7:Gh}(m)(l_)(r)(hm:K3 m l_=some r)(w)(hL:Rd [eI dJ l_ a7] w):Rb 138 [vL a7 l_] (vI r) w:=by
 rw[K3]at hm;refine cu hL (call138 _) func138 ntmps138 λM X w=>?_;refine uO [] (az ?_);refine uA 7 (vB (decide (1500<ln l_))) [] ?_;refine uC hm ?_ ?_;intro hm;refine uR [0,7] [2] [vI 4] [] (aB [] (aR ?_));cases hm;exact bj [] bp;intro hm;refine aq ?_;obtain⟨z7,hz,sC⟩:=ah hm;intro _ _ H4 hS;refine dh (λa' w'=>∃oK:Unit,z7=Sum.inr oK∧Fr 26 [] a'∧SH M X w [eI dJ l_ a7] w') ?_ ?_;replace hm:=hz;refine aN H4 hS (uR [7] [8,9,10] [vL a7 l_,vI (ln l_),vI 0] [] (aL ?_));refine ep [] [10] (λv10=>[vI v10]) (λ_=>[eI dJ l_ a7]) hm (λkk v10 hm=>?_);rw[G6]at hm;refine uA 11 (vB (decide (v10<ln l_))) [] (az ?_);refine uC hm ?_ ?_;intro hm;refine aq (az (aL (aM ?_)));obtain⟨cH,hm⟩:=bX hm;refine uB 3 [11] [12,14] [vI v10,.agg ⟨e7 (gi l_ v10)⟩] [ki 0 cH,⟨some (.agg ⟨e7 (gi l_ v10)⟩),λwz=>V.bZ (ab a7.a) (ao a7.a+v10.toNat*5) (e7 (gi l_ v10)) 0 wz,λ_ hS=>(hS.im 0 rfl).eg cH 0 rfl⟩] ?_;refine ek [] [0] [0,8,9,10,12,14] [vL a7 l_,vL a7 l_,vI (ln l_),vI v10,vI v10,.agg ⟨e7 (gi l_ v10)⟩] (oA [vU 0,vN,vI 0,vN,vF]) λrk=>?_;refine uB 5 [12] [3] [vI v10] [] ?_;refine uL [0] [1] [14] (oS (e7 (gi l_ v10)) rfl rfl) (aC ?_);obtain⟨z23,hz,hm⟩:=ah hm;refine uK [4,3] [24] [vB z23] [eB rk (e7 (gi l_ v10)),eI dJ l_ a7] ?_ ?_;replace hm:=hz;refine dH ?_;obtain⟨cI,nT,lA,wy,hm⟩:=iD hm;refine uB 4 [4] [18] [vB lA] [kE 0 5,kc (a8H _ _ nT)] ?_ (he:=by subst wy;kernel_rfl);cases lA
 case true=>
  replace hm:=bT rfl hm;intro _ _ DU hS;refine ue 18 [19,0,3,8,9,10,18] (fS [19,0,3,8,9,10,18] [undef,vL a7 l_,vI v10,vL a7 l_,vI (ln l_),vI v10,vT]) DU rfl rfl rfl rfl rfl rfl λ_ ll=>?_;refine ue 18 [20,0,8,9,10,18,19] (fS [20,0,8,9,10,18,19] [undef,vL a7 l_,vL a7 l_,vI (ln l_),vI v10,vT,undef]) ll rfl rfl rfl rfl rfl rfl λ_ G7=>?_;refine ue 18 [21,0,8,9,10,18] (fS [21,0,8,9,10,18] [undef,vL a7 l_,vL a7 l_,vI (ln l_),vI v10,vT]) G7 rfl rfl rfl rfl rfl rfl λ_ AY=>?_;refine ue 18 [22,0,8,9,10,18] (fS [22,0,8,9,10,18] [undef,vL a7 l_,vL a7 l_,vI (ln l_),vI v10,vT]) AY rfl rfl rfl rfl rfl rfl λ_ yE=>?_;refine ue 18 [23,0,8,9,10,18] (fS [23,0,8,9,10,18] [undef,vL a7 l_,vL a7 l_,vI (ln l_),vI v10,vT]) yE rfl rfl rfl rfl rfl rfl λ_ k7=>?_;refine aN k7 hS (fQ 10 [0,8,9,10,24] [vL a7 l_,vL a7 l_,vI (ln l_),vI v10,vT] [] (aC ?_));cases hm;exact te
 replace hm:=bF rfl hm;intro _ _ DU hS;refine Yy 4 6 [] [(0,0),(8,0),(9,0),(10,0),(18,0),(19,1),(20,1)] (fS [0,8,9,10,18,19,20] [vL a7 l_,vL a7 l_,vI (ln l_),vI v10,vF,vL a7 l_,vI v10]) [] DU (by decide) (by kernel_rfl) trivial λ_ _ we hb=>?_;replace hS:=hS.below hb;obtain⟨wF,q38,a0I,hm⟩:=cx hm;have hd:=hS.hand [1] [0,1] rfl rfl;refine YB 18 [21,0,8,9,10,18] (fS [0,8,9,10,18] [vL a7 l_,vL a7 l_,vI (ln l_),vI v10,vF]) we rfl rfl rfl rfl (tf (T:=dJ) (E:=161) (g:=a7) (q:=l_) v10 (ln l_) (.some (vI v10)) .none we hd (hd.im 0 rfl) rfl rfl rfl rfl rfl rfl (.inr ⟨_,rfl⟩) (.inl ⟨rfl,rfl⟩) (by kernel_rfl) (by kernel_rfl) wF) (λ_=>rfl) λ_ _ v Bm hq=>?_;obtain⟨lT,rfl,hq⟩:=hq;rw[←a0I]at hq;rw[←a0I]at Bm;replace hS:=hS.join [1] [0,1] rfl rfl hq;obtain⟨nx,Jm,hm⟩:=ah hm;refine aN Bm hS (fQ 10 [0,8,9,10,24] [vL a7 l_,vL a7 l_,vI (ln l_),vI v10,vB (nx==0)] [fw (gF false) λ_ hS hg=>a8Q (a7:=lT) m _ _ Jm _ (aK bc (hS.im 0 rfl))] (aC (aB [1,2] ?_)));cases hm;refine aB [1,0] ?_;exact te;refine aB [1] ?_;refine uC hm ?_ ?_;intro hm;cases hm;have hm:=sC;cases hm;exact uZ [] [];intro hm;exact aq (fK [] hm);intro hm;refine bn ?_;cases hm;exact λ_ _ oE hS=>⟨_,rfl,aw.aQ (ks:=[]) oE (by kernel_rfl),hS⟩;rintro _ _ ⟨oK,hz,H,hS⟩;subst hz;replace hm:=dW sC;replace hS:SH M _ w [] _:=hS.aV [] rfl;refine aN H hS ?_;cases hm;exact uZ [] []

def iv(v_:ax)(cy:Int):Bool:=v_.aX.an==cy
theorem DV{gD:Gh}(v_:ax)(cy:Int)(w)(hL:Rd [eI aa v_.ae gD] w):Rb 142 [.agg ⟨e3 v_ (gL [gD])⟩,vU cy] (vB (iv v_ cy)) w:=by
 generalize hm:iv v_ cy=r;rw[iv]at hm;refine cu hL (call142 _) func142 ntmps142 λM X w=>(aM ?_);refine uM [] [0] [0] (oB (e3 v_ (gL [gD])) rfl) λb1=>?_;refine uP 2 [] (aC ?_);refine uR [1,2] [4] [vB (v_.aX.an==cy)] [kb 0 0] (aB [] (aR ?_));subst hm;exact bj [] bp

def NX(eC:(List ax)→Option Bool):Prop:=∀(al:Gh)(M:Av)(v_:List ax)(r:Bool),eC v_=some r→∀w,S0 M [eI aa v_ al] w→Calls prog 139 ⟨[vL al v_]⟩ w (λe w'=>∃v,e=.returned v∧v=vB r∧SH M (ay [eI aa v_ al]) w [] w')
def NY(m:Nat)(pL:(List ax)→Option Bool)(x_:ax):Option Bool:=lt (cond (iv x_ 20) true (iv x_ 22)) λx6=>Option.bind (cond (cond x6 true (iv x_ 24)) (some default) (pL x_.ae)) λy7=>lt (cond (cond x6 true (iv x_ 24)) true y7) λx8=>some x8
theorem a8S{dM:Gh}(m)(pL)(K4:NX pL)(x_)(r)(hm:NY m pL x_=some r)(w)(hL:Rd [eI aa x_.ae dM] w):Rb 192 [.agg ⟨e3 x_ (gL [dM])⟩] (vB r) w:=by
 rw[NY]at hm;refine cu hL (call192 _) func192 ntmps192 λM X w=>(aM ?_);refine uM [] [0] [0] (oB (e3 x_ (gL [dM])) rfl) λb1=>?_;refine uP 2 [] (aC ?_);obtain⟨x6,om,y7,qS,hm⟩:=rZ hm;obtain⟨x8,r8,hm⟩:=bl hm;refine uR [1] [2] [vB x8] [kE 0 6,⟨some (vB (iv x_ 20)),rB 142 [.agg ⟨e3 x_ (gL [dM])⟩,vU 20] (vB (iv x_ 20)),λ_ hS=>DV (gD:=dM) x_ 20 _ (aK bc (hS.im 1 rfl))⟩,⟨some (.agg ⟨e3 x_ (gL [dM])⟩),λwz=>iv x_ 20=false∧True→V.bZ b1 0 (e3 x_ (gL [dM])) 0 wz,λ_ hS=>λhg=>(hS.bk 0 rfl).eU rfl⟩,⟨some (vB (iv x_ 22)),λwz=>iv x_ 20=false∧True→kD prog 142 ⟨[.agg ⟨e3 x_ (gL [dM])⟩,vU 22]⟩ (vB (iv x_ 22)) wz,λ_ hS=>λhg=>DV (gD:=dM) x_ 22 _ (aK bc (hS.im 1 rfl))⟩,⟨some (.agg ⟨e3 x_ (gL [dM])⟩),λwz=>x6=false∧True→V.bZ b1 0 (e3 x_ (gL [dM])) 0 wz,λ_ hS=>λhg=>(hS.bk 0 rfl).eU rfl⟩,⟨some (vB (iv x_ 24)),λwz=>x6=false∧True→kD prog 142 ⟨[.agg ⟨e3 x_ (gL [dM])⟩,vU 24]⟩ (vB (iv x_ 24)) wz,λ_ hS=>λhg=>DV (gD:=dM) x_ 24 _ (aK bc (hS.im 1 rfl))⟩,bP (gF (cond x6 true (iv x_ 24))) 0 5,fw (gF (cond x6 true (iv x_ 24))) λ_ hS hg=>ik (aK bc (hS.im 1 rfl)) (call139 _) (λw' h'=>K4 dM F0 _ _ (bF (hg.1) qS) w' h')] ?_ (he:=by subst om r8;kernel_rfl);refine aB [] (aR ?_);cases hm;exact bj [] bp
def G8(m:Nat)(pL:(List ax)→Option Bool)(s:List ax):Nat→Int→Option (Sum Int Unit)
 |0,_=>none
 |kk+1,v6=>cond (decide (v6<ln s)) (aH (0≤v6∧v6<ln s)<|Option.bind (NY m pL (gi s v6)) λdA=>cond dA (some (.inl v6)) (G8 m pL s kk (J (v6+1)))) (some (.inr ()))
def NZ(m:Nat)(pL:(List ax)→Option Bool)(s:List ax):Option Int:=Option.bind (G8 m pL s m 0) λ(z3:Sum Int Unit)=>di z3 λdq=>some (-1)
theorem a8T{aZ:Gh}(m)(pL)(K4:NX pL)(s)(r)(hm:NZ m pL s=some r)(w)(hL:Rd [eI aa s aZ] w):Rb 193 [vL aZ s,.func (.func 192) ⟨[]⟩ ⟨[]⟩] (vI r) w:=by
 rw[NZ]at hm;refine cu hL (call193 _) func193 ntmps193 λM X w=>?_;refine uO [] ?_;obtain⟨z3,hz,eQ⟩:=ah hm;intro _ _ H2 hS;refine dh (λa' w'=>∃dq:Unit,z3=Sum.inr dq∧Fr 19 [] a'∧SH M X w [eI aa s aZ] w') ?_ ?_;replace hm:=hz;refine aN H2 hS (uR [] [7,8] [vI (ln s),vI 0] [] (aL ?_));refine ep [] [8] (λv6=>[vI v6]) (λ_=>[eI aa s aZ]) hm (λkk v6 hm=>?_);rw[G8]at hm;refine uA 9 (vB (decide (v6<ln s))) [] (az ?_);refine uC hm ?_ ?_;intro hm;refine aq (az (aL (uR [9] [5] [vI v6] [] ?_)));obtain⟨dn,dA,j3,hm⟩:=kL hm;refine uI [ki 0 dn,⟨some (.agg ⟨e3 (gi s v6) (aZ.s v6.toNat)⟩),λwz=>V.bZ (ab aZ.a) (ao aZ.a+v6.toNat*6) (e3 (gi s v6) (aZ.s v6.toNat)) 0 wz,λ_ hS=>(hS.im 0 rfl).eg dn 0 rfl⟩,kr λ_ hS=>a8S (dM:=aZ.s v6.toNat 0) m _ K4 _ _ j3 _ (aK bc (s7 ((hS.im 0 rfl).el dn)))] hm ?_ ?_;intro hm;cases hm;have hm:=eQ;cases hm;exact uZ [] [];intro hm;exact aq (fK [] hm);intro hm;refine bn ?_;cases hm;exact λ_ _ H8 hS=>⟨_,rfl,aw.aQ (ks:=[]) H8 (by kernel_rfl),hS⟩;rintro _ _ ⟨dq,hz,H,hS⟩;subst hz;replace hm:=dW eQ;replace hS:SH M _ w [] _:=hS.aV [] rfl;refine aN H hS ?_;cases hm;exact uZ [] []
def O0(m:Nat)(pL:(List ax)→Option Bool)(s:List ax):Option Bool:=Option.bind (NZ m pL s) λy3=>some (decide (0≤y3))
theorem a8U{aZ:Gh}(m)(pL)(K4:NX pL)(s)(r)(hm:O0 m pL s=some r)(w)(hL:Rd [eI aa s aZ] w):Rb 140 [vL aZ s,.func (.func 192) ⟨[]⟩ ⟨[]⟩] (vB r) w:=by
 rw[O0]at hm;refine cu hL (call140 _) func140 ntmps140 λM X w=>?_;refine uO [] ?_;obtain⟨y3,cd,hm⟩:=ah hm;refine uR [0,1] [4] [vB (decide (0≤y3))] [kr λ_ hS=>a8T (aZ:=aZ) m _ K4 _ _ cd _ (aK bc (hS.im 0 rfl))] (aB [] (aR ?_));cases hm;exact bj [] bp
def DW(m:Nat):Nat→List ax→Option Bool
 |0,_=>none
 |k+1,v_=>Option.bind (O0 m (DW m k) v_) λy3=>some y3
theorem a8V(m:Nat):∀(k:Nat),NX (DW m k):=by
 intro k
 induction k with
 |zero=>intro al M v_ r hm;exact cM hm
 |succ k ih=>
  intro al M v_ r hm w hS;rw[DW]at hm;have aJ:SH M (ay [eI aa v_ al]) w [eI aa v_ al] w:=hS;generalize hX:ay [eI aa v_ al]=X at aJ⊢;clear hS hX;have hS:=aJ;clear aJ;refine dZ func139 rfl ntmps139 rfl λ_ H=>?_;refine aN H hS (dm [0] [vL al v_] [] ?_);obtain⟨y3,cd,hm⟩:=ah hm;refine uR [0] [2] [vB y3] [kr λ_ hS=>a8U (aZ:=al) m _ ih _ _ cd _ (aK bc (hS.im 0 rfl))] (aB [] (aR ?_));cases hm;exact bj [] bp
def a0J(m:Nat)(v_:List ax):Option Bool:=DW m m v_
theorem a8W{al:Gh}(m)(v_)(r)(hm:a0J m v_=some r)(w)(hL:Rd [eI aa v_ al] w):Rb 139 [vL al v_] (vB r) w:=ik hL (call139 _) (λw' h=>a8V m m al F0 v_ r hm w' h)

def DX(v_:ax):Bool:=lt (cond (iv v_ 9) (v_.aX.cY==[33]) false) λx6=>x6
theorem a8X{gD:Gh}(v_:ax)(w)(hL:Rd [eI aa v_.ae gD] w):Rb 143 [.agg ⟨e3 v_ (gL [gD])⟩] (vB (DX v_)) w:=by
 generalize hm:DX v_=r;rw[DX]at hm;refine cu hL (call143 _) func143 ntmps143 λM X w=>(aM ?_);refine uM [] [0] [0] (oB (e3 v_ (gL [gD])) rfl) λb1=>?_;refine uP 2 [] (aC ?_);obtain⟨x6,om,hm⟩:=bl hm;refine uR [1] [2] [vB x6] [kE 0 6,⟨some (vB (iv v_ 9)),rB 142 [.agg ⟨e3 v_ (gL [gD])⟩,vU 9] (vB (iv v_ 9)),λ_ hS=>DV (gD:=gD) v_ 9 _ (aK bc (hS.im 1 rfl))⟩,bP (gT (iv v_ 9)) 0 1] ?_ (he:=by subst om;kernel_rfl);refine aB [] (aR ?_);subst hm;exact bj [] bp

def O1(x_:ax):Bool:=cond (iv x_ 17) true (DX x_)
theorem a8Y{dM:Gh}(x_:ax)(w)(hL:Rd [eI aa x_.ae dM] w):Rb 141 [.agg ⟨e3 x_ (gL [dM])⟩] (vB (O1 x_)) w:=by
 generalize hm:O1 x_=r;rw[O1]at hm;refine cu hL (call141 _) func141 ntmps141 λM X w=>(aM ?_);refine uM [] [0] [0] (oB (e3 x_ (gL [dM])) rfl) λb1=>?_;refine uP 2 [] (aC ?_);refine uR [1] [2] [vB (cond (iv x_ 17) true (DX x_))] [kE 0 6,⟨some (vB (iv x_ 17)),rB 142 [.agg ⟨e3 x_ (gL [dM])⟩,vU 17] (vB (iv x_ 17)),λ_ hS=>DV (gD:=dM) x_ 17 _ (aK bc (hS.im 1 rfl))⟩,⟨some (.agg ⟨e3 x_ (gL [dM])⟩),λwz=>iv x_ 17=false∧True→V.bZ b1 0 (e3 x_ (gL [dM])) 0 wz,λ_ hS=>λhg=>(hS.bk 0 rfl).eU rfl⟩,⟨some (vB (DX x_)),λwz=>iv x_ 17=false∧True→kD prog 143 ⟨[.agg ⟨e3 x_ (gL [dM])⟩]⟩ (vB (DX x_)) wz,λ_ hS=>λhg=>a8X (gD:=dM) x_ _ (aK bc (hS.im 1 rfl))⟩] (aB [] (aR ?_));subst hm;exact bj [] bp

def G9(m:Nat)(s:List ax):Nat→Int→Option (Sum Int Unit)
 |0,_=>none
 |kk+1,v6=>cond (decide (v6<ln s)) (aH (0≤v6∧v6<ln s)<|cond (O1 (gi s v6)) (some (.inl v6)) (G9 m s kk (J (v6+1)))) (some (.inr ()))
def O2(m:Nat)(s:List ax):Option Int:=Option.bind (G9 m s m 0) λ(z3:Sum Int Unit)=>di z3 λdq=>some (-1)
theorem a8Z{aZ:Gh}(m)(s)(r)(hm:O2 m s=some r)(w)(hL:Rd [eI aa s aZ] w):Rb 193 [vL aZ s,.func (.func 141) ⟨[]⟩ ⟨[]⟩] (vI r) w:=by
 rw[O2]at hm;refine cu hL (call193 _) func193 ntmps193 λM X w=>?_;refine uO [] ?_;obtain⟨z3,hz,eQ⟩:=ah hm;intro _ _ H2 hS;refine dh (λa' w'=>∃dq:Unit,z3=Sum.inr dq∧Fr 19 [] a'∧SH M X w [eI aa s aZ] w') ?_ ?_;replace hm:=hz;refine aN H2 hS (uR [] [7,8] [vI (ln s),vI 0] [] (aL ?_));refine ep [] [8] (λv6=>[vI v6]) (λ_=>[eI aa s aZ]) hm (λkk v6 hm=>?_);rw[G9]at hm;refine uA 9 (vB (decide (v6<ln s))) [] (az ?_);refine uC hm ?_ ?_;intro hm;refine aq (az (aL (uR [9] [5] [vI v6] [] ?_)));obtain⟨dn,hm⟩:=bX hm;refine uI [ki 0 dn,⟨some (.agg ⟨e3 (gi s v6) (aZ.s v6.toNat)⟩),λwz=>V.bZ (ab aZ.a) (ao aZ.a+v6.toNat*6) (e3 (gi s v6) (aZ.s v6.toNat)) 0 wz,λ_ hS=>(hS.im 0 rfl).eg dn 0 rfl⟩,kr λ_ hS=>a8Y (dM:=aZ.s v6.toNat 0) (gi s v6) _ (aK bc (s7 ((hS.im 0 rfl).el dn)))] hm ?_ ?_;intro hm;cases hm;have hm:=eQ;cases hm;exact uZ [] [];intro hm;exact aq (fK [] hm);intro hm;refine bn ?_;cases hm;exact λ_ _ H8 hS=>⟨_,rfl,aw.aQ (ks:=[]) H8 (by kernel_rfl),hS⟩;rintro _ _ ⟨dq,hz,H,hS⟩;subst hz;replace hm:=dW eQ;replace hS:SH M _ w [] _:=hS.aV [] rfl;refine aN H hS ?_;cases hm;exact uZ [] []

def K5(m:Nat)(s:List ax):Option Bool:=Option.bind (O2 m s) λy3=>some (decide (0≤y3))
theorem a90{aZ:Gh}(m)(s)(r)(hm:K5 m s=some r)(w)(hL:Rd [eI aa s aZ] w):Rb 140 [vL aZ s,.func (.func 141) ⟨[]⟩ ⟨[]⟩] (vB r) w:=by
 rw[K5]at hm;refine cu hL (call140 _) func140 ntmps140 λM X w=>?_;refine uO [] ?_;obtain⟨y3,cd,hm⟩:=ah hm;refine uR [0,1] [4] [vB (decide (0≤y3))] [kr λ_ hS=>a8Z (aZ:=aZ) m _ _ cd _ (aK bc (hS.im 0 rfl))] (aB [] (aR ?_));cases hm;exact bj [] bp

def Ga(m:Nat)(d_:cR):Option Int:=Option.bind (G5 m d_.Value) λcJ=>Option.bind (JT m d_.bm) λfU=>Option.bind (cond (cond (!fU) true (cJ.2 !=0)) (some default) (K3 m cJ.1)) λgK=>lt (cond (cond (!fU) true (cJ.2 !=0)) true (gK !=0)) λza=>Option.bind (cond za (some default) (a0J m d_.Value)) λfh=>cond (cond za true fh) (some 8) (Option.bind (K5 m d_.Value) λcP=>cond cP (some 8) (Option.bind (cond (ln d_.Value==0) (z1 d_.bm [45,45]) (some default)) λft=>aH (decide (0<ln d_.Value)=true→cond (ln d_.Value==0) (!ft) false=false→0≤(0:Int)∧(0:Int)<ln d_.Value)<|aH (iv (gi d_.Value (0:Int)) 13=false→decide (0<ln d_.Value)=true→cond (ln d_.Value==0) (!ft) false=false→0≤J (ln d_.Value-1)∧J (ln d_.Value-1)<ln d_.Value)<|lt (iv (gi d_.Value (J (ln d_.Value-1))) 13) λjy=>lt (cond (cond (ln d_.Value==0) (!ft) false) true (cond (decide (0<ln d_.Value)) (cond (iv (gi d_.Value (0:Int)) 13) true jy) false)) λGb=>cond Gb (some 8) (some 0)))
end Go.Proofs.YtlgligdlpbggaaaGreatDoor
