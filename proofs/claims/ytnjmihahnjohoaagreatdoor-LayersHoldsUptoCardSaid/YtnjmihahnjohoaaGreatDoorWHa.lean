/-
  What the Go functions compute, as Lean functions, and that a call returns just that. Printed by a program.
-/
import Derived.Test.YtnjmihahnjohoaaGreatDoorRows
import Derived.Test.YtnjmihahnjohoaaGreatDoorX
import Derived.Test.YtnjmihahnjohoaaGreatDoorQ2
set_option linter.unusedVariables false
set_option maxRecDepth 20000
set_option maxHeartbeats 4000000
namespace Go.Proofs.YtnjmihahnjohoaaGreatDoor
open Go.V Go.RowKit Go.Proofs.Tryz

abbrev tC(k:Int)(w:ag)(n:Int):List Value:=[.int .u8 k,.string ⟨⟨w⟩⟩,.int .i64 n,.int .u8 0,.int .u8 0,.int .u8 0,.int .u8 0]
abbrev Rd(L:List aU)(w:World):Prop:=S0 F0 L w∧aH L=[]
abbrev Rb(f:FuncId)(l:List Value)(v:Value)(w:World):Prop:=jn prog f ⟨l⟩ v w
abbrev Rt(f:FuncId)(l:List Value)(v:Value):Prop:=yR prog f ⟨l⟩ v
abbrev Dm{γ:Type}(f:FuncId)(l:List Value)(L:List aU)(F:γ→Value)(E:γ→List aU):Prop:=MY prog f ⟨l⟩ L F E
abbrev vS(l:ag):Value:=.string ⟨⟨l⟩⟩
abbrev vN:Value:=.string ⟨⟨[]⟩⟩
abbrev vI(n:Int):Value:=.int .i64 n
abbrev vU(n:Int):Value:=.int .u8 n
abbrev vT:Value:=.bool true
abbrev vF:Value:=.bool false
abbrev vP(b:Nat):Value:=.pointer (some ⟨b,0,none⟩)
abbrev vA(b o:Nat):Value:=.pointer (some ⟨b,o,none⟩)
abbrev vQ:Value:=.pointer none
abbrev vO:Value:=.slice none 0 0
abbrev vB(b:Bool):Value:=.bool b
abbrev vG(l:List Value):Value:=.agg ⟨l⟩
abbrev vW(l:List Value):Value:=.tuple ⟨l⟩
abbrev vJ(n:Int):Value:=.int .i32 n
abbrev vL{α:Type}(g:Gh)(l:List α):Value:=.slice g.a l.length g.c
abbrev eO{α:Type}(E:TypeId)(T:Ty α)(l:List α)(g:Gh):aU:=.own E T l g
abbrev eI{α:Type}(T:Ty α)(l:List α)(g:Gh):aU:=.im T l g
abbrev eB(b:Nat)(cs:List Value):aU:=.lm b cs
abbrev zN:List Value:=[vN,vI 0,vN,vQ,vO]
def fS:List Nat→List Value→SF
 |k::ks,v::vs=>(k,[],v)::fS ks vs
 |_,_=>[]
abbrev vK(g:Gh)(n:Nat):Value:=.slice g.a n g.c
abbrev fw:List ag:=[[97,117,116,111]]
abbrev nw:List Int:=[2,3,4]
abbrev zl:List Int:=[2,3,4,0]
abbrev zm:List ag:=[[116,111,112],[114,105,103,104,116],[98,111,116,116,111,109],[108,101,102,116]]
abbrev zn:List Int:=[0,0,1]
abbrev IB:List ag:=[[98,108,111,99,107],[102,108,101,120],[105,110,108,105,110,101],[105,110,108,105,110,101,45,98,108,111,99,107],[110,111,110,101]]
abbrev IC:List ag:=[[99,111,108,108,97,112,115,101],[104,105,100,100,101,110],[118,105,115,105,98,108,101]]
abbrev ID:List ag:=[[110,111,114,109,97,108]]
abbrev IE:List ag:=[[99,101,110,116,101,114],[106,117,115,116,105,102,121],[108,101,102,116],[114,105,103,104,116]]
abbrev EZ:List ag:=[[112,120],[101,109],[114,101,109]]
abbrev IF:List Int:=[239,191,189]
abbrev Rm:List Int:=[15,15]
abbrev Rn:List ag:=[[98,108,97,99,107],[119,104,105,116,101],[114,101,100],[108,105,109,101],[98,108,117,101],[121,101,108,108,111,119],[103,114,97,121],[116,114,97,110,115,112,97,114,101,110,116]]
abbrev XY:List ag:=[[],[97,110,100],[111,114],[110,111,116],[111,110,108,121]]
abbrev XZ:List ag:=[[109,97,114,103,105,110],[98,111,114,100,101,114],[111,117,116,108,105,110,101],[98,97,99,107,103,114,111,117,110,100]]
abbrev Y0:List ag:=[[105,110,105,116,105,97,108],[105,110,104,101,114,105,116],[117,110,115,101,116],[114,101,118,101,114,116]]
abbrev Y1:List ag:=[[109,97,114,103,105,110,45,116,111,112],[109,97,114,103,105,110,45,114,105,103,104,116],[109,97,114,103,105,110,45,98,111,116,116,111,109],[109,97,114,103,105,110,45,108,101,102,116]]
abbrev rB(f:FuncId)(l:List Value)(v:Value):World→Prop:=λwz=>jn prog f ⟨l⟩ v wz
abbrev rN(b o:Nat)(l:List Value):World→Prop:=λwz=>V.bn b o l 0 wz
abbrev rA(b o:Nat)(v:Value):World→Prop:=λwz=>V.cc ⟨b,o,none⟩ v wz
theorem cU{α β γ:Type}{e:α}{g:α→β}{f:α→β→γ}{r:γ}(h:lt e (λx=>lt (g x) (f x))=r):∃x,x=e∧∃y,y=g x∧f x y=r:=⟨e,rfl,_,rfl,h⟩
theorem lH{α β γ:Type}{e:α}{g:α→Option β}{f:α→β→Option γ}{r:γ}(h:lt e (λx=>(g x).bind (f x))=some r):∃x,x=e∧∃y,g x=some y∧f x y=some r:=⟨e,rfl,ai h⟩
theorem u5{α γ:Type}{e:α}{p:α→Prop}[∀x,Decidable (p x)]{f:α→Option γ}{r:γ}(h:lt e (λx=>au (p x) (f x))=some r):∃x,x=e∧p x∧f x=some r:=⟨e,rfl,bO h⟩
theorem gK{α β γ:Type}{e:Option α}{g:α→β}{f:α→β→Option γ}{r:γ}(h:e.bind (λx=>lt (g x) (f x))=some r):∃x,e=some x∧∃y,y=g x∧f x y=some r:=(ai h).imp λ_ h=>⟨h.1,bd h.2⟩
theorem kg{α β γ:Type}{e:Option α}{g:α→Option β}{f:α→β→Option γ}{r:γ}(h:e.bind (λx=>(g x).bind (f x))=some r):∃x,e=some x∧∃y,g x=some y∧f x y=some r:=(ai h).imp λ_ h=>⟨h.1,ai h.2⟩
theorem BS{α γ:Type}{e:Option α}{p:α→Prop}[∀x,Decidable (p x)]{f:α→Option γ}{r:γ}(h:e.bind (λx=>au (p x) (f x))=some r):∃x,e=some x∧p x∧f x=some r:=(ai h).imp λ_ h=>⟨h.1,bO h.2⟩
theorem bY{β γ:Type}{p:Prop}[Decidable p]{g:β}{f:β→Option γ}{r:γ}(h:au p (lt g f)=some r):p∧∃y,y=g∧f y=some r:=⟨(bO h).1,bd (bO h).2⟩
theorem fU{β γ:Type}{p:Prop}[Decidable p]{g:Option β}{f:β→Option γ}{r:γ}(h:au p (g.bind f)=some r):p∧∃y,g=some y∧f y=some r:=⟨(bO h).1,ai (bO h).2⟩
theorem km{γ:Type}{p q:Prop}[Decidable p][Decidable q]{f:Option γ}{r:γ}(h:au p (au q f)=some r):p∧q∧f=some r:=⟨(bO h).1,bO (bO h).2⟩
def Y2:List Int:=[0,1,28,2,29,14,24,3,30,22,20,15,25,17,4,8,31,27,13,23,21,19,16,7,26,12,18,6,11,5,10,9]
def Y3:List Int:=[0,1,56,2,57,49,28,3,61,58,42,50,38,29,17,4,62,47,59,36,45,43,51,22,53,39,33,30,24,18,12,5,63,55,48,27,60,41,37,16,46,35,44,21,52,32,23,11,54,26,40,15,34,20,31,10,25,14,19,9,13,8,7,6]
def BT:List Int:=[0,0,0,0,0,0,0,0,0,1,1,1,1,1,0,0,0,0,0,0,0,0,0,0,0,0,0,0,0,0,0,0,1,0,0,0,0,0,0,0,0,0,0,0,0,0,0,0,0,0,0,0,0,0,0,0,0,0,0,0,0,0,0,0,0,0,0,0,0,0,0,0,0,0,0,0,0,0,0,0,0,0,0,0,0,0,0,0,0,0,0,0,0,0,0,0,0,0,0,0,0,0,0,0,0,0,0,0,0,0,0,0,0,0,0,0,0,0,0,0,0,0,0,0,0,0,0,0,0,0,0,0,0,0,0,0,0,0,0,0,0,0,0,0,0,0,0,0,0,0,0,0,0,0,0,0,0,0,0,0,0,0,0,0,0,0,0,0,0,0,0,0,0,0,0,0,0,0,0,0,0,0,0,0,0,0,0,0,0,0,0,0,0,0,0,0,0,0,0,0,0,0,0,0,0,0,0,0,0,0,0,0,0,0,0,0,0,0,0,0,0,0,0,0,0,0,0,0,0,0,0,0,0,0,0,0,0,0,0,0,0,0,0,0,0,0,0,0,0,0,0,0,0,0,0,0]
structure sK where
  A:Int
  B:Int
instance:Inhabited sK:=⟨⟨default,default⟩⟩
def a4G:Ty sK where
  z:=2
  aT:=λx g=>[vI x.A,vI x.B]
  cx:=λ_ _ _ _=>True
  len:=λ_ _=>rfl
  one:=λ_ _=>rfl
  kp:=λ_ _ _=>trivial
  cT:=λ_ _=>trivial
  fresh:=λ_=>trivial
mutual
inductive bo where
  |mk (sM:Int) (aL:List dU) (dv:List Int)
inductive dU where
  |mk (Tag:ag) (aX:List dw)
inductive dw where
  |mk (a7:Int) (aO:ag) (Op:Int) (Value:ag) (lY:Bool) (dp:sK) (Of:Bool) (J:List bo)
end
def bo.sM:bo→Int
 | .mk x _ _=>x
def bo.aL:bo→List dU
 | .mk _ x _=>x
def bo.dv:bo→List Int
 | .mk _ _ x=>x
def dU.Tag:dU→ag
 | .mk x _=>x
def dU.aX:dU→List dw
 | .mk _ x=>x
def dw.a7:dw→Int
 | .mk x _ _ _ _ _ _ _=>x
def dw.aO:dw→ag
 | .mk _ x _ _ _ _ _ _=>x
def dw.Op:dw→Int
 | .mk _ _ x _ _ _ _ _=>x
def dw.Value:dw→ag
 | .mk _ _ _ x _ _ _ _=>x
def dw.lY:dw→Bool
 | .mk _ _ _ _ x _ _ _=>x
def dw.dp:dw→sK
 | .mk _ _ _ _ _ x _ _=>x
def dw.Of:dw→Bool
 | .mk _ _ _ _ _ _ x _=>x
def dw.J:dw→List bo
 | .mk _ _ _ _ _ _ _ x=>x
instance:Inhabited bo:=⟨.mk default default default⟩
instance:Inhabited dU:=⟨.mk default default⟩
instance:Inhabited dw:=⟨.mk default default default default default default default default⟩
def Ro(x:bo)(g:Nat→Gh):List Value:=[vU x.sM,.slice (g 0).a x.aL.length (g 0).c,.slice (g 1).a x.dv.length (g 1).c]
def e0(x:bo)(g:Nat→Gh):List Value:=Ro x g
def Y4(x:dU)(g:Nat→Gh):List Value:=[vS x.Tag,.slice (g 0).a x.aX.length (g 0).c]
def Rq(x:dw)(g:Nat→Gh):List Value:=[vU x.a7,vS x.aO,vU x.Op,vS x.Value,vB x.lY,vI x.dp.A,vI x.dp.B,vB x.Of,.slice (g 0).a x.J.length (g 0).c]
def e2(x:dw)(g:Nat→Gh):List Value:=Rq x g
mutual
inductive kn (M:Av) (w:World):bo→(Nat→Gh)→Prop
  |mk (x:bo) (g:Nat→Gh) (h0:nj 2 Y4 M w x.aL (g 0)) (h1:∀i (h:i<x.aL.length),kS M w x.aL[i] ((g 0).s i)) (h2:bC (tI .u8) M w x.dv (g 1)):kn M w x g
inductive kS (M:Av) (w:World):dU→(Nat→Gh)→Prop
  |mk (x:dU) (g:Nat→Gh) (h0:nj 9 Rq M w x.aX (g 0)) (h1:∀i (h:i<x.aX.length),kT M w x.aX[i] ((g 0).s i)):kS M w x g
inductive kT (M:Av) (w:World):dw→(Nat→Gh)→Prop
  |mk (x:dw) (g:Nat→Gh) (h0:nj 3 Ro M w x.J (g 0)) (h1:∀i (h:i<x.J.length),kn M w x.J[i] ((g 0).s i)):kT M w x g
end
theorem a4H{M:Av}{w w':World}{X:List Nat}{x:bo}{g:Nat→Gh}(h:kn M w x g)(k:Kp X w w')(hX:∀b∈X,M b):kn M w' x g:=
  kn.rec (motive_1:=λx g _=>kn M w' x g) (motive_2:=λx g _=>kS M w' x g) (motive_3:=λx g _=>kT M w' x g) (λx g h0 _ h2 dV=>.mk x g (h0.kp k hX) dV (h2.kp k hX)) (λx g h0 _ dV=>.mk x g (h0.kp k hX) dV) (λx g h0 _ dV=>.mk x g (h0.kp k hX) dV) h
theorem a4I{M:Av}{w w':World}{X:List Nat}{x:dU}{g:Nat→Gh}(h:kS M w x g)(k:Kp X w w')(hX:∀b∈X,M b):kS M w' x g:=
  kS.rec (motive_1:=λx g _=>kn M w' x g) (motive_2:=λx g _=>kS M w' x g) (motive_3:=λx g _=>kT M w' x g) (λx g h0 _ h2 dV=>.mk x g (h0.kp k hX) dV (h2.kp k hX)) (λx g h0 _ dV=>.mk x g (h0.kp k hX) dV) (λx g h0 _ dV=>.mk x g (h0.kp k hX) dV) h
theorem a4J{M:Av}{w w':World}{X:List Nat}{x:dw}{g:Nat→Gh}(h:kT M w x g)(k:Kp X w w')(hX:∀b∈X,M b):kT M w' x g:=
  kT.rec (motive_1:=λx g _=>kn M w' x g) (motive_2:=λx g _=>kS M w' x g) (motive_3:=λx g _=>kT M w' x g) (λx g h0 _ h2 dV=>.mk x g (h0.kp k hX) dV (h2.kp k hX)) (λx g h0 _ dV=>.mk x g (h0.kp k hX) dV) (λx g h0 _ dV=>.mk x g (h0.kp k hX) dV) h
theorem a4K{M M':Av}{w:World}{x:bo}{g:Nat→Gh}(h:kn M w x g)(hM:∀b,M' b→M b):kn M' w x g:=
  kn.rec (motive_1:=λx g _=>kn M' w x g) (motive_2:=λx g _=>kS M' w x g) (motive_3:=λx g _=>kT M' w x g) (λx g h0 _ h2 dV=>.mk x g (h0.cT hM) dV (h2.cT hM)) (λx g h0 _ dV=>.mk x g (h0.cT hM) dV) (λx g h0 _ dV=>.mk x g (h0.cT hM) dV) h
theorem a4L{M M':Av}{w:World}{x:dU}{g:Nat→Gh}(h:kS M w x g)(hM:∀b,M' b→M b):kS M' w x g:=
  kS.rec (motive_1:=λx g _=>kn M' w x g) (motive_2:=λx g _=>kS M' w x g) (motive_3:=λx g _=>kT M' w x g) (λx g h0 _ h2 dV=>.mk x g (h0.cT hM) dV (h2.cT hM)) (λx g h0 _ dV=>.mk x g (h0.cT hM) dV) (λx g h0 _ dV=>.mk x g (h0.cT hM) dV) h
theorem a4M{M M':Av}{w:World}{x:dw}{g:Nat→Gh}(h:kT M w x g)(hM:∀b,M' b→M b):kT M' w x g:=
  kT.rec (motive_1:=λx g _=>kn M' w x g) (motive_2:=λx g _=>kS M' w x g) (motive_3:=λx g _=>kT M' w x g) (λx g h0 _ h2 dV=>.mk x g (h0.cT hM) dV (h2.cT hM)) (λx g h0 _ dV=>.mk x g (h0.cT hM) dV) (λx g h0 _ dV=>.mk x g (h0.cT hM) dV) h
theorem a4N{M:Av}{w:World}{x:bo}{g:Nat→Gh}(h:kn M w x g):kn (λb=>M b∨w.heap.size≤b) w x g:=
  kn.rec (motive_1:=λx g _=>kn (λb=>M b∨w.heap.size≤b) w x g) (motive_2:=λx g _=>kS (λb=>M b∨w.heap.size≤b) w x g) (motive_3:=λx g _=>kT (λb=>M b∨w.heap.size≤b) w x g) (λx g h0 _ h2 dV=>.mk x g h0.fresh dV h2.fresh) (λx g h0 _ dV=>.mk x g h0.fresh dV) (λx g h0 _ dV=>.mk x g h0.fresh dV) h
theorem a4O{M:Av}{w:World}{x:dU}{g:Nat→Gh}(h:kS M w x g):kS (λb=>M b∨w.heap.size≤b) w x g:=
  kS.rec (motive_1:=λx g _=>kn (λb=>M b∨w.heap.size≤b) w x g) (motive_2:=λx g _=>kS (λb=>M b∨w.heap.size≤b) w x g) (motive_3:=λx g _=>kT (λb=>M b∨w.heap.size≤b) w x g) (λx g h0 _ h2 dV=>.mk x g h0.fresh dV h2.fresh) (λx g h0 _ dV=>.mk x g h0.fresh dV) (λx g h0 _ dV=>.mk x g h0.fresh dV) h
theorem a4P{M:Av}{w:World}{x:dw}{g:Nat→Gh}(h:kT M w x g):kT (λb=>M b∨w.heap.size≤b) w x g:=
  kT.rec (motive_1:=λx g _=>kn (λb=>M b∨w.heap.size≤b) w x g) (motive_2:=λx g _=>kS (λb=>M b∨w.heap.size≤b) w x g) (motive_3:=λx g _=>kT (λb=>M b∨w.heap.size≤b) w x g) (λx g h0 _ h2 dV=>.mk x g h0.fresh dV h2.fresh) (λx g h0 _ dV=>.mk x g h0.fresh dV) (λx g h0 _ dV=>.mk x g h0.fresh dV) h
def bx:Ty bo where
  z:=3
  aT:=Ro
  cx:=kn
  len:=λ_ _=>rfl
  one:=λ_ _=>rfl
  kp:=λh k hX=>a4H h k hX
  cT:=λh hM=>a4K h hM
  fresh:=λh=>a4N h
def jI:Ty dU where
  z:=2
  aT:=Y4
  cx:=kS
  len:=λ_ _=>rfl
  one:=λ_ _=>rfl
  kp:=λh k hX=>a4I h k hX
  cT:=λh hM=>a4L h hM
  fresh:=λh=>a4O h
def rM:Ty dw where
  z:=9
  aT:=Rq
  cx:=kT
  len:=λ_ _=>rfl
  one:=λ_ _=>rfl
  kp:=λh k hX=>a4J h k hX
  cT:=λh hM=>a4M h hM
  fresh:=λh=>a4P h
theorem fM{M:Av}{w:World}{x:bo}{g:Nat→Gh}(h:bx.cx M w x g):bC jI M w x.aL (g 0):=by
  have h:kn M w x g:=h;cases h with
  |mk _ _ h0 h1 h2=>exact⟨h0,h1⟩
theorem N2{M:Av}{w:World}{x:bo}{g:Nat→Gh}(h:bx.cx M w x g):bC (tI .u8) M w x.dv (g 1):=by
  have h:kn M w x g:=h;cases h with
  |mk _ _ h0 h1 h2=>exact h2
theorem a4Q{M:Av}{w:World}{x:bo}{g:Nat→Gh}(k0:bC jI M w x.aL (g 0))(k1:bC (tI .u8) M w x.dv (g 1)):bx.cx M w x g:=(kn.mk x g k0.1 k0.2 k1:kn M w x g)
theorem jr{M:Av}{w:World}{x:dU}{g:Nat→Gh}(h:jI.cx M w x g):bC rM M w x.aX (g 0):=by
  have h:kS M w x g:=h;cases h with
  |mk _ _ h0 h1=>exact⟨h0,h1⟩
theorem a4R{M:Av}{w:World}{x:dU}{g:Nat→Gh}(k0:bC rM M w x.aX (g 0)):jI.cx M w x g:=(kS.mk x g k0.1 k0.2:kS M w x g)
theorem zo{M:Av}{w:World}{x:dw}{g:Nat→Gh}(h:rM.cx M w x g):bC bx M w x.J (g 0):=by
  have h:kT M w x g:=h;cases h with
  |mk _ _ h0 h1=>exact⟨h0,h1⟩
theorem a4S{M:Av}{w:World}{x:dw}{g:Nat→Gh}(k0:bC bx M w x.J (g 0)):rM.cx M w x g:=(kT.mk x g k0.1 k0.2:kT M w x g)
structure bW where
  a7:Int
  bU:ag
  bj:Int
  Unit:ag
  eU:Bool
instance:Inhabited bW:=⟨⟨default,default,default,default,default⟩⟩
def fy:Ty bW where
  z:=5
  aT:=λx g=>[vU x.a7,vS x.bU,vI x.bj,vS x.Unit,vB x.eU]
  cx:=λ_ _ _ _=>True
  len:=λ_ _=>rfl
  one:=λ_ _=>rfl
  kp:=λ_ _ _=>trivial
  cT:=λ_ _=>trivial
  fresh:=λ_=>trivial
def e7(x:bW):List Value:=fy.aT x (gL [])
inductive aj where
  |mk (ay:bW) (J:List aj)
def aj.ay:aj→bW
 | .mk x _=>x
def aj.J:aj→List aj
 | .mk _ x=>x
instance:Inhabited aj:=⟨.mk default default⟩
def Rr(x:aj)(g:Nat→Gh):List Value:=[vU x.ay.a7,vS x.ay.bU,vI x.ay.bj,vS x.ay.Unit,vB x.ay.eU,.slice (g 0).a x.J.length (g 0).c]
def e3(x:aj)(g:Nat→Gh):List Value:=Rr x g
inductive sN (M:Av) (w:World):aj→(Nat→Gh)→Prop
  |mk (x:aj) (g:Nat→Gh) (h0:nj 6 Rr M w x.J (g 0)) (h1:∀i (h:i<x.J.length),sN M w x.J[i] ((g 0).s i)):sN M w x g
theorem a4T{M:Av}{w w':World}{X:List Nat}{x:aj}{g:Nat→Gh}(h:sN M w x g)(k:Kp X w w')(hX:∀b∈X,M b):sN M w' x g:=by
  induction h with
  |mk x g h0 _h1 dV=>exact .mk x g (h0.kp k hX) dV
theorem a4U{M M':Av}{w:World}{x:aj}{g:Nat→Gh}(h:sN M w x g)(hM:∀b,M' b→M b):sN M' w x g:=by
  induction h with
  |mk x g h0 _h1 dV=>exact .mk x g (h0.cT hM) dV
theorem a4V{M:Av}{w:World}{x:aj}{g:Nat→Gh}(h:sN M w x g):sN (λb=>M b∨w.heap.size≤b) w x g:=by
  induction h with
  |mk x g h0 _h1 dV=>exact .mk x g h0.fresh dV
def ae:Ty aj where
  z:=6
  aT:=Rr
  cx:=sN
  len:=λ_ _=>rfl
  one:=λ_ _=>rfl
  kp:=λh k hX=>a4T h k hX
  cT:=λh hM=>a4U h hM
  fresh:=λh=>a4V h
theorem lZ{M:Av}{w:World}{x:aj}{g:Nat→Gh}(h:ae.cx M w x g):bC ae M w x.J (g 0):=by
  have h:sN M w x g:=h;cases h with
  |mk _ _ h0 h1=>exact⟨h0,h1⟩
theorem IG{M:Av}{w:World}{x:aj}{g:Nat→Gh}(k0:bC ae M w x.J (g 0)):ae.cx M w x g:=(sN.mk x g k0.1 k0.2:sN M w x g)
structure cy where
  aO:ag
  Value:List aj
  js:Bool
instance:Inhabited cy:=⟨⟨default,default,default⟩⟩
def dk:Ty cy where
  z:=3
  aT:=λx g=>[vS x.aO,.slice (g 0).a x.Value.length (g 0).c,vB x.js]
  cx:=λM w x g=>bC ae M w x.Value (g 0)∧True
  len:=λ_ _=>rfl
  one:=λ_ _=>rfl
  kp:=λh k hX=>⟨h.1.kp k hX,trivial⟩
  cT:=λh hM=>⟨h.1.cT hM,trivial⟩
  fresh:=λh=>⟨h.1.fresh,trivial⟩
def e8(x:cy)(g:Nat→Gh):List Value:=dk.aT x g
theorem xw{M:Av}{w:World}{x:cy}{g:Nat→Gh}(h:dk.cx M w x g):bC ae M w x.Value (g 0):=(show bC ae M w x.Value (g 0)∧True from h).1
theorem N3{M:Av}{w:World}{x:cy}{g:Nat→Gh}(h0:bC ae M w x.Value (g 0)):dk.cx M w x g:=show bC ae M w x.Value (g 0)∧True from⟨h0,trivial⟩
inductive aP where
  |mk (a7:Int) (aO:ag) (bj:Int) (aA:cy) (J:List aP)
def aP.a7:aP→Int
 | .mk x _ _ _ _=>x
def aP.aO:aP→ag
 | .mk _ x _ _ _=>x
def aP.bj:aP→Int
 | .mk _ _ x _ _=>x
def aP.aA:aP→cy
 | .mk _ _ _ x _=>x
def aP.J:aP→List aP
 | .mk _ _ _ _ x=>x
instance:Inhabited aP:=⟨.mk default default default default default⟩
def Ru(x:aP)(g:Nat→Gh):List Value:=[vU x.a7,vS x.aO,vI x.bj,vS x.aA.aO,.slice (g 0).a x.aA.Value.length (g 0).c,vB x.aA.js,.slice (g 1).a x.J.length (g 1).c]
def e4(x:aP)(g:Nat→Gh):List Value:=Ru x g
inductive rO (M:Av) (w:World):aP→(Nat→Gh)→Prop
  |mk (x:aP) (g:Nat→Gh) (h0:bC ae M w x.aA.Value (g 0)) (h1:nj 7 Ru M w x.J (g 1)) (h2:∀i (h:i<x.J.length),rO M w x.J[i] ((g 1).s i)):rO M w x g
theorem a4W{M:Av}{w w':World}{X:List Nat}{x:aP}{g:Nat→Gh}(h:rO M w x g)(k:Kp X w w')(hX:∀b∈X,M b):rO M w' x g:=by
  induction h with
  |mk x g h0 h1 _h2 oH=>exact .mk x g (h0.kp k hX) (h1.kp k hX) oH
theorem a4X{M M':Av}{w:World}{x:aP}{g:Nat→Gh}(h:rO M w x g)(hM:∀b,M' b→M b):rO M' w x g:=by
  induction h with
  |mk x g h0 h1 _h2 oH=>exact .mk x g (h0.cT hM) (h1.cT hM) oH
theorem a4Y{M:Av}{w:World}{x:aP}{g:Nat→Gh}(h:rO M w x g):rO (λb=>M b∨w.heap.size≤b) w x g:=by
  induction h with
  |mk x g h0 h1 _h2 oH=>exact .mk x g h0.fresh h1.fresh oH
def aZ:Ty aP where
  z:=7
  aT:=Ru
  cx:=rO
  len:=λ_ _=>rfl
  one:=λ_ _=>rfl
  kp:=λh k hX=>a4W h k hX
  cT:=λh hM=>a4X h hM
  fresh:=λh=>a4Y h
theorem jJ{M:Av}{w:World}{x:aP}{g:Nat→Gh}(h:aZ.cx M w x g):bC ae M w x.aA.Value (g 0):=by
  have h:rO M w x g:=h;cases h with
  |mk _ _ h0 h1 h2=>exact h0
theorem j5{M:Av}{w:World}{x:aP}{g:Nat→Gh}(h:aZ.cx M w x g):bC aZ M w x.J (g 1):=by
  have h:rO M w x g:=h;cases h with
  |mk _ _ h0 h1 h2=>exact⟨h1,h2⟩
theorem a4Z{M:Av}{w:World}{x:aP}{g:Nat→Gh}(k0:bC ae M w x.aA.Value (g 0))(k1:bC aZ M w x.J (g 1)):aZ.cx M w x g:=(rO.mk x g k0 k1.1 k1.2:rO M w x g)
inductive bJ where
  |mk (a7:Int) (cK:List bo) (bE:List cy) (aM:aP) (bX:List (List ag)) (bh:List bJ)
def bJ.a7:bJ→Int
 | .mk x _ _ _ _ _=>x
def bJ.cK:bJ→List bo
 | .mk _ x _ _ _ _=>x
def bJ.bE:bJ→List cy
 | .mk _ _ x _ _ _=>x
def bJ.aM:bJ→aP
 | .mk _ _ _ x _ _=>x
def bJ.bX:bJ→List (List ag)
 | .mk _ _ _ _ x _=>x
def bJ.bh:bJ→List bJ
 | .mk _ _ _ _ _ x=>x
instance:Inhabited bJ:=⟨.mk default default default default default default⟩
def Rv(x:bJ)(g:Nat→Gh):List Value:=[vU x.a7,.slice (g 0).a x.cK.length (g 0).c,.slice (g 1).a x.bE.length (g 1).c,vU x.aM.a7,vS x.aM.aO,vI x.aM.bj,vS x.aM.aA.aO,.slice (g 2).a x.aM.aA.Value.length (g 2).c,vB x.aM.aA.js,.slice (g 3).a x.aM.J.length (g 3).c,.slice (g 4).a x.bX.length (g 4).c,.slice (g 5).a x.bh.length (g 5).c]
def e5(x:bJ)(g:Nat→Gh):List Value:=Rv x g
inductive oI (M:Av) (w:World):bJ→(Nat→Gh)→Prop
  |mk (x:bJ) (g:Nat→Gh) (h0:bC bx M w x.cK (g 0)) (h1:bC dk M w x.bE (g 1)) (h2:bC ae M w x.aM.aA.Value (g 2)) (h3:bC aZ M w x.aM.J (g 3)) (h4:bC (Ty.sl tS) M w x.bX (g 4)) (h5:nj 12 Rv M w x.bh (g 5)) (h6:∀i (h:i<x.bh.length),oI M w x.bh[i] ((g 5).s i)):oI M w x g
theorem a50{M:Av}{w w':World}{X:List Nat}{x:bJ}{g:Nat→Gh}(h:oI M w x g)(k:Kp X w w')(hX:∀b∈X,M b):oI M w' x g:=by
  induction h with
  |mk x g h0 h1 h2 h3 h4 h5 _h6 IH=>exact .mk x g (h0.kp k hX) (h1.kp k hX) (h2.kp k hX) (h3.kp k hX) (h4.kp k hX) (h5.kp k hX) IH
theorem a52{M M':Av}{w:World}{x:bJ}{g:Nat→Gh}(h:oI M w x g)(hM:∀b,M' b→M b):oI M' w x g:=by
  induction h with
  |mk x g h0 h1 h2 h3 h4 h5 _h6 IH=>exact .mk x g (h0.cT hM) (h1.cT hM) (h2.cT hM) (h3.cT hM) (h4.cT hM) (h5.cT hM) IH
theorem a54{M:Av}{w:World}{x:bJ}{g:Nat→Gh}(h:oI M w x g):oI (λb=>M b∨w.heap.size≤b) w x g:=by
  induction h with
  |mk x g h0 h1 h2 h3 h4 h5 _h6 IH=>exact .mk x g h0.fresh h1.fresh h2.fresh h3.fresh h4.fresh h5.fresh IH
def cb:Ty bJ where
  z:=12
  aT:=Rv
  cx:=oI
  len:=λ_ _=>rfl
  one:=λ_ _=>rfl
  kp:=λh k hX=>a50 h k hX
  cT:=λh hM=>a52 h hM
  fresh:=λh=>a54 h
theorem zp{M:Av}{w:World}{x:bJ}{g:Nat→Gh}(h:cb.cx M w x g):bC bx M w x.cK (g 0):=by
  have h:oI M w x g:=h;cases h with
  |mk _ _ h0 h1 h2 h3 h4 h5 h6=>exact h0
theorem sO{M:Av}{w:World}{x:bJ}{g:Nat→Gh}(h:cb.cx M w x g):bC dk M w x.bE (g 1):=by
  have h:oI M w x g:=h;cases h with
  |mk _ _ h0 h1 h2 h3 h4 h5 h6=>exact h1
theorem sP{M:Av}{w:World}{x:bJ}{g:Nat→Gh}(h:cb.cx M w x g):bC ae M w x.aM.aA.Value (g 2):=by
  have h:oI M w x g:=h;cases h with
  |mk _ _ h0 h1 h2 h3 h4 h5 h6=>exact h2
theorem sQ{M:Av}{w:World}{x:bJ}{g:Nat→Gh}(h:cb.cx M w x g):bC aZ M w x.aM.J (g 3):=by
  have h:oI M w x g:=h;cases h with
  |mk _ _ h0 h1 h2 h3 h4 h5 h6=>exact h3
theorem BU{M:Av}{w:World}{x:bJ}{g:Nat→Gh}(h:cb.cx M w x g):bC (Ty.sl tS) M w x.bX (g 4):=by
  have h:oI M w x g:=h;cases h with
  |mk _ _ h0 h1 h2 h3 h4 h5 h6=>exact h4
theorem zq{M:Av}{w:World}{x:bJ}{g:Nat→Gh}(h:cb.cx M w x g):bC cb M w x.bh (g 5):=by
  have h:oI M w x g:=h;cases h with
  |mk _ _ h0 h1 h2 h3 h4 h5 h6=>exact⟨h5,h6⟩
theorem N4{M:Av}{w:World}{x:bJ}{g:Nat→Gh}(k0:bC bx M w x.cK (g 0))(k1:bC dk M w x.bE (g 1))(k2:bC ae M w x.aM.aA.Value (g 2))(k3:bC aZ M w x.aM.J (g 3))(k4:bC (Ty.sl tS) M w x.bX (g 4))(k5:bC cb M w x.bh (g 5)):cb.cx M w x g:=(oI.mk x g k0 k1 k2 k3 k4 k5.1 k5.2:oI M w x g)
structure qU where
  bh:List bJ
instance:Inhabited qU:=⟨⟨default⟩⟩
def Rx:Ty qU where
  z:=1
  aT:=λx g=>[.slice (g 0).a x.bh.length (g 0).c]
  cx:=λM w x g=>bC cb M w x.bh (g 0)∧True
  len:=λ_ _=>rfl
  one:=λ_ _=>rfl
  kp:=λh k hX=>⟨h.1.kp k hX,trivial⟩
  cT:=λh hM=>⟨h.1.cT hM,trivial⟩
  fresh:=λh=>⟨h.1.fresh,trivial⟩
theorem a55{M:Av}{w:World}{x:qU}{g:Nat→Gh}(h:Rx.cx M w x g):bC cb M w x.bh (g 0):=(show bC cb M w x.bh (g 0)∧True from h).1
theorem a56{M:Av}{w:World}{x:qU}{g:Nat→Gh}(h0:bC cb M w x.bh (g 0)):Rx.cx M w x g:=show bC cb M w x.bh (g 0)∧True from⟨h0,trivial⟩
structure jV where
  mH:Int
  iq:qU
instance:Inhabited jV:=⟨⟨default,default⟩⟩
def o8:Ty jV where
  z:=2
  aT:=λx g=>[vU x.mH,.slice (g 0).a x.iq.bh.length (g 0).c]
  cx:=λM w x g=>bC cb M w x.iq.bh (g 0)∧True
  len:=λ_ _=>rfl
  one:=λ_ _=>rfl
  kp:=λh k hX=>⟨h.1.kp k hX,trivial⟩
  cT:=λh hM=>⟨h.1.cT hM,trivial⟩
  fresh:=λh=>⟨h.1.fresh,trivial⟩
theorem N5{M:Av}{w:World}{x:jV}{g:Nat→Gh}(h:o8.cx M w x g):bC cb M w x.iq.bh (g 0):=(show bC cb M w x.iq.bh (g 0)∧True from h).1
theorem a57{M:Av}{w:World}{x:jV}{g:Nat→Gh}(h0:bC cb M w x.iq.bh (g 0)):o8.cx M w x g:=show bC cb M w x.iq.bh (g 0)∧True from⟨h0,trivial⟩
structure jK where
  cz:Int
instance:Inhabited jK:=⟨⟨default⟩⟩
def Y5:Ty jK where
  z:=1
  aT:=λx g=>[vI x.cz]
  cx:=λ_ _ _ _=>True
  len:=λ_ _=>rfl
  one:=λ_ _=>rfl
  kp:=λ_ _ _=>trivial
  cT:=λ_ _=>trivial
  fresh:=λ_=>trivial
def a58(cX:(List bo)→Int→Option Int):Prop:=∀(a6:Gh)(M:Av)(l_:List bo)(eV:Int)(r:Int),cX l_ eV=some r→∀w,S0 M [eI bx l_ a6] w→Calls prog 31 ⟨[vL a6 l_,vI eV]⟩ w (λe w'=>∃v,e=.returned v∧v=vI r∧SH M (aH [eI bx l_ a6]) w [] w')
def BV(m:Nat)(l_:List bo)(eV:Int)(v9:Int)(v21:Int)(zr:(List bo)→Int→Option Int):Nat→Int→Int→Option Int
 |0,_,_=>none
 |kk+1,jW,dm=>lt (decide (dm<ln (gi (gi l_ v9).aL v21).aX)) λkU=>cond (cond kU (decide (jW≤eV)) false) (au (0≤dm∧dm<ln (gi (gi l_ v9).aL v21).aX)<|lt (gi (gi (gi l_ v9).aL v21).aX dm).aO λkV=>lt (gi (gi (gi l_ v9).aL v21).aX dm).Value λpT=>Option.bind (zr (gi (gi (gi l_ v9).aL v21).aX dm).J (a8 (eV-jW))) λfj=>lt (a8 (a8 (a8 (1+ln kV)+ln pT)+fj)) λfC=>BV m l_ eV v9 v21 zr kk (a8 (jW+fC)) (a8 (dm+1))) (some jW)
def BW(m:Nat)(l_:List bo)(eV:Int)(v9:Int)(zr:(List bo)→Int→Option Int):Nat→Int→Int→Option Int
 |0,_,_=>none
 |kk+1,v20,v21=>lt (cond (decide (v21<ln (gi l_ v9).aL)) (decide (v20≤eV)) false) λj6=>cond j6 (Option.bind (au (0≤v21∧v21<ln (gi l_ v9).aL)<|lt (a8 (1+ln (gi (gi l_ v9).aL v21).Tag)) λgU=>BV m l_ eV v9 v21 zr m (a8 (v20+gU)) 0) λ(kq:Int)=>BW m l_ eV v9 zr kk kq (a8 (v21+1))) (some v20)
def BX(m:Nat)(l_:List bo)(eV:Int)(zr:(List bo)→Int→Option Int):Nat→Int→Int→Option Int
 |0,_,_=>none
 |kk+1,v8,v9=>lt (cond (decide (v9<ln l_)) (decide (v8≤eV)) false) λgV=>cond gV (Option.bind (au (0≤v9∧v9<ln l_)<|lt (a8 (v8+a8 (1+ln (gi l_ v9).dv))) λiK=>BW m l_ eV v9 zr m iK 0) λ(mI:Int)=>BX m l_ eV zr kk mI (a8 (v9+1))) (some v8)
def sR(m:Nat):Nat→List bo→Int→Option Int
 |0,_,_=>none
 |k+1,l_,eV=>Option.bind (BX m l_ eV (sR m k) m 0 0) λ(z5:Int)=>some z5
theorem a5a(m:Nat):∀(k:Nat),a58 (sR m k):=by
 intro k
 induction k with
 |zero=>intro a6 M l_ eV r hm;exact eJ hm
 |succ k ih=>
  intro a6 M l_ eV r hm w hS;rw[sR]at hm;have aK:SH M (aH [eI bx l_ a6]) w [eI bx l_ a6] w:=hS;generalize hX:aH [eI bx l_ a6]=X at aK⊢;clear hS hX;have hS:=aK;clear aK;refine fk func31 rfl ntmps31 rfl λ_ H=>?_;refine aQ H hS (jq [0,1] [vL a6 l_,vI eV] [] ?_);refine uA 5 (vI 0) [] ?_;obtain⟨z5,hz,hm⟩:=ai hm;refine uK [0,1] [5] [vI z5] [eI bx l_ a6] ?_ ?_;replace hm:=hz;refine uA 6 (vI 0) [] (aE ?_);refine fu [] [5,6] (λv8 v9=>[vI v8,vI v9]) (λ_ _=>[eI bx l_ a6]) hm (λkk v8 v9 hm=>?_);rw[BX]at hm;refine aq ?_;obtain⟨gV,nx,hm⟩:=bd hm;refine uI [] hm ?_ ?_ (he:=by subst nx;kernel_rfl);intro hm;refine ah ?_;obtain⟨mI,hz,hm⟩:=ai hm;refine uK [] [5] [vI mI] [eI bx l_ a6] ?_ ?_;replace hm:=hz;refine aE ?_;obtain⟨fF,iK,u6,hm⟩:=bY hm;refine uA 5 (vI iK) [ki 0 fF,kj 0 2 fF] ?_ (he:=by subst u6;kernel_rfl);refine uR [] [0,1,5,6,7] [vL a6 l_,vI eV,vI iK,vI v9,vI 0] [] (aE ?_);refine fu [] [5,7] (λv20 v21=>[vI v20,vI v21]) (λ_ _=>[eI bx l_ a6]) hm (λkk v20 v21 hm=>?_);rw[BW]at hm;refine aq ?_;obtain⟨j6,rP,hm⟩:=bd hm;refine uI [ki 0 fF,kj 0 1 fF] hm ?_ ?_ (he:=by subst rP;kernel_rfl);intro hm;refine ah ?_;obtain⟨kq,hz,hm⟩:=ai hm;refine uK [] [5] [vI kq] [eI bx l_ a6] ?_ ?_;replace hm:=hz;refine aE ?_;obtain⟨iA,gU,pU,hm⟩:=bY hm;refine uA 5 (vI (a8 (v20+gU))) [ki 0 fF,kj 0 1 fF,⟨none,λ_=>dE (a6.s v9.toNat 0).a∧0≤v21∧v21<ln (gi l_ v9).aL,λ_ hS=>(fM ((hS.im 0 rfl).el fF)).gP iA⟩,⟨some (vS (gi (gi l_ v9).aL v21).Tag),λwz=>V.cc ⟨ab (a6.s v9.toNat 0).a,ao (a6.s v9.toNat 0).a+v21.toNat*2,none⟩ (vS (gi (gi l_ v9).aL v21).Tag) wz,λ_ hS=>(fM ((hS.im 0 rfl).el fF)).cc iA 0 rfl⟩] ?_ (he:=by subst pU;kernel_rfl);refine uA 8 (.slice ((a6.s v9.toNat 0).s v21.toNat 0).a (gi (gi l_ v9).aL v21).aX.length ((a6.s v9.toNat 0).s v21.toNat 0).c) [ki 0 fF,kj 0 1 fF,⟨none,λ_=>dE (a6.s v9.toNat 0).a∧0≤v21∧v21<ln (gi l_ v9).aL,λ_ hS=>(fM ((hS.im 0 rfl).el fF)).gP iA⟩,⟨some (.slice ((a6.s v9.toNat 0).s v21.toNat 0).a (gi (gi l_ v9).aL v21).aX.length ((a6.s v9.toNat 0).s v21.toNat 0).c),λwz=>V.cc ⟨ab (a6.s v9.toNat 0).a,ao (a6.s v9.toNat 0).a+v21.toNat*2+1,none⟩ (.slice ((a6.s v9.toNat 0).s v21.toNat 0).a (gi (gi l_ v9).aL v21).aX.length ((a6.s v9.toNat 0).s v21.toNat 0).c) wz,λ_ hS=>(fM ((hS.im 0 rfl).el fF)).cc iA 1 rfl⟩] ?_;refine uA 9 (vI 0) [] (aE ?_);refine fu [] [5,9] (λjW dm=>[vI jW,vI dm]) (λ_ _=>[eI bx l_ a6]) hm (λkk jW dm hm=>?_);rw[BV]at hm;refine aq ?_;obtain⟨kU,xx,hm⟩:=bd hm;refine uI [] hm ?_ ?_ (he:=by subst xx;kernel_rfl);intro hm;refine ah (aq (aE ?_));obtain⟨xy,kV,rQ,hm⟩:=bY hm;obtain⟨pT,II,fj,xz,hm⟩:=lH hm;obtain⟨fC,pV,hm⟩:=bd hm;refine Iw [0,1,5,6,7,8,9] [vL a6 l_,vI eV,vI (a8 (jW+fC)),vI v9,vI v21,.slice ((a6.s v9.toNat 0).s v21.toNat 0).a (gi (gi l_ v9).aL v21).aX.length ((a6.s v9.toNat 0).s v21.toNat 0).c,vI dm] [⟨none,λ_=>dE ((a6.s v9.toNat 0).s v21.toNat 0).a∧0≤dm∧dm<ln (gi (gi l_ v9).aL v21).aX,λ_ hS=>(jr ((fM ((hS.im 0 rfl).el fF)).el iA)).gP xy⟩,⟨some (vS (gi (gi (gi l_ v9).aL v21).aX dm).aO),λwz=>V.cc ⟨ab ((a6.s v9.toNat 0).s v21.toNat 0).a,ao ((a6.s v9.toNat 0).s v21.toNat 0).a+dm.toNat*9+1,none⟩ (vS (gi (gi (gi l_ v9).aL v21).aX dm).aO) wz,λ_ hS=>(jr ((fM ((hS.im 0 rfl).el fF)).el iA)).cc xy 1 rfl⟩,⟨none,λ_=>dE ((a6.s v9.toNat 0).s v21.toNat 0).a∧0≤dm∧dm<ln (gi (gi l_ v9).aL v21).aX,λ_ hS=>(jr ((fM ((hS.im 0 rfl).el fF)).el iA)).gP xy⟩,⟨some (vS (gi (gi (gi l_ v9).aL v21).aX dm).Value),λwz=>V.cc ⟨ab ((a6.s v9.toNat 0).s v21.toNat 0).a,ao ((a6.s v9.toNat 0).s v21.toNat 0).a+dm.toNat*9+3,none⟩ (vS (gi (gi (gi l_ v9).aL v21).aX dm).Value) wz,λ_ hS=>(jr ((fM ((hS.im 0 rfl).el fF)).el iA)).cc xy 3 rfl⟩,⟨none,λ_=>dE ((a6.s v9.toNat 0).s v21.toNat 0).a∧0≤dm∧dm<ln (gi (gi l_ v9).aL v21).aX,λ_ hS=>(jr ((fM ((hS.im 0 rfl).el fF)).el iA)).gP xy⟩,⟨some (.slice (((a6.s v9.toNat 0).s v21.toNat 0).s dm.toNat 0).a (gi (gi (gi l_ v9).aL v21).aX dm).J.length (((a6.s v9.toNat 0).s v21.toNat 0).s dm.toNat 0).c),λwz=>V.cc ⟨ab ((a6.s v9.toNat 0).s v21.toNat 0).a,ao ((a6.s v9.toNat 0).s v21.toNat 0).a+dm.toNat*9+8,none⟩ (.slice (((a6.s v9.toNat 0).s v21.toNat 0).s dm.toNat 0).a (gi (gi (gi l_ v9).aL v21).aX dm).J.length (((a6.s v9.toNat 0).s v21.toNat 0).s dm.toNat 0).c) wz,λ_ hS=>(jr ((fM ((hS.im 0 rfl).el fF)).el iA)).cc xy 8 rfl⟩,kr λ_ hS=>dF (aw aS (zo ((jr ((fM ((hS.im 0 rfl).el fF)).el iA)).el xy))) (call31 _) (λw' h'=>ih (((a6.s v9.toNat 0).s v21.toNat 0).s dm.toNat 0) F0 _ _ _ xz w' h')] ?_ (he:=by subst rQ II pV;kernel_rfl);exact fb [] hm;intro hm;refine bt ?_;cases hm;exact te;exact fb [] hm;intro hm;refine bt ?_;cases hm;exact te;exact fb [] hm;intro hm;refine bt ?_;cases hm;exact te;refine al [] ?_;cases hm;exact uZ [] []
def Ry(m:Nat)(l_:List bo)(eV:Int):Option Int:=sR m m l_ eV
theorem a5b{a6:Gh}(m)(l_)(eV)(r)(hm:Ry m l_ eV=some r)(w)(hL:Rd [eI bx l_ a6] w):Rb 31 [vL a6 l_,vI eV] (vI r) w:=dF hL (call31 _) (λw' h=>a5a m m a6 F0 l_ eV r hm w' h)

def IJ(m:Nat)(l_:List bo):Option Bool:=Option.bind (Ry m l_ 600) λy3=>some (decide (600<y3))
theorem a5c{a6:Gh}(m)(l_)(r)(hm:IJ m l_=some r)(w)(hL:Rd [eI bx l_ a6] w):Rb 20 [vL a6 l_] (vB r) w:=by
 rw[IJ]at hm;refine c7 hL (call20 _) func20 ntmps20 λM X w=>?_;refine uO [] ?_;obtain⟨y3,cC,hm⟩:=ai hm;refine uR [0] [2] [vB (decide (600<y3))] [kr λ_ hS=>a5b (a6:=a6) m _ _ _ cC _ (aw aS (hS.im 0 rfl))] (al [] (ax ?_));cases hm;exact aI [] aR

def a5d(cX:(List aj)→Int→Option Int):Prop:=∀(aN:Gh)(M:Av)(v_:List aj)(most:Int)(r:Int),cX v_ most=some r→∀w,S0 M [eI ae v_ aN] w→Calls prog 32 ⟨[vL aN v_,vI most]⟩ w (λe w'=>∃v,e=.returned v∧v=vI r∧SH M (aH [eI ae v_ aN]) w [] w')
def IK(m:Nat)(v_:List aj)(most:Int)(Y6:(List aj)→Int→Option Int):Nat→Int→Int→Option Int
 |0,_,_=>none
 |kk+1,v8,v9=>lt (cond (decide (v9<ln v_)) (decide (v8≤most)) false) λgV=>cond gV (au (0≤v9∧v9<ln v_)<|lt (a8 (a8 (1+ln (gi v_ v9).ay.bU)+ln (gi v_ v9).ay.Unit)) λeZ=>Option.bind (Y6 (gi v_ v9).J (a8 (most-v8))) λdC=>IK m v_ most Y6 kk (a8 (v8+a8 (eZ+dC))) (a8 (v9+1))) (some v8)
def BZ(m:Nat):Nat→List aj→Int→Option Int
 |0,_,_=>none
 |k+1,v_,most=>Option.bind (IK m v_ most (BZ m k) m 0 0) λ(z5:Int)=>some z5
theorem a5e(m:Nat):∀(k:Nat),a5d (BZ m k):=by
 intro k
 induction k with
 |zero=>intro aN M v_ most r hm;exact eJ hm
 |succ k ih=>
  intro aN M v_ most r hm w hS;rw[BZ]at hm;have aK:SH M (aH [eI ae v_ aN]) w [eI ae v_ aN] w:=hS;generalize hX:aH [eI ae v_ aN]=X at aK⊢;clear hS hX;have hS:=aK;clear aK;refine fk func32 rfl ntmps32 rfl λ_ H=>?_;refine aQ H hS (jq [0,1] [vL aN v_,vI most] [] ?_);refine uA 5 (vI 0) [] ?_;obtain⟨z5,hz,hm⟩:=ai hm;refine uK [0,1] [5] [vI z5] [eI ae v_ aN] ?_ ?_;replace hm:=hz;refine uA 6 (vI 0) [] (aE ?_);refine fu [] [5,6] (λv8 v9=>[vI v8,vI v9]) (λ_ _=>[eI ae v_ aN]) hm (λkk v8 v9 hm=>?_);rw[IK]at hm;refine aq ?_;obtain⟨gV,nx,hm⟩:=bd hm;refine uI [] hm ?_ ?_ (he:=by subst nx;kernel_rfl);intro hm;refine ah (aq (aE ?_));obtain⟨cd,eZ,ma,hm⟩:=bY hm;obtain⟨dC,lI,hm⟩:=ai hm;refine Iw [0,1,5,6] [vL aN v_,vI most,vI (a8 (v8+a8 (eZ+dC))),vI v9] [ki 0 cd,kj 0 1 cd,ki 0 cd,kj 0 3 cd,ki 0 cd,kj 0 5 cd,kr λ_ hS=>dF (aw aS (lZ ((hS.im 0 rfl).el cd))) (call32 _) (λw' h'=>ih (aN.s v9.toNat 0) F0 _ _ _ lI w' h')] ?_ (he:=by subst ma;kernel_rfl);exact fb [] hm;intro hm;refine bt ?_;cases hm;exact te;refine al [] ?_;cases hm;exact uZ [] []
def Rz(m:Nat)(v_:List aj)(most:Int):Option Int:=BZ m m v_ most
theorem a5f{aN:Gh}(m)(v_)(most)(r)(hm:Rz m v_ most=some r)(w)(hL:Rd [eI ae v_ aN] w):Rb 32 [vL aN v_,vI most] (vI r) w:=dF hL (call32 _) (λw' h=>a5e m m aN F0 v_ most r hm w' h)

def lp(db:Int):Int:=cond (db==19) (20) (lt (cond (db==21) (db==21) (db==2)) λ(z9:Bool)=>cond z9 (22) (cond (db==23) (24) (0)))
theorem RA(db:Int):Rt 50 [vU db] (vU (lp db)):=by
 generalize hm:lp db=r;rw[lp]at hm;refine cA (call50 _) func50 ntmps50 λM X w=>?_;refine uO [] (aq ?_);refine uR [0] [3] [vU db] [] (aE ?_);refine uA 4 (vB (db==19)) [] ?_;refine uC hm ?_ ?_;intro hm;refine uR [3,4] [2] [vU 20] [] (ax ?_);subst hm;exact aI [] aR;intro hm;obtain⟨z9,hz,hm⟩:=bd hm;refine uK [4] [6] [vB z9] [] ?_ ?_;replace hm:=hz.symm;refine uR [4] [6] [vB (db==21)] [] ?_;refine uC hm ?_ ?_;intro hm;refine ah ?_;subst hm;exact te;intro hm;refine uV 6 (vB (db==2)) [] ?_;subst hm;exact te;refine lF (λhc=>?c24) (λhc=>?_)
 case c24=>
  replace hm:=bT hc hm;refine uR [3,6] [2] [vU 22] [] (ax ?_);subst hm;exact aI [] aR
 replace hm:=bF hc hm;refine uJ [3,6] [] hm ?_ ?_;intro hm;refine uA 2 (vU 24) [] (ax ?_);subst hm;exact aI [] aR;intro hm;refine ah (uA 2 (vU 0) [] (ax ?_));subst hm;exact aI [] aR

def a5g(cX:(List aj)→Option Int):Prop:=∀(aN:Gh)(M:Av)(v_:List aj)(r:Int),cX v_=some r→∀w,S0 M [eI ae v_ aN] w→Calls prog 33 ⟨[vL aN v_]⟩ w (λe w'=>∃v,e=.returned v∧v=vI r∧SH M (aH [eI ae v_ aN]) w [] w')
def IL(m:Nat)(v_:List aj)(Y7:(List aj)→Option Int):Nat→Int→Int→Option Int
 |0,_,_=>none
 |kk+1,v8,v9=>cond (decide (v9<ln v_)) (Option.bind (au (0≤v9∧v9<ln v_)<|lt (lp (gi v_ v9).ay.a7 !=0) λeZ=>cond eZ (Option.bind (Y7 (gi v_ v9).J) λeF=>lt (if v8<a8 (1+eF)then a8 (1+eF)else v8) λiB=>some iB) (some v8)) λ(z12:Int)=>IL m v_ Y7 kk z12 (a8 (v9+1))) (some v8)
def C0(m:Nat):Nat→List aj→Option Int
 |0,_=>none
 |k+1,v_=>Option.bind (IL m v_ (C0 m k) m 0 0) λ(z5:Int)=>some z5
theorem a5h(m:Nat):∀(k:Nat),a5g (C0 m k):=by
 intro k
 induction k with
 |zero=>intro aN M v_ r hm;exact eJ hm
 |succ k ih=>
  intro aN M v_ r hm w hS;rw[C0]at hm;have aK:SH M (aH [eI ae v_ aN]) w [eI ae v_ aN] w:=hS;generalize hX:aH [eI ae v_ aN]=X at aK⊢;clear hS hX;have hS:=aK;clear aK;refine fk func33 rfl ntmps33 rfl λ_ H=>?_;refine aQ H hS (jq [0] [vL aN v_] [] ?_);refine uA 3 (vI 0) [] ?_;obtain⟨z5,hz,hm⟩:=ai hm;refine uK [0] [3] [vI z5] [eI ae v_ aN] ?_ ?_;replace hm:=hz;refine uA 4 (vI 0) [] (aE ?_);refine fu [] [3,4] (λv8 v9=>[vI v8,vI v9]) (λ_ _=>[eI ae v_ aN]) hm (λkk v8 v9 hm=>?_);rw[IL]at hm;refine aq (uI [] hm ?_ ?_);intro hm;refine ah ?_;obtain⟨z12,hz,hm⟩:=ai hm;refine uK [] [3] [vI z12] [eI ae v_ aN] ?_ ?_;replace hm:=hz;refine aE ?_;obtain⟨cd,eZ,ma,hm⟩:=bY hm;refine uI [ki 0 cd,kj 0 0 cd,kc (RA (gi v_ v9).ay.a7)] hm ?_ ?_ (he:=by subst ma;kernel_rfl);intro hm;obtain⟨eF,oJ,iB,rR,hm⟩:=gK hm;refine uV 3 (vI iB) [ki 0 cd,kj 0 5 cd,kr λ_ hS=>dF (aw aS (lZ ((hS.im 0 rfl).el cd))) (call33 _) (λw' h'=>ih (aN.s v9.toNat 0) F0 _ _ oJ w' h')] ?_ (he:=by subst rR;kernel_rfl);cases hm;exact te;intro hm;refine ah ?_;cases hm;exact te;exact fb [] hm;intro hm;refine bt ?_;cases hm;exact te;refine al [] ?_;cases hm;exact uZ [] []
def xA(m:Nat)(v_:List aj):Option Int:=C0 m m v_
theorem N6{aN:Gh}(m)(v_)(r)(hm:xA m v_=some r)(w)(hL:Rd [eI ae v_ aN] w):Rb 33 [vL aN v_] (vI r) w:=dF hL (call33 _) (λw' h=>a5h m m aN F0 v_ r hm w' h)

def C1(m:Nat)(l_:List cy):Nat→Int→Int→Option (Sum Bool Unit)
 |0,_,_=>none
 |kk+1,v12,ep=>cond (decide (ep<ln l_)) (au (0≤ep∧ep<ln l_)<|Option.bind (Rz m (gi l_ ep).Value 300) λeF=>lt (a8 (v12+a8 (ln (gi l_ ep).aO+eF))) λiB=>Option.bind (cond (decide (300<iB)) (some default) (xA m (gi l_ ep).Value)) λpq=>lt (cond (decide (300<iB)) true (decide (40<pq))) λj6=>cond j6 (some (.inl true)) (C1 m l_ kk iB (a8 (ep+1)))) (some (.inr ()))
def F4(m:Nat)(l_:List cy):Option Bool:=cond (decide (40<ln l_)) (some true) (Option.bind (C1 m l_ m 0 0) λ(z9:Sum Bool Unit)=>bK z9 λpW=>some false)
theorem Y8{a6:Gh}(m)(l_)(r)(hm:F4 m l_=some r)(w)(hL:Rd [eI dk l_ a6] w):Rb 21 [vL a6 l_] (vB r) w:=by
 rw[F4]at hm;refine c7 hL (call21 _) func21 ntmps21 λM X w=>?_;refine uO [] (aq ?_);refine uI [] hm ?_ ?_;intro hm;refine uR [0] [2] [vT] [] (al [] (ax ?_));cases hm;exact aI [] aR;intro hm;refine ah (uA 3 (vI 0) [] ?_);obtain⟨z9,hz,lJ⟩:=ai hm;intro _ _ H8 hS;refine df (λa' w'=>∃pW:Unit,z9=Sum.inr pW∧Fr 40 [] a'∧SH M X w [eI dk l_ a6] w') ?_ ?_;replace hm:=hz;refine aQ H8 hS (uA 4 (vI 0) [] (aE ?_));refine fu [] [3,4] (λv12 ep=>[vI v12,vI ep]) (λ_ _=>[eI dk l_ a6]) hm (λkk v12 ep hm=>?_);rw[C1]at hm;refine aq (uI [] hm ?_ ?_);intro hm;refine ah (aq (aE ?_));obtain⟨mc,eF,oJ,hm⟩:=fU hm;obtain⟨iB,rR,hm⟩:=bd hm;refine pp [0,3,4] [vL a6 l_,vI iB,vI ep] [ki 0 mc,kj 0 0 mc,ki 0 mc,kj 0 1 mc,kr λ_ hS=>a5f (aN:=a6.s ep.toNat 0) m _ _ _ oJ _ (aw aS (xw ((hS.im 0 rfl).el mc)))] ?_ (he:=by subst rR;kernel_rfl);obtain⟨pq,IM,j6,rP,hm⟩:=gK hm;refine uI [iT (gF (decide (300<iB))) 0 λhg=>mc,jF (gF (decide (300<iB))) 0 1 λhg=>mc,eo (gF (decide (300<iB))) λ_ hS hg=>N6 (aN:=a6.s ep.toNat 0) m _ _ (bF (hg.1) IM) _ (aw aS (xw ((hS.im 0 rfl).el mc)))] hm ?_ ?_ (he:=by subst rP;kernel_rfl);intro hm;cases hm;have hm:=lJ;cases hm;exact uZ [] [];intro hm;exact ah (fb [] hm);intro hm;refine bt ?_;cases hm;exact λ_ _ rS hS=>⟨_,rfl,aD.bc (ks:=[]) rS (by kernel_rfl),hS⟩;rintro _ _ ⟨pW,hz,H,hS⟩;subst hz;replace hm:=cG lJ;replace hS:SH M _ w [] _:=hS.aY [] rfl;refine aQ H hS ?_;cases hm;exact uZ [] []

def a5i(cX:aP→Int→Option Int):Prop:=∀(af:Gh)(aa:Gh)(M:Av)(c_:aP)(eV:Int)(r:Int),cX c_ eV=some r→∀w,S0 M [eI ae c_.aA.Value af,eI aZ c_.J aa] w→Calls prog 34 ⟨[.agg ⟨e4 c_ (gL [af,aa])⟩,vI eV]⟩ w (λe w'=>∃v,e=.returned v∧v=vI r∧SH M (aH [eI ae c_.aA.Value af,eI aZ c_.J aa]) w [] w')
def IP(m:Nat)(c_:aP)(eV:Int)(Y9:aP→Int→Option Int):Nat→Int→Int→Option Int
 |0,_,_=>none
 |kk+1,v11,v12=>lt (cond (decide (v12<ln c_.J)) (decide (v11≤eV)) false) λgy=>cond gy (au (0≤v12∧v12<ln c_.J)<|Option.bind (Y9 (gi c_.J v12) (a8 (eV-v11))) λeF=>IP m c_ eV Y9 kk (a8 (v11+eF)) (a8 (v12+1))) (some v11)
def C2(m:Nat):Nat→aP→Int→Option Int
 |0,_,_=>none
 |k+1,c_,eV=>Option.bind (IP m c_ eV (C2 m k) m 1 0) λ(z8:Int)=>some z8
theorem a5j(m:Nat):∀(k:Nat),a5i (C2 m k):=by
 intro k
 induction k with
 |zero=>intro af aa M c_ eV r hm;exact eJ hm
 |succ k ih=>
  intro af aa M c_ eV r hm w hS;rw[C2]at hm;have aK:SH M (aH [eI ae c_.aA.Value af,eI aZ c_.J aa]) w [eI ae c_.aA.Value af,eI aZ c_.J aa] w:=hS;generalize hX:aH [eI ae c_.aA.Value af,eI aZ c_.J aa]=X at aK⊢;clear hS hX;have hS:=aK;clear aK;refine fk func34 rfl ntmps34 rfl λ_ H=>?_;refine aQ H hS (az (eP [] [0,1] [1] [vI eV] (oB (e4 c_ (gL [af,aa])) rfl) λb1=>?_));refine uP 2 [] (an ?_);refine uA 5 (vI 1) [] ?_;obtain⟨z8,hz,hm⟩:=ai hm;refine uK [1,2] [5] [vI z8] [eB b1 (e4 c_ (gL [af,aa])),eI ae c_.aA.Value af,eI aZ c_.J aa] ?_ ?_;replace hm:=hz;refine uA 6 (vI 0) [] (aE ?_);refine fu [] [5,6] (λv11 v12=>[vI v11,vI v12]) (λ_ _=>[eB b1 (e4 c_ (gL [af,aa])),eI ae c_.aA.Value af,eI aZ c_.J aa]) hm (λkk v11 v12 hm=>?_);rw[IP]at hm;refine aq ?_;obtain⟨gy,oK,hm⟩:=bd hm;refine uI [kb 0 6] hm ?_ ?_ (he:=by subst oK;kernel_rfl);intro hm;refine ah (aq (aE ?_));obtain⟨mc,eF,oJ,hm⟩:=fU hm;refine uV 5 (vI (a8 (v11+eF))) [kb 0 6,ki 2 mc,⟨some (.agg ⟨e4 (gi c_.J v12) (aa.s v12.toNat)⟩),λwz=>V.bn (ab aa.a) (ao aa.a+v12.toNat*7) (e4 (gi c_.J v12) (aa.s v12.toNat)) 0 wz,λ_ hS=>(hS.im 2 rfl).cS mc 0 rfl⟩,kr λ_ hS=>dF (aw (aw aS (j5 ((hS.im 2 rfl).el mc))) (jJ ((hS.im 2 rfl).el mc))) (call34 _) (λw' h'=>ih (aa.s v12.toNat 0) (aa.s v12.toNat 1) F0 _ _ _ oJ w' h')] ?_;exact fb [] hm;intro hm;refine bt ?_;cases hm;exact te;refine al [] ?_;cases hm;exact uZ [] []
def IQ(m:Nat)(c_:aP)(eV:Int):Option Int:=C2 m m c_ eV
theorem Ya{af aa:Gh}(m)(c_)(eV)(r)(hm:IQ m c_ eV=some r)(w)(hL:Rd [eI ae c_.aA.Value af,eI aZ c_.J aa] w):Rb 34 [.agg ⟨e4 c_ (gL [af,aa])⟩,vI eV] (vI r) w:=dF hL (call34 _) (λw' h=>a5j m m af aa F0 c_ eV r hm w' h)

def a5k(cX:aP→Option Bool):Prop:=∀(af:Gh)(aa:Gh)(M:Av)(c_:aP)(r:Bool),cX c_=some r→∀w,S0 M [eI ae c_.aA.Value af,eI aZ c_.J aa] w→Calls prog 35 ⟨[.agg ⟨e4 c_ (gL [af,aa])⟩]⟩ w (λe w'=>∃v,e=.returned v∧v=vB r∧SH M (aH [eI ae c_.aA.Value af,eI aZ c_.J aa]) w [] w')
def vu(m:Nat)(c_:aP)(Yb:aP→Option Bool):Nat→Int→Option (Sum Bool Unit)
 |0,_=>none
 |kk+1,v21=>cond (decide (v21<ln c_.J)) (au (0≤v21∧v21<ln c_.J)<|Option.bind (Yb (gi c_.J v21)) λcE=>cond cE (some (.inl true)) (vu m c_ Yb kk (a8 (v21+1)))) (some (.inr ()))
def u7(m:Nat):Nat→aP→Option Bool
 |0,_=>none
 |k+1,c_=>Option.bind (F4 m ([c_.aA]:List cy)) λdD=>lt (cond dD true (decide (200<ln c_.aO))) λgy=>cond gy (some true) (Option.bind (vu m c_ (u7 m k) m 0) λ(cY:Sum Bool Unit)=>bK cY λlK=>some false)
theorem a5l(m:Nat):∀(k:Nat),a5k (u7 m k):=by
 intro k
 induction k with
 |zero=>intro af aa M c_ r hm;exact eJ hm
 |succ k ih=>
  intro af aa M c_ r hm w hS;rw[u7]at hm;have aK:SH M (aH [eI ae c_.aA.Value af,eI aZ c_.J aa]) w [eI ae c_.aA.Value af,eI aZ c_.J aa] w:=hS;generalize hX:aH [eI ae c_.aA.Value af,eI aZ c_.J aa]=X at aK⊢;clear hS hX;have hS:=aK;clear aK;refine fk func35 rfl ntmps35 rfl λ_ H=>?_;refine aQ H hS (az (eP [] [0,1] [] [] (oB (e4 c_ (gL [af,aa])) rfl) λb1=>?_));refine uP 2 [] (an (aq (az ?_)));refine uB 2 [] [5] [.agg ⟨e8 c_.aA (gL [af])⟩] [⟨some (.agg ⟨e8 c_.aA (gL [af])⟩),λwz=>V.bn b1 3 (e8 c_.aA (gL [af])) 0 wz,λ_ hS=>(hS.bk 0 rfl).cM rfl⟩] ?_;refine uM [1] [0,1,2] [5] (oL dk 26 (vG [vN,vO,vF]) [c_.aA] [gL [af]] (λhd=>aJ.cons (N3 (hd.im 0 rfl)) aJ.nil) rfl) λg8=>?_;obtain⟨dD,iU,gy,oK,hm⟩:=gK hm;refine uB 10 [6] [13] [vB gy] [kr λ_ hS=>Y8 (a6:=g8) m _ _ iU _ (aw aS (hS.dX 0 rfl)),aV (gF dD) 1 1] ?_ (he:=by subst oK;kernel_rfl);refine an (al [1,2,3] ?_);refine uC hm ?_ ?_;intro hm;refine uR [1,13] [2] [vT] [] (al [] (ax ?_));cases hm;exact aI [] aR;intro hm;refine ah ?_;obtain⟨cY,hz,qV⟩:=ai hm;intro _ _ rS hS;refine df (λa' w'=>∃lK:Unit,cY=Sum.inr lK∧Fr 27 [] a'∧SH M X w [eB b1 (e4 c_ (gL [af,aa])),eI ae c_.aA.Value af,eI aZ c_.J aa] w') ?_ ?_;replace hm:=hz;refine aQ rS hS (uR [13] [3] [vI 0] [] (aE ?_));refine dH [] [3] (λv21=>[vI v21]) (λ_=>[eB b1 (e4 c_ (gL [af,aa])),eI ae c_.aA.Value af,eI aZ c_.J aa]) hm (λkk v21 hm=>?_);rw[vu]at hm;refine aq (uI [kb 0 6] hm ?_ ?_);intro hm;refine ah (aq (aE ?_));obtain⟨hJ,cE,me,hm⟩:=fU hm;refine uI [kb 0 6,ki 2 hJ,⟨some (.agg ⟨e4 (gi c_.J v21) (aa.s v21.toNat)⟩),λwz=>V.bn (ab aa.a) (ao aa.a+v21.toNat*7) (e4 (gi c_.J v21) (aa.s v21.toNat)) 0 wz,λ_ hS=>(hS.im 2 rfl).cS hJ 0 rfl⟩,kr λ_ hS=>dF (aw (aw aS (j5 ((hS.im 2 rfl).el hJ))) (jJ ((hS.im 2 rfl).el hJ))) (call35 _) (λw' h'=>ih (aa.s v21.toNat 0) (aa.s v21.toNat 1) F0 _ _ me w' h')] hm ?_ ?_;intro hm;cases hm;have hm:=qV;cases hm;exact uZ [] [];intro hm;exact ah (dI [] hm);intro hm;refine bt ?_;cases hm;exact λ_ _ u9 hS=>⟨_,rfl,aD.bc (ks:=[]) u9 (by kernel_rfl),hS⟩;rintro _ _ ⟨lK,hz,H,hS⟩;subst hz;replace hm:=cG qV;replace hS:SH M _ w [] _:=hS.aY [] rfl;refine aQ H hS ?_;cases hm;exact uZ [] []
def RB(m:Nat)(c_:aP):Option Bool:=u7 m m c_
theorem a5m{af aa:Gh}(m)(c_)(r)(hm:RB m c_=some r)(w)(hL:Rd [eI ae c_.aA.Value af,eI aZ c_.J aa] w):Rb 35 [.agg ⟨e4 c_ (gL [af,aa])⟩] (vB r) w:=dF hL (call35 _) (λw' h=>a5l m m af aa F0 c_ r hm w' h)

def IR(m:Nat)(c_:aP):Option Bool:=Option.bind (IQ m c_ 100) λy6=>Option.bind (cond (decide (100<y6)) (some default) (RB m c_)) λy7=>some (cond (decide (100<y6)) true y7)
theorem a5n{af aa:Gh}(m)(c_)(r)(hm:IR m c_=some r)(w)(hL:Rd [eI ae c_.aA.Value af,eI aZ c_.J aa] w):Rb 22 [.agg ⟨e4 c_ (gL [af,aa])⟩] (vB r) w:=by
 rw[IR]at hm;refine c7 hL (call22 _) func22 ntmps22 λM X w=>(az ?_);refine uM [] [0,1] [0] (oB (e4 c_ (gL [af,aa])) rfl) λb1=>?_;refine uP 2 [] (an ?_);obtain⟨y6,eW,y7,rT,hm⟩:=kg hm;refine uR [1] [2] [vB (cond (decide (100<y6)) true y7)] [kE 0 7,kr λ_ hS=>Ya (af:=af) (aa:=aa) m _ _ _ eW _ (aw (aw aS (hS.im 2 rfl)) (hS.im 1 rfl)),⟨some (.agg ⟨e4 c_ (gL [af,aa])⟩),λwz=>decide (100<y6)=false∧True→V.bn b1 0 (e4 c_ (gL [af,aa])) 0 wz,λ_ hS=>λhg=>(hS.bk 0 rfl).cM rfl⟩,eo (gF (decide (100<y6))) λ_ hS hg=>a5m (af:=af) (aa:=aa) m _ _ (bF (hg.1) rT) _ (aw (aw aS (hS.im 2 rfl)) (hS.im 1 rfl))] (al [] (ax ?_));cases hm;exact aI [] aR

def a5o(cX:(List bJ)→Int→Option Bool):Prop:=∀(a6:Gh)(M:Av)(l_:List bJ)(left:Int)(r:Bool),cX l_ left=some r→∀w,S0 M [eI cb l_ a6] w→Calls prog 10 ⟨[vL a6 l_,vI left]⟩ w (λe w'=>∃v,e=.returned v∧v=vB r∧SH M (aH [eI cb l_ a6]) w [] w')
def vv(m:Nat)(l_:List bJ)(v11:Int):Nat→Int→Option (Sum (Sum Bool Unit) Unit)
 |0,_=>none
 |kk+1,jW=>cond (decide (jW<ln (gi l_ v11).bX)) (au (0≤jW∧jW<ln (gi l_ v11).bX)<|lt (decide (20<ln (gi (gi l_ v11).bX jW))) λua=>cond ua (some (.inl (.inl true))) (vv m l_ v11 kk (a8 (jW+1)))) (some (.inr ()))
def vw(m:Nat)(l_:List bJ)(left:Int)(Yc:(List bJ)→Int→Option Bool):Nat→Int→Option (Sum Bool Unit)
 |0,_=>none
 |kk+1,v11=>cond (decide (v11<ln l_)) (Option.bind (au (0≤v11∧v11<ln l_)<|Option.bind (IJ m (gi l_ v11).cK) λku=>Option.bind (cond ku (some default) (F4 m (gi l_ v11).bE)) λdO=>Option.bind (cond (cond ku true dO) (some default) (IR m (gi l_ v11).aM)) λcE=>lt (cond (cond (cond ku true dO) true cE) true (decide (70<ln (gi l_ v11).bX))) λjX=>Option.bind (cond jX (some default) (Yc (gi l_ v11).bh (a8 (left-1)))) λiV=>cond (cond jX true iV) (some (.inl (.inl true))) (vv m l_ v11 m 0)) λ(mf:Sum (Sum Bool Unit) Unit)=>bK mf λny=>vw m l_ left Yc kk (a8 (v11+1))) (some (.inr ()))
def ub(m:Nat):Nat→List bJ→Int→Option Bool
 |0,_,_=>none
 |k+1,l_,left=>lt (cond (left==0) true (decide (70<ln l_))) λx3=>cond x3 (some true) (Option.bind (vw m l_ left (ub m k) m 0) λ(z8:Sum Bool Unit)=>bK z8 λjt=>some false)
theorem a5p(m:Nat):∀(k:Nat),a5o (ub m k):=by
 intro k
 induction k with
 |zero=>intro a6 M l_ left r hm;exact eJ hm
 |succ k ih=>
  intro a6 M l_ left r hm w hS;rw[ub]at hm;have aK:SH M (aH [eI cb l_ a6]) w [eI cb l_ a6] w:=hS;generalize hX:aH [eI cb l_ a6]=X at aK⊢;clear hS hX;have hS:=aK;clear aK;refine fk func10 rfl ntmps10 rfl λ_ H=>?_;refine aQ H hS (jq [0,1] [vL a6 l_,vI left] [] (aq ?_));obtain⟨x3,fG,hm⟩:=bd hm;refine uI [] hm ?_ ?_ (he:=by subst fG;kernel_rfl);intro hm;refine uR [0,1] [4] [vT] [] (al [] (ax ?_));cases hm;exact aI [] aR;intro hm;refine ah ?_;obtain⟨z8,hz,pX⟩:=ai hm;intro _ _ H5 hS;refine df (λa' w'=>∃jt:Unit,z8=Sum.inr jt∧Fr 65 [] a'∧SH M X w [eI cb l_ a6] w') ?_ ?_;replace hm:=hz;refine aQ H5 hS (uA 5 (vI 0) [] (aE ?_));refine dH [] [5] (λv11=>[vI v11]) (λ_=>[eI cb l_ a6]) hm (λkk v11 hm=>?_);rw[vw]at hm;refine aq (uI [] hm ?_ ?_);intro hm;refine ah ?_;obtain⟨mf,hz,F5⟩:=ai hm;refine uS (z:=mf) [] [] (λny=>[]) (λny=>[eI cb l_ a6]) ?_ ?_;replace hm:=hz;refine aE (az ?_);obtain⟨jc,hm⟩:=bO hm;refine uB 4 [] [24] [.agg ⟨e5 (gi l_ v11) (a6.s v11.toNat)⟩] [ki 0 jc,⟨some (.agg ⟨e5 (gi l_ v11) (a6.s v11.toNat)⟩),λwz=>V.bn (ab a6.a) (ao a6.a+v11.toNat*12) (e5 (gi l_ v11) (a6.s v11.toNat)) 0 wz,λ_ hS=>(hS.im 0 rfl).cS jc 0 rfl⟩] ?_;refine uM [] [0] [] (oA [vU 0,vO,vO,vU 0,vN,vI 0,vN,vO,vF,vO,vO,vO]) λIU=>?_;refine nu [0] [1] [0,1,5,6] [vL a6 l_,vI left,vI v11,vP IU] (oS (e5 (gi l_ v11) (a6.s v11.toNat)) rfl rfl) (an (aq ?_));obtain⟨ku,IV,dO,o9,hm⟩:=kg hm;obtain⟨cE,me,jX,uc,hm⟩:=gK hm;obtain⟨iV,ud,hm⟩:=ai hm;refine uI [kb 0 1,kr λ_ hS=>a5c (a6:=a6.s v11.toNat 0) m _ _ IV _ (aw aS (zp ((hS.im 1 rfl).el jc))),aV (gF ku) 0 2,eo (gF ku) λ_ hS hg=>Y8 (a6:=a6.s v11.toNat 1) m _ _ (bF (hg.1) o9) _ (aw aS (sO ((hS.im 1 rfl).el jc))),⟨some (.agg ⟨e4 (gi l_ v11).aM (gL [a6.s v11.toNat 2,a6.s v11.toNat 3])⟩),λwz=>cond ku true dO=false∧True→V.bn IU 3 (e4 (gi l_ v11).aM (gL [a6.s v11.toNat 2,a6.s v11.toNat 3])) 0 wz,λ_ hS=>λhg=>(hS.bk 0 rfl).cM rfl⟩,eo (gF (cond ku true dO)) λ_ hS hg=>a5n (af:=a6.s v11.toNat 2) (aa:=a6.s v11.toNat 3) m _ _ (bF (hg.1) me) _ (aw (aw aS (sQ ((hS.im 1 rfl).el jc))) (sP ((hS.im 1 rfl).el jc))),aV (gF (cond (cond ku true dO) true cE)) 0 10,aV (gF jX) 0 11,eo (gF jX) λ_ hS hg=>dF (aw aS (zq ((hS.im 1 rfl).el jc))) (call10 _) (λw' h'=>ih (a6.s v11.toNat 5) F0 _ _ _ (bF (hg.1) ud) w' h')] hm ?_ ?_ (he:=by subst uc;kernel_rfl);intro hm;refine uR [0,1,5,6] [4] [vT] [] (al [1] (ax ?_));cases hm;have hm:=F5;cases hm;have hm:=pX;cases hm;exact aI [] aR;intro hm;refine ah (uA 7 (vI 0) [] (aE ?_));refine dH [] [7] (λjW=>[vI jW]) (λ_=>[eB IU (e5 (gi l_ v11) (a6.s v11.toNat)),eI cb l_ a6]) hm (λkk jW hm=>?_);rw[vv]at hm;refine aq (uI [kb 0 10] hm ?_ ?_);intro hm;refine ah (aq (aE ?_));obtain⟨pr,ua,IW,hm⟩:=bY hm;refine uI [kb 0 10,⟨none,λ_=>dE (a6.s v11.toNat 4).a∧0≤jW∧jW<ln (gi l_ v11).bX,λ_ hS=>(BU ((hS.im 1 rfl).el jc)).gP pr⟩,⟨some (.slice ((a6.s v11.toNat 4).s jW.toNat 0).a (gi (gi l_ v11).bX jW).length ((a6.s v11.toNat 4).s jW.toNat 0).c),λwz=>V.cc ⟨ab (a6.s v11.toNat 4).a,ao (a6.s v11.toNat 4).a+jW.toNat*1,none⟩ (.slice ((a6.s v11.toNat 4).s jW.toNat 0).a (gi (gi l_ v11).bX jW).length ((a6.s v11.toNat 4).s jW.toNat 0).c) wz,λ_ hS=>(BU ((hS.im 1 rfl).el jc)).cc pr 0 rfl⟩] hm ?_ ?_ (he:=by subst IW;kernel_rfl);intro hm;cases hm;have hm:=F5;cases hm;have hm:=pX;cases hm;exact uZ [] [];intro hm;exact ah (dI [] hm);intro hm;refine bt ?_;cases hm;refine al [1] ?_;exact ts;rintro ny hz;subst hz;replace hm:=cG F5;exact dI [] hm;intro hm;refine bt ?_;cases hm;exact λ_ _ qW hS=>⟨_,rfl,aD.bc (ks:=[]) qW (by kernel_rfl),hS⟩;rintro _ _ ⟨jt,hz,H,hS⟩;subst hz;replace hm:=cG pX;replace hS:SH M _ w [] _:=hS.aY [] rfl;refine aQ H hS ?_;cases hm;exact uZ [] []
def RC(m:Nat)(l_:List bJ)(left:Int):Option Bool:=ub m m l_ left
theorem a5q{a6:Gh}(m)(l_)(left)(r)(hm:RC m l_ left=some r)(w)(hL:Rd [eI cb l_ a6] w):Rb 10 [vL a6 l_,vI left] (vB r) w:=dF hL (call10 _) (λw' h=>a5p m m a6 F0 l_ left r hm w' h)

def a5r(cX:(List bJ)→Option Int):Prop:=∀(a6:Gh)(M:Av)(l_:List bJ)(r:Int),cX l_=some r→∀w,S0 M [eI cb l_ a6] w→Calls prog 11 ⟨[vL a6 l_]⟩ w (λe w'=>∃v,e=.returned v∧v=vI r∧SH M (aH [eI cb l_ a6]) w [] w')
def C3(m:Nat)(l_:List bJ)(Yd:(List bJ)→Option Int):Nat→Int→Int→Option Int
 |0,_,_=>none
 |kk+1,v8,v9=>cond (decide (v9<ln l_)) (au (0≤v9∧v9<ln l_)<|Option.bind (Yd (gi l_ v9).bh) λnz=>C3 m l_ Yd kk (a8 (v8+nz)) (a8 (v9+1))) (some v8)
def zt(m:Nat):Nat→List bJ→Option Int
 |0,_=>none
 |k+1,l_=>Option.bind (C3 m l_ (zt m k) m (ln l_) 0) λ(z5:Int)=>some z5
theorem a5s(m:Nat):∀(k:Nat),a5r (zt m k):=by
 intro k
 induction k with
 |zero=>intro a6 M l_ r hm;exact eJ hm
 |succ k ih=>
  intro a6 M l_ r hm w hS;rw[zt]at hm;have aK:SH M (aH [eI cb l_ a6]) w [eI cb l_ a6] w:=hS;generalize hX:aH [eI cb l_ a6]=X at aK⊢;clear hS hX;have hS:=aK;clear aK;refine fk func11 rfl ntmps11 rfl λ_ H=>?_;refine aQ H hS (jq [0] [vL a6 l_] [] ?_);refine uA 3 (vI (ln l_)) [] ?_;obtain⟨z5,hz,hm⟩:=ai hm;refine uK [0] [3] [vI z5] [eI cb l_ a6] ?_ ?_;replace hm:=hz;refine uA 4 (vI 0) [] (aE ?_);refine fu [] [3,4] (λv8 v9=>[vI v8,vI v9]) (λ_ _=>[eI cb l_ a6]) hm (λkk v8 v9 hm=>?_);rw[C3]at hm;refine aq (uI [] hm ?_ ?_);intro hm;refine ah (aq (aE ?_));obtain⟨ue,nz,xB,hm⟩:=fU hm;refine uV 3 (vI (a8 (v8+nz))) [ki 0 ue,kj 0 11 ue,kr λ_ hS=>dF (aw aS (zq ((hS.im 0 rfl).el ue))) (call11 _) (λw' h'=>ih (a6.s v9.toNat 5) F0 _ _ xB w' h')] ?_;exact fb [] hm;intro hm;refine bt ?_;cases hm;exact te;refine al [] ?_;cases hm;exact uZ [] []
def zu(m:Nat)(l_:List bJ):Option Int:=zt m m l_
theorem RD{a6:Gh}(m)(l_)(r)(hm:zu m l_=some r)(w)(hL:Rd [eI cb l_ a6] w):Rb 11 [vL a6 l_] (vI r) w:=dF hL (call11 _) (λw' h=>a5s m m a6 F0 l_ r hm w' h)

def F6(m:Nat)(l_:List bJ):Option Bool:=Option.bind (RC m l_ 30) λy3=>Option.bind (cond y3 (some default) (zu m l_)) λy4=>some (cond y3 true (decide (70<y4)))
theorem Ye{a6:Gh}(m)(l_)(r)(hm:F6 m l_=some r)(w)(hL:Rd [eI cb l_ a6] w):Rb 4 [vL a6 l_] (vB r) w:=by
 rw[F6]at hm;refine c7 hL (call4 _) func4 ntmps4 λM X w=>?_;refine uO [] ?_;obtain⟨y3,cC,y4,lL,hm⟩:=kg hm;refine uR [0] [2] [vB (cond y3 true (decide (70<y4)))] [kr λ_ hS=>a5q (a6:=a6) m _ _ _ cC _ (aw aS (hS.im 0 rfl)),eo (gF y3) λ_ hS hg=>RD (a6:=a6) m _ _ (bF (hg.1) lL) _ (aw aS (hS.im 0 rfl))] (al [] (ax ?_));cases hm;exact aI [] aR

def C4(m:Nat)(l_:List jV):Nat→Int→Int→Option (Sum Bool Int)
 |0,_,_=>none
 |kk+1,v8,v9=>lt (cond (decide (v9<ln l_)) (decide (v9≤10)) false) λgV=>cond gV (au (0≤v9∧v9<ln l_)<|Option.bind (F6 m (gi l_ v9).iq.bh) λcW=>cond cW (some (.inl true)) (Option.bind (zu m (gi l_ v9).iq.bh) λdW=>C4 m l_ kk (a8 (v8+dW)) (a8 (v9+1)))) (some (.inr v8))
def IX(m:Nat)(l_:List jV):Option Bool:=Option.bind (C4 m l_ m 0 0) λ(z5:Sum Bool Int)=>bK z5 λIY=>lt (cond (decide (10<ln l_)) true (decide (80<IY))) λgU=>some gU
theorem a5t{a6:Gh}(m)(l_)(r)(hm:IX m l_=some r)(w)(hL:Rd [eI o8 l_ a6] w):Rb 5 [vL a6 l_] (vB r) w:=by
 rw[IX]at hm;refine c7 hL (call5 _) func5 ntmps5 λM X w=>?_;refine uO [] ?_;refine uA 3 (vI 0) [] ?_;obtain⟨z5,hz,Yf⟩:=ai hm;refine uS (z:=z5) [] [3] (λIY=>[vI IY]) (λIY=>[eI o8 l_ a6]) ?_ ?_;replace hm:=hz;refine uA 4 (vI 0) [] (aE ?_);refine fu [] [3,4] (λv8 v9=>[vI v8,vI v9]) (λ_ _=>[eI o8 l_ a6]) hm (λkk v8 v9 hm=>?_);rw[C4]at hm;refine aq ?_;obtain⟨gV,nx,hm⟩:=bd hm;refine uI [] hm ?_ ?_ (he:=by subst nx;kernel_rfl);intro hm;refine ah (aq (aE (aq ?_)));obtain⟨cd,cW,kW,hm⟩:=fU hm;refine uI [ki 0 cd,kj 0 1 cd,kr λ_ hS=>Ye (a6:=a6.s v9.toNat 0) m _ _ kW _ (aw aS (N5 ((hS.im 0 rfl).el cd)))] hm ?_ ?_;intro hm;cases hm;have hm:=Yf;cases hm;exact uZ [] [];intro hm;refine ah ?_;obtain⟨dW,mJ,hm⟩:=ai hm;refine uV 3 (vI (a8 (v8+dW))) [ki 0 cd,kj 0 1 cd,kr λ_ hS=>RD (a6:=a6.s v9.toNat 0) m _ _ mJ _ (aw aS (N5 ((hS.im 0 rfl).el cd)))] ?_;exact fb [] hm;intro hm;refine bt ?_;cases hm;exact ts;rintro IY hz;subst hz;replace hm:=cG Yf;obtain⟨gU,pU,hm⟩:=bd hm;refine uR [0,3] [2] [vB gU] [] ?_ (he:=by subst pU;kernel_rfl);refine al [] (ax ?_);cases hm;exact aI [] aR

theorem a5u(x0:ag)(x1:Int)(w:World):Rb 182 [vS x0,vU x1] (vI (EE x0 x1)) w:=a3o func182 (by kernel_rfl) rfl (by kernel_rfl) (by kernel_rfl) _ _ w

structure uf where
  rules:Int
  depth:Int
  bad:Bool
instance:Inhabited uf:=⟨⟨default,default,default⟩⟩
def a5v:Ty uf where
  z:=3
  aT:=λx g=>[vI x.rules,vI x.depth,vB x.bad]
  cx:=λ_ _ _ _=>True
  len:=λ_ _=>rfl
  one:=λ_ _=>rfl
  kp:=λ_ _ _=>trivial
  cT:=λ_ _=>trivial
  fresh:=λ_=>trivial
def zw(x:uf):List Value:=a5v.aT x (gL [])
def stringslite_IndexByte(s:ag)(c_:Int):Int:=(EE s c_)
theorem Yg(s:ag)(c_:Int):Rt 144 [vS s,vU c_] (vI (stringslite_IndexByte s c_)):=by
 generalize hm:stringslite_IndexByte s c_=r;rw[stringslite_IndexByte]at hm;refine cA (call144 _) func144 ntmps144 λM X w=>?_;refine uO [] ?_;refine uR [0,1] [4] [vI (EE s c_)] [⟨some (vI (EE s c_)),rB 182 [vS s,vU c_] (vI (EE s c_)),λ_ _=>a5u _ _ _⟩] (ax ?_);subst hm;exact aI [] aR

def strings_IndexByte(s:ag)(c_:Int):Int:=(stringslite_IndexByte s c_)
theorem IZ(s:ag)(c_:Int):Rt 96 [vS s,vU c_] (vI (strings_IndexByte s c_)):=by
 generalize hm:strings_IndexByte s c_=r;rw[strings_IndexByte]at hm;refine cA (call96 _) func96 ntmps96 λM X w=>?_;refine uO [] ?_;refine uR [0,1] [4] [vI (stringslite_IndexByte s c_)] [kc (Yg s c_)] (ax ?_);subst hm;exact aI [] aR

def F7(s:ag):Bool:=lt (cond (s==[]) true (decide (64<ln s))) λx3=>lt (cond x3 true (decide (0≤strings_IndexByte s 0))) λx4=>x4
theorem a5w(s:ag):Rt 95 [vS s] (vB (F7 s)):=by
 generalize hm:F7 s=r;rw[F7]at hm;refine cA (call95 _) func95 ntmps95 λM X w=>?_;refine uO [] ?_;obtain⟨x3,fG,x4,mg,hm⟩:=cU hm;refine uR [0] [2] [vB x4] [dB (gF x3) λhg=>IZ s 0] ?_ (he:=by subst fG mg;kernel_rfl);refine ax ?_;subst hm;exact aI [] aR

def F8(m:Nat)(s:List ag):Nat→Int→Option (Sum Int Unit)
 |0,_=>none
 |kk+1,v6=>cond (decide (v6<ln s)) (au (0≤v6∧v6<ln s)<|cond (F7 (gi s v6)) (some (.inl v6)) (F8 m s kk (a8 (v6+1)))) (some (.inr ()))
def N7(m:Nat)(s:List ag):Option Int:=Option.bind (F8 m s m 0) λ(z3:Sum Int Unit)=>bK z3 λcO=>some (-1)
theorem a5x{bi:Gh}(m)(s)(r)(hm:N7 m s=some r)(w)(hL:Rd [eI tS s bi] w):Rb 143 [vL bi s,.func (.func 95) ⟨[]⟩ ⟨[]⟩] (vI r) w:=by
 rw[N7]at hm;refine c7 hL (call143 _) func143 ntmps143 λM X w=>?_;refine uO [] ?_;obtain⟨z3,hz,dJ⟩:=ai hm;intro _ _ H2 hS;refine df (λa' w'=>∃cO:Unit,z3=Sum.inr cO∧Fr 19 [] a'∧SH M X w [eI tS s bi] w') ?_ ?_;replace hm:=hz;refine aQ H2 hS (uR [] [7,8] [vI (ln s),vI 0] [] (aE ?_));refine dH [] [8] (λv6=>[vI v6]) (λ_=>[eI tS s bi]) hm (λkk v6 hm=>?_);rw[F8]at hm;refine uA 9 (vB (decide (v6<ln s))) [] (aq ?_);refine uC hm ?_ ?_;intro hm;refine ah (aq (aE (uR [9] [5] [vI v6] [] ?_)));obtain⟨ef,hm⟩:=bO hm;refine uI [ki 0 ef,kj 0 0 ef,kc (a5w (gi s v6))] hm ?_ ?_;intro hm;cases hm;have hm:=dJ;cases hm;exact uZ [] [];intro hm;exact ah (dI [] hm);intro hm;refine bt ?_;cases hm;exact λ_ _ H8 hS=>⟨_,rfl,aD.bc (ks:=[]) H8 (by kernel_rfl),hS⟩;rintro _ _ ⟨cO,hz,H,hS⟩;subst hz;replace hm:=cG dJ;replace hS:SH M _ w [] _:=hS.aY [] rfl;refine aQ H hS ?_;cases hm;exact uZ [] []

def J0(m:Nat)(s:List ag):Option Bool:=Option.bind (N7 m s) λy3=>some (decide (0≤y3))
theorem a5y{bi:Gh}(m)(s)(r)(hm:J0 m s=some r)(w)(hL:Rd [eI tS s bi] w):Rb 94 [vL bi s,.func (.func 95) ⟨[]⟩ ⟨[]⟩] (vB r) w:=by
 rw[J0]at hm;refine c7 hL (call94 _) func94 ntmps94 λM X w=>?_;refine uO [] ?_;obtain⟨y3,cC,hm⟩:=ai hm;refine uR [0,1] [4] [vB (decide (0≤y3))] [kr λ_ hS=>a5x (bi:=bi) m _ _ cC _ (aw aS (hS.im 0 rfl))] (al [] (ax ?_));cases hm;exact aI [] aR

def J1(m:Nat)(l_:List ag):Option Bool:=lt (cond (decide (0<ln l_)) (decide (ln l_≤16)) false) λx3=>Option.bind (cond x3 (J0 m l_) (some default)) λy4=>some (cond x3 (!y4) false)
theorem a5z{a6:Gh}(m)(l_)(r)(hm:J1 m l_=some r)(w)(hL:Rd [eI tS l_ a6] w):Rb 53 [vL a6 l_] (vB r) w:=by
 rw[J1]at hm;refine c7 hL (call53 _) func53 ntmps53 λM X w=>?_;refine uO [] ?_;obtain⟨x3,fG,y4,lL,hm⟩:=lH hm;refine uR [0] [2] [vB (cond x3 (!y4) false)] [eo (gT x3) λ_ hS hg=>a5y (bi:=a6) m _ _ (bT (hg.1) lL) _ (aw aS (hS.im 0 rfl))] ?_ (he:=by subst fG;kernel_rfl);refine al [] (ax ?_);cases hm;exact aI [] aR

def N8(m:Nat)(l_:List ag):Option Bool:=Option.bind (J1 m l_) λy3=>some (!y3)
theorem a5A{a6:Gh}(m)(l_)(r)(hm:N8 m l_=some r)(w)(hL:Rd [eI tS l_ a6] w):Rb 52 [vL a6 l_] (vB r) w:=by
 rw[N8]at hm;refine c7 hL (call52 _) func52 ntmps52 λM X w=>?_;refine uO [] ?_;obtain⟨y3,cC,hm⟩:=ai hm;refine uR [0] [2] [vB (!y3)] [kr λ_ hS=>a5z (a6:=a6) m _ _ cC _ (aw aS (hS.im 0 rfl))] (al [] (ax ?_));cases hm;exact aI [] aR

def F9(m:Nat)(s:List (List ag)):Nat→Int→Option (Sum Int Unit)
 |0,_=>none
 |kk+1,v6=>cond (decide (v6<ln s)) (au (0≤v6∧v6<ln s)<|Option.bind (N8 m (gi s v6)) λdD=>cond dD (some (.inl v6)) (F9 m s kk (a8 (v6+1)))) (some (.inr ()))
def N9(m:Nat)(s:List (List ag)):Option Int:=Option.bind (F9 m s m 0) λ(z3:Sum Int Unit)=>bK z3 λcO=>some (-1)
theorem a5B{bi:Gh}(m)(s)(r)(hm:N9 m s=some r)(w)(hL:Rd [eI (Ty.sl tS) s bi] w):Rb 93 [vL bi s,.func (.func 52) ⟨[]⟩ ⟨[]⟩] (vI r) w:=by
 rw[N9]at hm;refine c7 hL (call93 _) func93 ntmps93 λM X w=>?_;refine uO [] ?_;obtain⟨z3,hz,dJ⟩:=ai hm;intro _ _ H2 hS;refine df (λa' w'=>∃cO:Unit,z3=Sum.inr cO∧Fr 19 [] a'∧SH M X w [eI (Ty.sl tS) s bi] w') ?_ ?_;replace hm:=hz;refine aQ H2 hS (uR [] [7,8] [vI (ln s),vI 0] [] (aE ?_));refine dH [] [8] (λv6=>[vI v6]) (λ_=>[eI (Ty.sl tS) s bi]) hm (λkk v6 hm=>?_);rw[F9]at hm;refine uA 9 (vB (decide (v6<ln s))) [] (aq ?_);refine uC hm ?_ ?_;intro hm;refine ah (aq (aE (uR [9] [5] [vI v6] [] ?_)));obtain⟨ef,dD,iU,hm⟩:=fU hm;refine uI [ki 0 ef,kj 0 0 ef,kr λ_ hS=>a5A (a6:=bi.s v6.toNat 0) m _ _ iU _ (aw aS (tO ((hS.im 0 rfl).el ef)))] hm ?_ ?_;intro hm;cases hm;have hm:=dJ;cases hm;exact uZ [] [];intro hm;exact ah (dI [] hm);intro hm;refine bt ?_;cases hm;exact λ_ _ H8 hS=>⟨_,rfl,aD.bc (ks:=[]) H8 (by kernel_rfl),hS⟩;rintro _ _ ⟨cO,hz,H,hS⟩;subst hz;replace hm:=cG dJ;replace hS:SH M _ w [] _:=hS.aY [] rfl;refine aQ H hS ?_;cases hm;exact uZ [] []

def J2(m:Nat)(s:List (List ag)):Option Bool:=Option.bind (N9 m s) λy3=>some (decide (0≤y3))
theorem a5C{bi:Gh}(m)(s)(r)(hm:J2 m s=some r)(w)(hL:Rd [eI (Ty.sl tS) s bi] w):Rb 51 [vL bi s,.func (.func 52) ⟨[]⟩ ⟨[]⟩] (vB r) w:=by
 rw[J2]at hm;refine c7 hL (call51 _) func51 ntmps51 λM X w=>?_;refine uO [] ?_;obtain⟨y3,cC,hm⟩:=ai hm;refine uR [0,1] [4] [vB (decide (0≤y3))] [kr λ_ hS=>a5B (bi:=bi) m _ _ cC _ (aw aS (hS.im 0 rfl))] (al [] (ax ?_));cases hm;exact aI [] aR

def a5D(cX:(List bo)→Option Int):Prop:=∀(a6:Gh)(M:Av)(l_:List bo)(r:Int),cX l_=some r→∀w,S0 M [eI bx l_ a6] w→Calls prog 54 ⟨[vL a6 l_]⟩ w (λe w'=>∃v,e=.returned v∧v=vI r∧SH M (aH [eI bx l_ a6]) w [] w')
def zx(m:Nat)(l_:List bo)(v9:Int)(v24:Int)(zy:(List bo)→Option Int):Nat→Int→Int→Option Int
 |0,_,_=>none
 |kk+1,eQ,cF=>lt (decide (cF<ln (gi (gi l_ v9).aL v24).aX)) λkV=>cond kV (Option.bind (au (0≤cF∧cF<ln (gi (gi l_ v9).aL v24).aX)<|lt (gi (gi (gi l_ v9).aL v24).aX cF).a7 λjL=>lt (gi (gi (gi l_ v9).aL v24).aX cF).aO λmK=>lt (gi (gi (gi l_ v9).aL v24).aX cF).Op λzz=>lt (gi (gi (gi l_ v9).aL v24).aX cF).Value λzA=>lt (gi (gi (gi l_ v9).aL v24).aX cF).lY λpY=>lt (gi (gi (gi l_ v9).aL v24).aX cF).dp.A λug=>lt (gi (gi (gi l_ v9).aL v24).aX cF).dp.B λfV=>lt (gi (gi (gi l_ v9).aL v24).aX cF).Of λxC=>lt (cond (cond (jL==9) true (jL==10)) (!xC) false) λvx=>lt (cond vx (ug==0&&(fV==1&&true)) false) λvy=>lt (cond (jL==3) true (cond (decide (9≤jL)) (!vy) false)) λpu=>cond pu (Option.bind (zy (gi (gi (gi l_ v9).aL v24).aX cF).J) λqX=>lt (if eQ<a8 (qX+1)then a8 (qX+1)else eQ) λoN=>some oN) (some eQ)) λ(lM:Int)=>zx m l_ v9 v24 zy kk lM (a8 (cF+1))) (some eQ)
def zB(m:Nat)(l_:List bo)(v9:Int)(zy:(List bo)→Option Int):Nat→Int→Int→Option Int
 |0,_,_=>none
 |kk+1,di,v24=>cond (decide (v24<ln (gi l_ v9).aL)) (Option.bind (au (0≤v24∧v24<ln (gi l_ v9).aL)<|zx m l_ v9 v24 zy m di 0) λ(jM:Int)=>zB m l_ v9 zy kk jM (a8 (v24+1))) (some di)
def C5(m:Nat)(l_:List bo)(zy:(List bo)→Option Int):Nat→Int→Int→Option Int
 |0,_,_=>none
 |kk+1,v8,v9=>cond (decide (v9<ln l_)) (Option.bind (au (0≤v9∧v9<ln l_)<|zB m l_ v9 zy m v8 0) λ(z12:Int)=>C5 m l_ zy kk z12 (a8 (v9+1))) (some v8)
def qY(m:Nat):Nat→List bo→Option Int
 |0,_=>none
 |k+1,l_=>Option.bind (C5 m l_ (qY m k) m 0 0) λ(z5:Int)=>some z5
theorem a5E(m:Nat):∀(k:Nat),a5D (qY m k):=by
 intro k
 induction k with
 |zero=>intro a6 M l_ r hm;exact eJ hm
 |succ k ih=>
  intro a6 M l_ r hm w hS;rw[qY]at hm;have aK:SH M (aH [eI bx l_ a6]) w [eI bx l_ a6] w:=hS;generalize hX:aH [eI bx l_ a6]=X at aK⊢;clear hS hX;have hS:=aK;clear aK;refine fk func54 rfl ntmps54 rfl λ_ H=>?_;refine aQ H hS (jq [0] [vL a6 l_] [] ?_);refine uA 3 (vI 0) [] ?_;obtain⟨z5,hz,hm⟩:=ai hm;refine uK [0] [3] [vI z5] [eI bx l_ a6] ?_ ?_;replace hm:=hz;refine uR [0] [12,13,14] [vL a6 l_,vI (ln l_),vI 0] [] (aE ?_);refine fu [] [3,14] (λv8 v9=>[vI v8,vI v9]) (λ_ _=>[eI bx l_ a6]) hm (λkk v8 v9 hm=>?_);rw[C5]at hm;refine uA 15 (vB (decide (v9<ln l_))) [] (aq ?_);refine uC hm ?_ ?_;intro hm;refine ah ?_;obtain⟨z12,hz,hm⟩:=ai hm;refine uK [15] [3] [vI z12] [eI bx l_ a6] ?_ ?_;replace hm:=hz;refine aE (az ?_);obtain⟨cd,hm⟩:=bO hm;refine uB 2 [15] [3,12,13,14,17] [vI v8,vL a6 l_,vI (ln l_),vI v9,.agg ⟨e0 (gi l_ v9) (a6.s v9.toNat)⟩] [ki 0 cd,⟨some (.agg ⟨e0 (gi l_ v9) (a6.s v9.toNat)⟩),λwz=>V.bn (ab a6.a) (ao a6.a+v9.toNat*3) (e0 (gi l_ v9) (a6.s v9.toNat)) 0 wz,λ_ hS=>(hS.im 0 rfl).cS cd 0 rfl⟩] ?_;refine uM [] [0] [] (oA [vU 0,vO,vO]) λJ3=>?_;refine uL [0] [1] [17] (oS (e0 (gi l_ v9) (a6.s v9.toNat)) rfl rfl) (an ?_);refine uR [5] [19,20,21] [.slice (a6.s v9.toNat 0).a (gi l_ v9).aL.length (a6.s v9.toNat 0).c,vI (ln (gi l_ v9).aL),vI 0] [kb 0 1] (al [1] (aE ?_));refine fu [] [3,21] (λdi v24=>[vI di,vI v24]) (λ_ _=>[eI bx l_ a6]) hm (λkk di v24 hm=>?_);rw[zB]at hm;refine uA 22 (vB (decide (v24<ln (gi l_ v9).aL))) [] (aq ?_);refine uC hm ?_ ?_;intro hm;refine ah ?_;obtain⟨jM,hz,hm⟩:=ai hm;refine uK [22] [3] [vI jM] [eI bx l_ a6] ?_ ?_;replace hm:=hz;refine aE (az ?_);obtain⟨ju,hm⟩:=bO hm;refine uB 2 [22] [3,12,13,14,19,20,21,24] [vI di,vL a6 l_,vI (ln l_),vI v9,.slice (a6.s v9.toNat 0).a (gi l_ v9).aL.length (a6.s v9.toNat 0).c,vI (ln (gi l_ v9).aL),vI v24,vG [vS (gi (gi l_ v9).aL v24).Tag,.slice ((a6.s v9.toNat 0).s v24.toNat 0).a (gi (gi l_ v9).aL v24).aX.length ((a6.s v9.toNat 0).s v24.toNat 0).c]] [⟨none,λ_=>dE (a6.s v9.toNat 0).a∧0≤v24∧v24<ln (gi l_ v9).aL,λ_ hS=>(fM ((hS.im 0 rfl).el cd)).gP ju⟩,⟨some (vG [vS (gi (gi l_ v9).aL v24).Tag,.slice ((a6.s v9.toNat 0).s v24.toNat 0).a (gi (gi l_ v9).aL v24).aX.length ((a6.s v9.toNat 0).s v24.toNat 0).c]),λwz=>V.bn (ab (a6.s v9.toNat 0).a) (ao (a6.s v9.toNat 0).a+v24.toNat*2) [vS (gi (gi l_ v9).aL v24).Tag,.slice ((a6.s v9.toNat 0).s v24.toNat 0).a (gi (gi l_ v9).aL v24).aX.length ((a6.s v9.toNat 0).s v24.toNat 0).c] 0 wz,λ_ hS=>(fM ((hS.im 0 rfl).el cd)).cS ju 0 rfl⟩] ?_;refine uM [] [0] [] (oA [vN,vO]) λRE=>?_;refine uL [0] [1] [24] (oS [vS (gi (gi l_ v9).aL v24).Tag,.slice ((a6.s v9.toNat 0).s v24.toNat 0).a (gi (gi l_ v9).aL v24).aX.length ((a6.s v9.toNat 0).s v24.toNat 0).c] rfl rfl) (an ?_);refine uR [7] [26,27,28] [.slice ((a6.s v9.toNat 0).s v24.toNat 0).a (gi (gi l_ v9).aL v24).aX.length ((a6.s v9.toNat 0).s v24.toNat 0).c,vI (ln (gi (gi l_ v9).aL v24).aX),vI 0] [kb 0 1] (al [1] (aE ?_));refine fu [] [3,28] (λeQ cF=>[vI eQ,vI cF]) (λ_ _=>[eI bx l_ a6]) hm (λkk eQ cF hm=>?_);rw[zx]at hm;obtain⟨kV,rQ,hm⟩:=bd hm;refine uA 29 (vB kV) [] ?_ (he:=by subst rQ;kernel_rfl);refine aq (uC hm ?_ ?_);intro hm;refine ah ?_;obtain⟨lM,hz,hm⟩:=ai hm;refine uK [29] [3] [vI lM] [eI bx l_ a6] ?_ ?_;replace hm:=hz;refine aE (az ?_);obtain⟨vC,jL,C6,hm⟩:=bY hm;obtain⟨mK,xD,zz,RF,hm⟩:=cU hm;obtain⟨zA,RG,pY,J4,hm⟩:=cU hm;obtain⟨ug,RH,fV,xE,hm⟩:=cU hm;obtain⟨xC,RI,hm⟩:=bd hm;refine uB 2 [29] [3,12,13,14,19,20,21,26,27,28,31] [vI eQ,vL a6 l_,vI (ln l_),vI v9,.slice (a6.s v9.toNat 0).a (gi l_ v9).aL.length (a6.s v9.toNat 0).c,vI (ln (gi l_ v9).aL),vI v24,.slice ((a6.s v9.toNat 0).s v24.toNat 0).a (gi (gi l_ v9).aL v24).aX.length ((a6.s v9.toNat 0).s v24.toNat 0).c,vI (ln (gi (gi l_ v9).aL v24).aX),vI cF,vG [vU jL,vS mK,vU zz,vS zA,vB pY,vI ug,vI fV,vB xC,.slice (((a6.s v9.toNat 0).s v24.toNat 0).s cF.toNat 0).a (gi (gi (gi l_ v9).aL v24).aX cF).J.length (((a6.s v9.toNat 0).s v24.toNat 0).s cF.toNat 0).c]] [⟨none,λ_=>dE ((a6.s v9.toNat 0).s v24.toNat 0).a∧0≤cF∧cF<ln (gi (gi l_ v9).aL v24).aX,λ_ hS=>(jr ((fM ((hS.im 0 rfl).el cd)).el ju)).gP vC⟩,⟨some (.agg ⟨e2 (gi (gi (gi l_ v9).aL v24).aX cF) (((a6.s v9.toNat 0).s v24.toNat 0).s cF.toNat)⟩),λwz=>V.bn (ab ((a6.s v9.toNat 0).s v24.toNat 0).a) (ao ((a6.s v9.toNat 0).s v24.toNat 0).a+cF.toNat*9) (e2 (gi (gi (gi l_ v9).aL v24).aX cF) (((a6.s v9.toNat 0).s v24.toNat 0).s cF.toNat)) 0 wz,λ_ hS=>(jr ((fM ((hS.im 0 rfl).el cd)).el ju)).cS vC 0 rfl⟩] ?_ (he:=by subst C6 xD RF RG J4 RH xE RI;kernel_rfl);refine uM [] [0] [] (oA [vU 0,vN,vU 0,vN,vF,vI 0,vI 0,vF,vO]) λb55=>?_;refine uL [0] [1] [31] (oS [vU jL,vS mK,vU zz,vS zA,vB pY,vI ug,vI fV,vB xC,.slice (((a6.s v9.toNat 0).s v24.toNat 0).s cF.toNat 0).a (gi (gi (gi l_ v9).aL v24).aX cF).J.length (((a6.s v9.toNat 0).s v24.toNat 0).s cF.toNat 0).c] rfl rfl) (an ?_);refine uA 10 (vB (cond (jL==9) true (jL==10))) [kb 0 0,aV (gF (jL==9)) 0 0] ?_;obtain⟨vx,J5,vy,J6,hm⟩:=cU hm;refine uR [10] [11] [vB vy] [aV (gT (cond (jL==9) true (jL==10))) 0 7,⟨some (vG [vI ug,vI fV]),λwz=>vx=true∧True→V.bn b55 5 [vI ug,vI fV] 0 wz,λ_ hS=>λhg=>(hS.bk 0 rfl).cM rfl⟩] ?_ (he:=by subst J5 J6;kernel_rfl);obtain⟨pu,C7,hm⟩:=bd hm;refine uJ [11] [kb 0 0,aV (gF (jL==3)) 0 0] hm ?_ ?_ (he:=by subst C7;kernel_rfl);intro hm;obtain⟨qX,J7,oN,C8,hm⟩:=gK hm;refine uW [9] [3] [vI oN] [kb 0 8,kr λ_ hS=>dF (aw aS (zo ((jr ((fM ((hS.im 1 rfl).el cd)).el ju)).el vC))) (call54 _) (λw' h'=>ih (((a6.s v9.toNat 0).s v24.toNat 0).s cF.toNat 0) F0 _ _ J7 w' h')] ?_ (he:=by subst C8;kernel_rfl);refine al [1] ?_;cases hm;exact te;intro hm;refine ah ?_;cases hm;refine al [1] ?_;exact te;exact fb [] hm;intro hm;refine bt ?_;cases hm;exact te;exact fb [] hm;intro hm;refine bt ?_;cases hm;exact te;exact fb [] hm;intro hm;refine bt ?_;cases hm;exact te;refine al [] ?_;cases hm;exact uZ [] []
def Na(m:Nat)(l_:List bo):Option Int:=qY m m l_
theorem a5F{a6:Gh}(m)(l_)(r)(hm:Na m l_=some r)(w)(hL:Rd [eI bx l_ a6] w):Rb 54 [vL a6 l_] (vI r) w:=dF hL (call54 _) (λw' h=>a5E m m a6 F0 l_ r hm w' h)

structure j7 where
  cZ:Int
  has:Bool
instance:Inhabited j7:=⟨⟨default,default⟩⟩
def agz:Ty j7 where
  z:=2
  aT:=λx g=>[vI x.cZ,vB x.has]
  cx:=λ_ _ _ _=>True
  len:=λ_ _=>rfl
  one:=λ_ _=>rfl
  kp:=λ_ _ _=>trivial
  cT:=λ_ _=>trivial
  fresh:=λ_=>trivial
def xF(s:ag)(most:Int):Bool:=lt (cond (decide (most<ln s)) true (decide (0≤strings_IndexByte s 0))) λx3=>x3
theorem Yh(s:ag)(most:Int):Rt 214 [vS s,vI most] (vB (xF s most)):=by
 generalize hm:xF s most=r;rw[xF]at hm;refine cA (call214 _) func214 ntmps214 λM X w=>?_;refine uO [] ?_;obtain⟨x3,fG,hm⟩:=bd hm;refine uR [0,1] [4] [vB x3] [dB (gF (decide (most<ln s))) λhg=>IZ s 0] ?_ (he:=by subst fG;kernel_rfl);refine ax ?_;subst hm;exact aI [] aR

def mh(s:ag):Bool:=lt (cond (!(s==[])) (!(xF s 64)) false) λx3=>x3
theorem Yi(s:ag):Rt 210 [vS s] (vB (mh s)):=by
 generalize hm:mh s=r;rw[mh]at hm;refine cA (call210 _) func210 ntmps210 λM X w=>?_;refine uO [] ?_;obtain⟨x3,fG,hm⟩:=bd hm;refine uR [0] [2] [vB x3] [dB (gT (!(s==[]))) λhg=>Yh s 64] ?_ (he:=by subst fG;kernel_rfl);refine ax ?_;subst hm;exact aI [] aR

def Fa(m:Nat)(s:ag):Nat→Int→List Int→Option (List Int)
 |0,_,_=>none
 |kk+1,aC,bQ=>cond (decide (aC<ln (bw s))) (Option.bind (au (0≤aC∧aC<ln (bw s))<|lt (cond (decide (65≤gi bQ aC)) (decide (gi bQ aC≤90)) false) λj6=>cond j6 (lt (o3 bQ aC (kf .or .u8 (gi bQ aC) 32)) λzE=>some zE) (some bQ)) λ(cY:List Int)=>Fa m s kk (a8 (aC+1)) cY) (some bQ)
def uh(m:Nat)(s:ag):Option ag:=Option.bind (Fa m s m 0 (bw s)) λ(cD:List Int)=>some (eT cD)
theorem J8(m)(s)(r)(hm:uh m s=some r):Rt 151 [vS s] (vS r):=by
 rw[uh]at hm;refine cA (call151 _) func151 ntmps151 λM X w=>?_;refine uO [] (az ?_);refine uB 1 [0] [6] [vS s] [] ?_;intro _ _ H4 hS;have hd:=hS.hand [] [] rfl rfl;refine tQ [7] [] H4 rfl rfl rfl rfl (EH (E:=5) H4 hd rfl (by kernel_rfl) (by kernel_rfl) (by kernel_rfl)) (λ_=>rfl) λ_ _ v H8 hq=>?_;obtain⟨b5,c6,rfl,Nb,hq⟩:=hq;replace hS:=hS.join [] [] rfl rfl hq;refine aQ H8 hS (qS 3 [3] [.slice (some ⟨b5,0,none⟩) (bw s).length c6] [] (an ?_));obtain⟨cD,hz,hm⟩:=ai hm;refine uK [] [] [] [aU.row .u8 b5 cD (ln (bw s))] ?_ ?_;replace hm:=hz;refine uR [] [8,9,10] [.slice (some ⟨b5,0,none⟩) (bw s).length c6,vI (ln (bw s)),vI 0] [] (aE ?_);refine fu [] [10] (λaC _=>[vI aC]) (λ_ bQ=>[aU.row .u8 b5 bQ (ln (bw s))]) hm (λkk aC bQ hm=>?_);rw[Fa]at hm;refine uA 11 (vB (decide (aC<ln (bw s)))) [] (aq ?_);refine uC hm ?_ ?_;intro hm;refine ah ?_;obtain⟨cY,hz,hm⟩:=ai hm;refine uK [11] [] [] [aU.row .u8 b5 cY (ln (bw s))] ?_ ?_;replace hm:=hz;refine aE ?_;obtain⟨iW,hm⟩:=bO hm;refine uR [11] [3,4,5,8,9,10] [.slice (some ⟨b5,0,none⟩) (bw s).length c6,vI aC,vU (gi bQ aC),.slice (some ⟨b5,0,none⟩) (bw s).length c6,vI (ln (bw s)),vI aC] [⟨none,λ_=>dE (some ⟨b5,0,none⟩)∧0≤aC∧aC<ln (bw s),λ_ _=>⟨rfl,iW⟩⟩,⟨some (vU (gi bQ aC)),λwz=>V.cc ⟨b5,0+aC.toNat*1,none⟩ (vU (gi bQ aC)) wz,λ_ hS=>Rw.pk (hS.rw 0 rfl) iW⟩] ?_;obtain⟨j6,rP,hm⟩:=bd hm;refine uJ [5] [] hm ?_ ?_ (he:=by subst rP;kernel_rfl);intro hm;refine dG ?_;refine uB 6 [4] [25,26] [vU (kf .or .u8 (gi bQ aC) 32),.pointer (some ⟨b5,0+aC.toNat*1,none⟩)] [⟨none,λ_=>dE (some ⟨b5,0,none⟩)∧0≤aC∧aC<ln (bw s),λ_ _=>⟨rfl,iW⟩⟩,⟨some (vU (gi bQ aC)),λwz=>V.cc ⟨b5,0+aC.toNat*1,none⟩ (vU (gi bQ aC)) wz,λ_ hS=>Rw.pk (hS.rw 0 rfl) iW⟩,⟨none,λ_=>dE (some ⟨b5,0,none⟩)∧0≤aC∧aC<ln (bw s),λ_ _=>⟨rfl,iW⟩⟩] ?_;intro _ _ oO hS;have hd:=hS.hand [0] [] rfl rfl;refine sH [3,8,9,10] (fS [3,8,9,10] [.slice (some ⟨b5,0,none⟩) (bw s).length c6,.slice (some ⟨b5,0,none⟩) (bw s).length c6,vI (ln (bw s)),vI aC]) oO rfl rfl rfl (BC oO hd rfl rfl (by kernel_rfl) iW) rfl λ_ _ pZ hq=>?_;obtain⟨_,hq⟩:=hq;obtain⟨zE,J9,hm⟩:=bd hm;rw[←J9]at hq;replace hS:=hS.join [0] [] rfl rfl hq;refine aQ pZ hS (an ?_);cases hm;exact te;intro hm;refine ah ?_;cases hm;exact te;exact fb [] hm;intro hm;refine bt ?_;cases hm;exact te;intro _ _ H hS;refine Bu [vS (eT cD)] [2] [(2,[],vS (eT cD))] [λwz=>∀w',Below wz.heap.size wz w'→(convert 91 9 (.slice (some ⟨b5,0,none⟩) (bw s).length c6)).run prog w'=.ok (vS (eT cD)) w'] H (by kernel_rfl) ⟨I9 (E:=5) (by kernel_rfl) (by kernel_rfl) (by kernel_rfl) (hS.rw 0 rfl).1 (hS.rw 0 rfl).2,trivial⟩ λ_ _ ui hb=>?_;replace hS:=hS.below hb;replace hS:SH M _ w [] _:=hS.aY [] rfl;refine aQ ui hS (ax ?_);cases hm;exact aI [] aR

def Fb(m:Nat)(s:ag):Option Bool:=Option.bind (cond (mh s) (uh m s) (some default)) λy3=>some (cond (mh s) (y3==s) false)
theorem Yj(m)(s)(r)(hm:Fb m s=some r):Rt 184 [vS s] (vB r):=by
 rw[Fb]at hm;refine cA (call184 _) func184 ntmps184 λM X w=>?_;refine uO [] ?_;obtain⟨y3,cC,hm⟩:=ai hm;cases hm;exact uZ [] [kc (Yi s),dB (gT (mh s)) λhg=>J8 m _ _ (bT (hg.1) cC)]

def xG(x_:dw):Bool×Bool:=lt (cond (x_.a7==9) (x_.a7==9) (x_.a7==10)) λ(z8:Bool)=>cond z8 ((x_.Of,false)) (lt (cond (x_.a7==11) (x_.a7==11) (x_.a7==12)) λ(dx:Bool)=>cond dx ((true,true)) (lt (cond (x_.a7==13) (x_.a7==13) (x_.a7==14)) λ(z24:Bool)=>cond z24 ((true,false)) ((false,true))))
theorem a5G{cH:Gh}(x_:dw)(w)(hL:Rd [eI bx x_.J cH] w):Rb 211 [.agg ⟨e2 x_ (gL [cH])⟩] (vW [vB (xG x_).1,vB (xG x_).2]) w:=by
 generalize hm:xG x_=r;rw[xG]at hm;refine c7 hL (call211 _) func211 ntmps211 λM X w=>(az ?_);refine uM [] [0] [0] (oB (e2 x_ (gL [cH])) rfl) λb1=>?_;refine uP 3 [] (an (aq ?_));refine uA 5 (vU x_.a7) [kb 0 0] (aE ?_);obtain⟨z8,hz,hm⟩:=bd hm;refine uK [] [6] [vB z8] [eB b1 (e2 x_ (gL [cH])),eI bx x_.J cH] ?_ ?_;replace hm:=hz.symm;refine uA 6 (vB (x_.a7==9)) [] ?_;refine uC hm ?_ ?_;intro hm;refine ah ?_;subst hm;exact te;intro hm;refine uV 6 (vB (x_.a7==10)) [] ?_;subst hm;exact te;refine lF (λhc=>?c38) (λhc=>?_)
 case c38=>
  replace hm:=bT hc hm;refine uR [1,5,6] [2,3] [vB x_.Of,vF] [kb 0 7] (al [] (ax ?_));subst hm;exact aI [] dy
 replace hm:=bF hc hm;obtain⟨dx,hz,hm⟩:=bd hm;refine uK [1,6] [11] [vB dx] [eB b1 (e2 x_ (gL [cH])),eI bx x_.J cH] ?_ ?_;replace hm:=hz.symm;refine uR [1,6] [11] [vB (x_.a7==11)] [] ?_;refine uC hm ?_ ?_;intro hm;refine ah ?_;subst hm;exact te;intro hm;refine uV 11 (vB (x_.a7==12)) [] ?_;subst hm;exact te;refine al [] (uC hm ?_ ?_);intro hm;refine uR [5,11] [2,3] [vT,vT] [] (ax ?_);subst hm;exact aI [] dy;intro hm;obtain⟨z24,hz,hm⟩:=bd hm;refine uK [5,11] [14] [vB z24] [] ?_ ?_;replace hm:=hz.symm;refine uR [11] [14] [vB (x_.a7==13)] [] ?_;refine uC hm ?_ ?_;intro hm;refine ah ?_;subst hm;exact te;intro hm;refine uW [5] [14] [vB (x_.a7==14)] [] ?_;subst hm;exact te;refine uC hm ?_ ?_;intro hm;refine uR [14] [2,3] [vT,vF] [] (ax ?_);subst hm;exact aI [] dy;intro hm;refine ah (uR [14] [2,3] [vF,vT] [] (ax ?_));subst hm;exact aI [] dy

def zF(p:j7)(db:Int):j7×Bool:=lt (cond (p.cZ==3) true (cond p.has (db==14) false)) λfm=>cond fm ((j7.mk 0 false,false)) ((j7.mk (a8 (p.cZ+1)) (cond p.has true (db==14)),true))
theorem a5H(p:j7)(db:Int):Rt 212 [vG [vI p.cZ,vB p.has],vU db] (vW [vG [vI (zF p db).1.cZ,vB (zF p db).1.has],vB (zF p db).2]):=by
 generalize hm:zF p db=r;rw[zF]at hm;refine cA (call212 _) func212 ntmps212 λM X w=>(az ?_);refine uM [] [] [0] (oB [vI p.cZ,vB p.has] rfl) λb1=>?_;refine uM [] [0] [] (oA [vI 0,vF]) λb4=>?_;refine uP 3 [] (an ?_);refine uR [1] [6] [vB (db==14)] [] (aq ?_);obtain⟨fm,mi,hm⟩:=bd hm;refine uI [kb 1 0,aV (gF (p.cZ==3)) 1 1] hm ?_ ?_ (he:=by subst mi;kernel_rfl);intro hm;refine az (uB 1 [2,6] [19] [vG [vI 0,vF]] [] ?_);refine uL [0] [1] [19] (oS [vI 0,vF] rfl rfl) ?_;refine uB 3 [] [5] [vF] [] (an (al [0] (ax ?_)));subst hm;exact aI [] (dY 0 underlying142);intro hm;refine ah (az (uB 9 [2,6] [28] [vG [vI (a8 (p.cZ+1)),vB (cond p.has true (db==14))]] [kb 1 0,kb 1 1] ?_));refine uL [0] [1] [28] (oS [vI (a8 (p.cZ+1)),vB (cond p.has true (db==14))] rfl rfl) ?_;refine uB 11 [] [5] [vT] [] (an (al [0] (ax ?_)));subst hm;exact aI [] (dY 0 underlying142)

def zG(n_:Int):Bool:=lt (cond (decide ((-1000000000)≤n_)) (decide (n_≤1000000000)) false) λx3=>x3
theorem Yk(n_:Int):Rt 234 [vI n_] (vB (zG n_)):=by
 generalize hm:zG n_=r;rw[zG]at hm;refine cA (call234 _) func234 ntmps234 λM X w=>?_;refine uO [] ?_;obtain⟨x3,fG,hm⟩:=bd hm;refine uR [0] [2] [vB x3] [] ?_ (he:=by subst fG;kernel_rfl);refine ax ?_;subst hm;exact aI [] aR

def Fc(a_:sK):Int:=lt (cond (!(zG a_.A)) true (!(zG a_.B))) λx6=>cond x6 (8) (0)
theorem a5I(a_:sK):Rt 215 [vG [vI a_.A,vI a_.B]] (vI (Fc a_)):=by
 generalize hm:Fc a_=r;rw[Fc]at hm;refine cA (call215 _) func215 ntmps215 λM X w=>(az ?_);refine uM [] [] [0] (oB [vI a_.A,vI a_.B] rfl) λb1=>?_;refine uP 2 [] (an (aq ?_));obtain⟨x6,iC,hm⟩:=bd hm;refine uR [1] [12] [vB x6] [kb 0 0,kc (Yk a_.A),aV (gF (!(zG a_.A))) 0 1,dB (gF (!(zG a_.A))) λhg=>Yk a_.B] ?_ (he:=by subst iC;kernel_rfl);refine al [] (uC hm ?_ ?_);intro hm;refine uR [12] [2] [vI 8] [] (ax ?_);subst hm;exact aI [] aR;intro hm;refine ah (uR [12] [2] [vI 0] [] (ax ?_));subst hm;exact aI [] aR

def xH(cX:bo→j7→Bool→Option Bool):Prop:=∀(af:Gh)(aa:Gh)(M:Av)(c_:bo)(p:j7)(jd:Bool)(r:Bool),cX c_ p jd=some r→∀w,S0 M [eI jI c_.aL af,eI (tI .u8) c_.dv aa] w→Calls prog 99 ⟨[.agg ⟨e0 c_ (gL [af,aa])⟩,vG [vI p.cZ,vB p.has],vB jd]⟩ w (λe w'=>∃v,e=.returned v∧v=vB r∧SH M (aH [eI jI c_.aL af,eI (tI .u8) c_.dv aa]) w [] w')
def Nc(m:Nat)(fc:bo→j7→Bool→Option Bool)(c_:bo)(rU:Int)(rV:Bool)(Nd:Int)(RJ:ag)(RL:Int)(RM:ag)(RN:Bool)(RO:Int)(RP:Int)(RQ:Bool)(Nf:List bo):Option Bool:=Option.bind (fc c_ (j7.mk rU rV) (Nd==14)) λy6=>some (!y6)
theorem a5J{af aa:Gh}{gf:Nat}{qZ:Nat}{RR:Gh}(m)(fc)(q9:xH fc)(c_)(rU)(rV)(Nd)(RJ)(RL)(RM)(RN)(RO)(RP)(RQ)(Nf)(r)(hm:Nc m fc c_ rU rV Nd RJ RL RM RN RO RP RQ Nf=some r)(w)(hL:Rd [eI jI c_.aL af,eI (tI .u8) c_.dv aa,aU.ro gf [vI rU,vB rV],aU.ro qZ [vU Nd,vS RJ,vU RL,vS RM,vB RN,vI RO,vI RP,vB RQ,vL RR Nf],eI bx Nf RR] w):Rb 213 [.agg ⟨e0 c_ (gL [af,aa])⟩,vP gf,vP qZ] (vB r) w:=by
 rw[Nc]at hm;refine c7 hL (call213 _) func213 ntmps213 λM X w=>(az ?_);refine uM [] [0,1,2,3,4] [0] (oB (e0 c_ (gL [af,aa])) rfl) λb1=>?_;refine uP 2 [] (an ?_);obtain⟨y6,eW,hm⟩:=ai hm;refine uR [1,2,3] [4] [vB (!y6)] [kE 0 3,⟨some (vG [vI rU,vB rV]),rN gf 0 [vI rU,vB rV],λ_ hS=>(hS.ro 3 rfl).cM rfl⟩,ko 4 0,kr λ_ hS=>dF (aw (aw aS (hS.im 2 rfl)) (hS.im 1 rfl)) (call99 _) (λw' h'=>q9 af aa F0 _ _ _ _ eW w' h')] (al [] (ax ?_));cases hm;exact aI [] aR
def Fe(m:Nat)(fc:bo→j7→Bool→Option Bool)(s:List bo)(je:Int)(jg:Bool)(r3:Int)(r4:ag)(r5:Int)(r6:ag)(r7:Bool)(r8:Int)(r9:Int)(ra:Bool)(oa:List bo):Nat→Int→Option (Sum Int Unit)
 |0,_=>none
 |kk+1,v6=>cond (decide (v6<ln s)) (au (0≤v6∧v6<ln s)<|Option.bind (Nc m fc (gi s v6) je jg r3 r4 r5 r6 r7 r8 r9 ra oa) λdD=>cond dD (some (.inl v6)) (Fe m fc s je jg r3 r4 r5 r6 r7 r8 r9 ra oa kk (a8 (v6+1)))) (some (.inr ()))
def Ng(m:Nat)(fc:bo→j7→Bool→Option Bool)(s:List bo)(je:Int)(jg:Bool)(r3:Int)(r4:ag)(r5:Int)(r6:ag)(r7:Bool)(r8:Int)(r9:Int)(ra:Bool)(oa:List bo):Option Int:=Option.bind (Fe m fc s je jg r3 r4 r5 r6 r7 r8 r9 ra oa m 0) λ(z3:Sum Int Unit)=>bK z3 λcO=>some (-1)
theorem a5K{bi:Gh}{j8:Nat}{uj:Nat}{rW:Gh}(m)(fc)(q9:xH fc)(s)(je)(jg)(r3)(r4)(r5)(r6)(r7)(r8)(r9)(ra)(oa)(r)(hm:Ng m fc s je jg r3 r4 r5 r6 r7 r8 r9 ra oa=some r)(w)(hL:Rd [eI bx s bi,aU.ro j8 [vI je,vB jg],aU.ro uj [vU r3,vS r4,vU r5,vS r6,vB r7,vI r8,vI r9,vB ra,vL rW oa],eI bx oa rW] w):Rb 145 [vL bi s,.func (.func 213) ⟨[]⟩ ⟨[vP j8,vP uj]⟩] (vI r) w:=by
 rw[Ng]at hm;refine c7 hL (call145 _) func145 ntmps145 λM X w=>?_;refine uO [] ?_;obtain⟨z3,hz,dJ⟩:=ai hm;intro _ _ H2 hS;refine df (λa' w'=>∃cO:Unit,z3=Sum.inr cO∧Fr 19 [] a'∧SH M X w [eI bx s bi,aU.ro j8 [vI je,vB jg],aU.ro uj [vU r3,vS r4,vU r5,vS r6,vB r7,vI r8,vI r9,vB ra,vL rW oa],eI bx oa rW] w') ?_ ?_;replace hm:=hz;refine aQ H2 hS (uR [] [7,8] [vI (ln s),vI 0] [] (aE ?_));refine dH [] [8] (λv6=>[vI v6]) (λ_=>[eI bx s bi,aU.ro j8 [vI je,vB jg],aU.ro uj [vU r3,vS r4,vU r5,vS r6,vB r7,vI r8,vI r9,vB ra,vL rW oa],eI bx oa rW]) hm (λkk v6 hm=>?_);rw[Fe]at hm;refine uA 9 (vB (decide (v6<ln s))) [] (aq ?_);refine uC hm ?_ ?_;intro hm;refine ah (aq (aE (uR [9] [5] [vI v6] [] ?_)));obtain⟨ef,dD,iU,hm⟩:=fU hm;refine uI [ki 0 ef,⟨some (.agg ⟨e0 (gi s v6) (bi.s v6.toNat)⟩),λwz=>V.bn (ab bi.a) (ao bi.a+v6.toNat*3) (e0 (gi s v6) (bi.s v6.toNat)) 0 wz,λ_ hS=>(hS.im 0 rfl).cS ef 0 rfl⟩,kr λ_ hS=>a5J (af:=bi.s v6.toNat 0) (aa:=bi.s v6.toNat 1) (gf:=j8) (qZ:=uj) (RR:=rW) m _ q9 _ _ _ _ _ _ _ _ _ _ _ _ _ iU _ (aw (aw (np (np (aw aS (hS.im 3 rfl)) (hS.ro 2 rfl)) (hS.ro 1 rfl)) (N2 ((hS.im 0 rfl).el ef))) (fM ((hS.im 0 rfl).el ef)))] hm ?_ ?_;intro hm;cases hm;have hm:=dJ;cases hm;exact uZ [] [];intro hm;exact ah (dI [] hm);intro hm;refine bt ?_;cases hm;exact λ_ _ H8 hS=>⟨_,rfl,aD.bc (ks:=[]) H8 (by kernel_rfl),hS⟩;rintro _ _ ⟨cO,hz,H,hS⟩;subst hz;replace hm:=cG dJ;replace hS:SH M _ w [] _:=hS.aY [] rfl;refine aQ H hS ?_;cases hm;exact uZ [] []
def Ff(m:Nat)(fc:bo→j7→Bool→Option Bool)(s:List bo)(je:Int)(jg:Bool)(r3:Int)(r4:ag)(r5:Int)(r6:ag)(r7:Bool)(r8:Int)(r9:Int)(ra:Bool)(oa:List bo):Option Bool:=Option.bind (Ng m fc s je jg r3 r4 r5 r6 r7 r8 r9 ra oa) λy3=>some (decide (0≤y3))
theorem a5L{bi:Gh}{j8:Nat}{uj:Nat}{rW:Gh}(m)(fc)(q9:xH fc)(s)(je)(jg)(r3)(r4)(r5)(r6)(r7)(r8)(r9)(ra)(oa)(r)(hm:Ff m fc s je jg r3 r4 r5 r6 r7 r8 r9 ra oa=some r)(w)(hL:Rd [eI bx s bi,aU.ro j8 [vI je,vB jg],aU.ro uj [vU r3,vS r4,vU r5,vS r6,vB r7,vI r8,vI r9,vB ra,vL rW oa],eI bx oa rW] w):Rb 97 [vL bi s,.func (.func 213) ⟨[]⟩ ⟨[vP j8,vP uj]⟩] (vB r) w:=by
 rw[Ff]at hm;refine c7 hL (call97 _) func97 ntmps97 λM X w=>?_;refine uO [] ?_;obtain⟨y3,cC,hm⟩:=ai hm;refine uR [0,1] [4] [vB (decide (0≤y3))] [kr λ_ hS=>a5K (bi:=bi) (j8:=j8) (uj:=uj) (rW:=rW) m _ q9 _ _ _ _ _ _ _ _ _ _ _ _ _ cC _ (aw (np (np (aw aS (hS.im 3 rfl)) (hS.ro 2 rfl)) (hS.ro 1 rfl)) (hS.im 0 rfl))] (al [] (ax ?_));cases hm;exact aI [] aR
def xI(m:Nat)(fc:bo→j7→Bool→Option Bool)(x_:dw)(p:j7):Option Bool:=lt (xG x_) λy9=>Option.bind (cond y9.1 (lt (zF p x_.a7) λdC=>lt (cond (!dC.2) true (cond (!y9.2) (ln x_.J==0) false)) λlq=>Option.bind (cond lq (some default) (Ff m fc x_.J dC.1.cZ dC.1.has x_.a7 x_.aO x_.Op x_.Value x_.lY x_.dp.A x_.dp.B x_.Of x_.J)) λlN=>cond (cond lq true lN) (some (.inl false)) (some (.inr ()))) (cond (decide (0<ln x_.J)) (some (.inl false)) (some (.inr ())))) λ(z12:Sum Bool Unit)=>bK z12 λRS=>lt (cond (!(x_.a7==3)) (cond (cond (x_.Op !=0) true (!(x_.Value==[]))) true x_.lY) false) λjh=>lt (cond jh true (cond (!(cond (x_.a7==9) true (x_.a7==10))) (cond x_.Of true (!(x_.dp.A==0&&(x_.dp.B==0&&true)))) false)) λfC=>cond fC (some false) (Option.bind (cond (x_.a7==1) (some (x_.a7==1)) (some (x_.a7==2))) λ(qa:Bool)=>cond qa (some (mh x_.aO)) (cond (x_.a7==3) (Option.bind (Fb m x_.aO) λJa=>lt (cond (cond Ja (decide (x_.Op≤6)) false) (!(xF x_.Value 400)) false) λoQ=>lt (cond oQ (cond (x_.Op !=0) true (cond (x_.Value==[]) (!x_.lY) false)) false) λvx=>some vx) (lt (cond (x_.aO==[]) (decide (4≤x_.a7)) false) λuk=>lt (cond (cond uk (decide (x_.a7≤14)) false) (cond (!(cond (x_.a7==9) true (x_.a7==10))) true (Fc x_.dp==0)) false) λpu=>some pu)))
theorem a5M{cH:Gh}(m)(fc)(q9:xH fc)(x_)(p)(r)(hm:xI m fc x_ p=some r)(w)(hL:Rd [eI bx x_.J cH] w):Rb 185 [.agg ⟨e2 x_ (gL [cH])⟩,vG [vI p.cZ,vB p.has]] (vB r) w:=by
 rw[xI]at hm;refine c7 hL (call185 _) func185 ntmps185 λM X w=>(az ?_);refine uM [] [0] [0] (oB (e2 x_ (gL [cH])) rfl) λb1=>?_;refine uM [] [0,1] [1] (oB [vI p.cZ,vB p.has] rfl) λb4=>?_;refine uP 3 [] (an ?_);obtain⟨y9,jv,hm⟩:=bd hm;refine uR [] [5,6] [vB y9.1,vB y9.2] [kE 1 9,⟨some (vW [vB y9.1,vB y9.2]),rB 211 [.agg ⟨e2 x_ (gL [cH])⟩] (vW [vB y9.1,vB y9.2]),λ_ hS=>(by rw[jv];exact a5G (cH:=cH) x_ _ (aw aS (hS.im 2 rfl)))⟩] ?_ (he:=by subst jv;kernel_rfl);obtain⟨z12,hz,RT⟩:=ai hm;intro _ _ xJ hS;refine df (λa' w'=>∃RS:Unit,z12=Sum.inr RS∧Fr 149 [(2,[],vP b1)] a'∧SH M X w [eB b4 [vI p.cZ,vB p.has],eB b1 (e2 x_ (gL [cH])),eI bx x_.J cH] w') ?_ ?_;replace hm:=hz;refine aQ xJ hS (uR [5] [16] [vB y9.1] [] ?_);refine uC hm ?_ ?_;intro hm;refine az ?_;obtain⟨dC,lI,hm⟩:=bd hm;refine uB 7 [3,16] [22,23] [vG [vI dC.1.cZ,vB dC.1.has],vB dC.2] [kE 0 2,kb 1 0,⟨some (vW [vG [vI dC.1.cZ,vB dC.1.has],vB dC.2]),rB 212 [vG [vI p.cZ,vB p.has],vU x_.a7] (vW [vG [vI dC.1.cZ,vB dC.1.has],vB dC.2]),λ_ _=>(by rw[lI];exact(a5H p x_.a7).b)⟩] ?_ (he:=by subst lI;kernel_rfl);refine eP [] [0,1,2] [2,6,22,23] [vP b1,vB y9.2,vG [vI dC.1.cZ,vB dC.1.has],vB dC.2] (oA [vI 0,vF]) λIU=>?_;refine uL [0] [1,2,3] [22] (oS [vI dC.1.cZ,vB dC.1.has] rfl rfl) ?_;refine uB 10 [23] [8] [vB dC.2] [] (an ?_);obtain⟨lq,xK,lN,C9,hm⟩:=lH hm;refine uR [6,7,8] [41] [vB (cond lq true lN)] [aV ((!y9.2)=true∧(!dC.2)=false∧True) 2 8,aV (gF lq) 2 8,eo (gF lq) λ_ hS hg=>a5L (bi:=cH) (j8:=IU) (uj:=b1) (rW:=cH) m _ q9 _ _ _ _ _ _ _ _ _ _ _ _ _ (bF (hg.1) C9) _ (aw (np (np (aw aS (hS.im 3 rfl)) (hS.bk 2 rfl)) (hS.bk 0 rfl)) (hS.im 3 rfl))] ?_ (he:=by subst xK;kernel_rfl);refine al [1,2,3] ?_;refine uC hm ?_ ?_;intro hm;cases hm;have hm:=RT;cases hm;exact uZ [] [];intro hm;refine ah ?_;cases hm;exact λ_ _ pZ hS=>⟨_,rfl,aD.bc (ks:=[2]) pZ (by kernel_rfl),hS⟩;intro hm;refine uJ [3,6,16] [kb 1 8] hm ?_ ?_;intro hm;cases hm;have hm:=RT;cases hm;exact uZ [] [];intro hm;refine ah ?_;cases hm;exact λ_ _ rX hS=>⟨_,rfl,aD.bc (ks:=[2]) rX (by kernel_rfl),hS⟩;rintro _ _ ⟨RS,hz,H,hS⟩;subst hz;replace hm:=cG RT;replace hS:=hS.aY [1,2] rfl;refine aQ H hS (uA 9 (vB (x_.a7==3)) [kb 0 0] ?_);refine uA 10 (vB (cond (x_.a7==9) true (x_.a7==10))) [kb 0 0,aV (gF (x_.a7==9)) 0 0] (aq ?_);obtain⟨jh,xL,fC,pV,hm⟩:=cU hm;refine uR [9] [86] [vB fC] [aV (gT (!(x_.a7==3))) 0 2,aV ((x_.Op !=0)=false∧(!(x_.a7==3))=true∧True) 0 3,aV (cond (x_.Op !=0) true (!(x_.Value==[]))=false∧(!(x_.a7==3))=true∧True) 0 4,aV ((!(cond (x_.a7==9) true (x_.a7==10)))=true∧jh=false∧True) 0 7,⟨some (vG [vI x_.dp.A,vI x_.dp.B]),λwz=>x_.Of=false∧(!(cond (x_.a7==9) true (x_.a7==10)))=true∧jh=false∧True→V.bn b1 5 [vI x_.dp.A,vI x_.dp.B] 0 wz,λ_ hS=>λhg=>(hS.bk 0 rfl).cM rfl⟩] ?_ (he:=by subst xL pV;kernel_rfl);refine uC hm ?_ ?_;intro hm;refine uR [2,10,86] [4] [vF] [] (al [] (ax ?_));cases hm;exact aI [] aR;intro hm;refine ah (aq (uR [86] [88] [vU x_.a7] [kb 0 0] (aE ?_)));obtain⟨qa,hz,hm⟩:=ai hm;refine uK [] [89] [vB qa] [eB b1 (e2 x_ (gL [cH])),eI bx x_.J cH] ?_ ?_;replace hm:=hz;refine uA 89 (vB (x_.a7==1)) [] ?_;refine uC hm ?_ ?_;intro hm;refine ah ?_;cases hm;exact te;intro hm;refine uW [] [2,10,88,89] [vP b1,vB (cond (x_.a7==9) true (x_.a7==10)),vU x_.a7,vB (x_.a7==2)] [] ?_;cases hm;exact te;refine lF (λhc=>?c70) (λhc=>?_)
 case c70=>
  replace hm:=bT hc hm;refine uR [2,10,88,89] [4] [vB (mh x_.aO)] [kb 0 1,kc (Yi x_.aO)] (al [] (ax ?_));cases hm;exact aI [] aR
 replace hm:=bF hc hm;refine uJ [88,89] [] hm ?_ ?_;intro hm;obtain⟨Ja,a5N,oQ,Ca,hm⟩:=gK hm;obtain⟨vx,J5,hm⟩:=bd hm;refine uR [2,10] [4] [vB vx] [kb 0 1,kc (Yj m _ _ a5N),aV (gT Ja) 0 2,aV (gT (cond Ja (decide (x_.Op≤6)) false)) 0 3,dB (gT (cond Ja (decide (x_.Op≤6)) false)) λhg=>Yh x_.Value 400,aV (gT oQ) 0 2,aV ((x_.Op !=0)=false∧oQ=true∧True) 0 3,aV ((x_.Value==[])=true∧(x_.Op !=0)=false∧oQ=true∧True) 0 4] ?_ (he:=by subst Ca J5;kernel_rfl);refine al [] (ax ?_);cases hm;exact aI [] aR;intro hm;refine ah ?_;obtain⟨uk,Jb,pu,C7,hm⟩:=cU hm;refine uR [2,10] [4] [vB pu] [kb 0 1,aV (gT (x_.aO==[])) 0 0,aV (gT uk) 0 0,⟨some (vG [vI x_.dp.A,vI x_.dp.B]),λwz=>(!(cond (x_.a7==9) true (x_.a7==10)))=false∧cond uk (decide (x_.a7≤14)) false=true∧True→V.bn b1 5 [vI x_.dp.A,vI x_.dp.B] 0 wz,λ_ hS=>λhg=>(hS.bk 0 rfl).cM rfl⟩,dB ((!(cond (x_.a7==9) true (x_.a7==10)))=false∧cond uk (decide (x_.a7≤14)) false=true∧True) λhg=>a5I x_.dp] ?_ (he:=by subst Jb C7;kernel_rfl);refine al [] (ax ?_);cases hm;exact aI [] aR
def Cb(m:Nat)(fc:bo→j7→Bool→Option Bool)(c_:dU)(p:j7):Nat→Int→Option (Sum Bool Unit)
 |0,_=>none
 |kk+1,bH=>cond (decide (bH<ln c_.aX)) (au (0≤bH∧bH<ln c_.aX)<|Option.bind (xI m fc (gi c_.aX bH) p) λcV=>cond (!cV) (some (.inl false)) (Cb m fc c_ p kk (a8 (bH+1)))) (some (.inr ()))
def xM(m:Nat)(fc:bo→j7→Bool→Option Bool)(c_:dU)(p:j7):Option Bool:=lt (cond (!(c_.Tag==[])) (!(c_.Tag==[42])) false) λx9=>Option.bind (cond x9 (Fb m c_.Tag) (some default)) λcL=>lt (cond (cond x9 (!cL) false) true (decide (64<ln c_.aX))) λfm=>cond fm (some false) (Option.bind (Cb m fc c_ p m 0) λ(dx:Sum Bool Unit)=>bK dx λkv=>lt (cond (!(c_.Tag==[])) true (decide (0<ln c_.aX))) λkV=>some kV)
theorem a5O{af:Gh}(m)(fc)(q9:xH fc)(c_)(p)(r)(hm:xM m fc c_ p=some r)(w)(hL:Rd [eI rM c_.aX af] w):Rb 148 [vG [vS c_.Tag,vL af c_.aX],vG [vI p.cZ,vB p.has]] (vB r) w:=by
 rw[xM]at hm;refine c7 hL (call148 _) func148 ntmps148 λM X w=>(az ?_);refine uM [] [0] [0] (oB [vS c_.Tag,vL af c_.aX] rfl) λb1=>?_;refine uM [] [0,1] [1] (oB [vI p.cZ,vB p.has] rfl) λb4=>?_;refine uP 3 [] (an (aq ?_));obtain⟨x9,lr,cL,iX,hm⟩:=lH hm;obtain⟨fm,mi,hm⟩:=bd hm;refine uI [kb 1 0,aV (gT (!(c_.Tag==[]))) 1 0,aV (gT x9) 1 0,dB (gT x9) λhg=>Yj m _ _ (bT (hg.1) iX),aV (gF (cond x9 (!cL) false)) 1 1] hm ?_ ?_ (he:=by subst lr mi;kernel_rfl);intro hm;refine uR [2,3] [4] [vF] [] (al [] (ax ?_));cases hm;exact aI [] aR;intro hm;refine ah ?_;obtain⟨dx,hz,sS⟩:=ai hm;intro _ _ qW hS;refine df (λa' w'=>∃kv:Unit,dx=Sum.inr kv∧Fr 48 [(2,[],vP b1)] a'∧SH M X w [eB b4 [vI p.cZ,vB p.has],eB b1 [vS c_.Tag,vL af c_.aX],eI rM c_.aX af] w') ?_ ?_;replace hm:=hz;refine aQ qW hS (uR [] [28,29,30] [vL af c_.aX,vI (ln c_.aX),vI 0] [kb 1 1] (aE ?_));refine dH [] [30] (λbH=>[vI bH]) (λ_=>[eB b4 [vI p.cZ,vB p.has],eB b1 [vS c_.Tag,vL af c_.aX],eI rM c_.aX af]) hm (λkk bH hm=>?_);rw[Cb]at hm;refine uA 31 (vB (decide (bH<ln c_.aX))) [] (aq ?_);refine uC hm ?_ ?_;intro hm;refine ah (aq (aE (az ?_)));obtain⟨iY,hm⟩:=bO hm;refine uB 2 [31] [2,3,28,29,30,33] [vP b1,vP b4,vL af c_.aX,vI (ln c_.aX),vI bH,.agg ⟨e2 (gi c_.aX bH) (af.s bH.toNat)⟩] [ki 2 iY,⟨some (.agg ⟨e2 (gi c_.aX bH) (af.s bH.toNat)⟩),λwz=>V.bn (ab af.a) (ao af.a+bH.toNat*9) (e2 (gi c_.aX bH) (af.s bH.toNat)) 0 wz,λ_ hS=>(hS.im 2 rfl).cS iY 0 rfl⟩] ?_;refine uM [] [0,1,2] [] (oA [vU 0,vN,vU 0,vN,vF,vI 0,vI 0,vF,vO]) λb25=>?_;refine uL [0] [1,2,3] [33] (oS (e2 (gi c_.aX bH) (af.s bH.toNat)) rfl rfl) (an ?_);obtain⟨cV,pv,hm⟩:=ai hm;refine uR [6] [37] [vB (!cV)] [kE 0 9,kE 1 2,kr λ_ hS=>a5M (cH:=af.s bH.toNat 0) m _ q9 _ _ _ pv _ (aw aS (zo ((hS.im 3 rfl).el iY)))] (al [1,2,3] ?_);refine uC hm ?_ ?_;intro hm;cases hm;have hm:=sS;cases hm;exact uZ [] [];intro hm;exact ah (dI [] hm);intro hm;refine bt ?_;cases hm;exact λ_ _ rb hS=>⟨_,rfl,aD.bc (ks:=[2]) rb (by kernel_rfl),hS⟩;rintro _ _ ⟨kv,hz,H,hS⟩;subst hz;replace hm:=cG sS;replace hS:=hS.aY [1,2] rfl;obtain⟨kV,rQ,hm⟩:=bd hm;refine aQ H hS (uR [2] [4] [vB kV] [kb 0 0,aV (gF (!(c_.Tag==[]))) 0 1] ?_ (he:=by subst rQ;kernel_rfl));refine al [] (ax ?_);cases hm;exact aI [] aR
def Nh(m:Nat)(fc:bo→j7→Bool→Option Bool)(x_:dU)(rU:Int)(rV:Bool):Option Bool:=Option.bind (xM m fc x_ (j7.mk rU rV)) λy6=>some (!y6)
theorem a5P{cH:Gh}{gf:Nat}(m)(fc)(q9:xH fc)(x_)(rU)(rV)(r)(hm:Nh m fc x_ rU rV=some r)(w)(hL:Rd [eI rM x_.aX cH,aU.ro gf [vI rU,vB rV]] w):Rb 147 [vG [vS x_.Tag,vL cH x_.aX],vP gf] (vB r) w:=by
 rw[Nh]at hm;refine c7 hL (call147 _) func147 ntmps147 λM X w=>(az ?_);refine uM [] [0,1] [0] (oB [vS x_.Tag,vL cH x_.aX] rfl) λb1=>?_;refine uP 2 [] (an ?_);obtain⟨y6,eW,hm⟩:=ai hm;refine uR [1,2] [3] [vB (!y6)] [kE 0 2,⟨some (vG [vI rU,vB rV]),rN gf 0 [vI rU,vB rV],λ_ hS=>(hS.ro 2 rfl).cM rfl⟩,kr λ_ hS=>a5O (af:=cH) m _ q9 _ _ _ eW _ (aw aS (hS.im 1 rfl))] (al [] (ax ?_));cases hm;exact aI [] aR
def Fg(m:Nat)(fc:bo→j7→Bool→Option Bool)(s:List dU)(je:Int)(jg:Bool):Nat→Int→Option (Sum Int Unit)
 |0,_=>none
 |kk+1,v6=>cond (decide (v6<ln s)) (au (0≤v6∧v6<ln s)<|Option.bind (Nh m fc (gi s v6) je jg) λdD=>cond dD (some (.inl v6)) (Fg m fc s je jg kk (a8 (v6+1)))) (some (.inr ()))
def Ni(m:Nat)(fc:bo→j7→Bool→Option Bool)(s:List dU)(je:Int)(jg:Bool):Option Int:=Option.bind (Fg m fc s je jg m 0) λ(z3:Sum Int Unit)=>bK z3 λcO=>some (-1)
theorem a5Q{bi:Gh}{j8:Nat}(m)(fc)(q9:xH fc)(s)(je)(jg)(r)(hm:Ni m fc s je jg=some r)(w)(hL:Rd [eI jI s bi,aU.ro j8 [vI je,vB jg]] w):Rb 183 [vL bi s,.func (.func 147) ⟨[]⟩ ⟨[vP j8]⟩] (vI r) w:=by
 rw[Ni]at hm;refine c7 hL (call183 _) func183 ntmps183 λM X w=>?_;refine uO [] ?_;obtain⟨z3,hz,dJ⟩:=ai hm;intro _ _ H2 hS;refine df (λa' w'=>∃cO:Unit,z3=Sum.inr cO∧Fr 19 [] a'∧SH M X w [eI jI s bi,aU.ro j8 [vI je,vB jg]] w') ?_ ?_;replace hm:=hz;refine aQ H2 hS (uR [] [7,8] [vI (ln s),vI 0] [] (aE ?_));refine dH [] [8] (λv6=>[vI v6]) (λ_=>[eI jI s bi,aU.ro j8 [vI je,vB jg]]) hm (λkk v6 hm=>?_);rw[Fg]at hm;refine uA 9 (vB (decide (v6<ln s))) [] (aq ?_);refine uC hm ?_ ?_;intro hm;refine ah (aq (aE (uR [9] [5] [vI v6] [] ?_)));obtain⟨ef,dD,iU,hm⟩:=fU hm;refine uI [ki 0 ef,⟨some (vG [vS (gi s v6).Tag,.slice (bi.s v6.toNat 0).a (gi s v6).aX.length (bi.s v6.toNat 0).c]),λwz=>V.bn (ab bi.a) (ao bi.a+v6.toNat*2) [vS (gi s v6).Tag,.slice (bi.s v6.toNat 0).a (gi s v6).aX.length (bi.s v6.toNat 0).c] 0 wz,λ_ hS=>(hS.im 0 rfl).cS ef 0 rfl⟩,kr λ_ hS=>a5P (cH:=bi.s v6.toNat 0) (gf:=j8) m _ q9 _ _ _ _ iU _ (aw (np aS (hS.ro 1 rfl)) (jr ((hS.im 0 rfl).el ef)))] hm ?_ ?_;intro hm;cases hm;have hm:=dJ;cases hm;exact uZ [] [];intro hm;exact ah (dI [] hm);intro hm;refine bt ?_;cases hm;exact λ_ _ H8 hS=>⟨_,rfl,aD.bc (ks:=[]) H8 (by kernel_rfl),hS⟩;rintro _ _ ⟨cO,hz,H,hS⟩;subst hz;replace hm:=cG dJ;replace hS:SH M _ w [] _:=hS.aY [] rfl;refine aQ H hS ?_;cases hm;exact uZ [] []
def Jc(m:Nat)(fc:bo→j7→Bool→Option Bool)(s:List dU)(je:Int)(jg:Bool):Option Bool:=Option.bind (Ni m fc s je jg) λy3=>some (decide (0≤y3))
theorem a5R{bi:Gh}{j8:Nat}(m)(fc)(q9:xH fc)(s)(je)(jg)(r)(hm:Jc m fc s je jg=some r)(w)(hL:Rd [eI jI s bi,aU.ro j8 [vI je,vB jg]] w):Rb 146 [vL bi s,.func (.func 147) ⟨[]⟩ ⟨[vP j8]⟩] (vB r) w:=by
 rw[Jc]at hm;refine c7 hL (call146 _) func146 ntmps146 λM X w=>?_;refine uO [] ?_;obtain⟨y3,cC,hm⟩:=ai hm;refine uR [0,1] [4] [vB (decide (0≤y3))] [kr λ_ hS=>a5Q (bi:=bi) (j8:=j8) m _ q9 _ _ _ _ cC _ (aw (np aS (hS.ro 1 rfl)) (hS.im 0 rfl))] (al [] (ax ?_));cases hm;exact aI [] aR
def Cc(m:Nat)(c_:bo):Nat→Int→Option (Sum Bool Unit)
 |0,_=>none
 |kk+1,bH=>cond (decide (bH<ln c_.dv)) (au (0≤bH∧bH<ln c_.dv)<|lt (cond (decide (gi c_.dv bH<1)) true (decide (4<gi c_.dv bH))) λlq=>cond lq (some (.inl false)) (Cc m c_ kk (a8 (bH+1)))) (some (.inr ()))
def sT(m:Nat):Nat→bo→j7→Bool→Option Bool
 |0,_,_,_=>none
 |k+1,c_,p,jd=>lt (cond (!(jd==(c_.sM !=0))) true (decide (4<c_.sM))) λx9=>lt (cond x9 true (a8 (ln c_.dv+1) !=ln c_.aL)) λgV=>lt (cond gV true (decide (64<ln c_.aL))) λfm=>cond fm (some false) (Option.bind (Cc m c_ m 0) λ(dx:Sum Bool Unit)=>bK dx λkv=>Option.bind (Jc m (sT m k) c_.aL p.cZ p.has) λlO=>some (!lO))
theorem a5S(m:Nat):∀(k:Nat),xH (sT m k):=by
 intro k
 induction k with
 |zero=>intro af aa M c_ p jd r hm;exact eJ hm
 |succ k ih=>
  intro af aa M c_ p jd r hm w hS;rw[sT]at hm;have aK:SH M (aH [eI jI c_.aL af,eI (tI .u8) c_.dv aa]) w [eI jI c_.aL af,eI (tI .u8) c_.dv aa] w:=hS;generalize hX:aH [eI jI c_.aL af,eI (tI .u8) c_.dv aa]=X at aK⊢;clear hS hX;have hS:=aK;clear aK;refine fk func99 rfl ntmps99 rfl λ_ H=>?_;refine aQ H hS (az (eP [] [0,1] [1,2] [vG [vI p.cZ,vB p.has],vB jd] (oB (e0 c_ (gL [af,aa])) rfl) λb1=>?_));refine uM [] [0,1,2] [1] (oB [vI p.cZ,vB p.has] rfl) λb4=>?_;refine uP 3 [] (an (aq ?_));obtain⟨x9,lr,gV,nx,hm⟩:=cU hm;obtain⟨fm,mi,hm⟩:=bd hm;refine uJ [2] [kb 1 0,aV (gF (!(jd==(c_.sM !=0)))) 1 0,aV (gF x9) 1 2,aV (gF x9) 1 1,aV (gF gV) 1 1] hm ?_ ?_ (he:=by subst lr nx mi;kernel_rfl);intro hm;refine uR [3,4] [6] [vF] [] (al [] (ax ?_));cases hm;exact aI [] aR;intro hm;refine ah ?_;obtain⟨dx,hz,sS⟩:=ai hm;refine uS (z:=dx) [] [] (λkv=>[]) (λkv=>[eB b4 [vI p.cZ,vB p.has],eB b1 (e0 c_ (gL [af,aa])),eI jI c_.aL af,eI (tI .u8) c_.dv aa]) ?_ ?_;replace hm:=hz;refine uR [] [36,37,38] [vL aa c_.dv,vI (ln c_.dv),vI 0] [kb 1 2] (aE ?_);refine dH [] [38] (λbH=>[vI bH]) (λ_=>[eB b4 [vI p.cZ,vB p.has],eB b1 (e0 c_ (gL [af,aa])),eI jI c_.aL af,eI (tI .u8) c_.dv aa]) hm (λkk bH hm=>?_);rw[Cc]at hm;refine uA 39 (vB (decide (bH<ln c_.dv))) [] (aq ?_);refine uC hm ?_ ?_;intro hm;refine ah (aq (aE ?_));obtain⟨iY,hm⟩:=bO hm;refine uR [39] [3,4,8,36,37,38] [vP b1,vP b4,vU (gi c_.dv bH),vL aa c_.dv,vI (ln c_.dv),vI bH] [ki 3 iY,kj 3 0 iY] ?_;obtain⟨lq,xK,hm⟩:=bd hm;refine uJ [8] [] hm ?_ ?_ (he:=by subst xK;kernel_rfl);intro hm;cases hm;have hm:=sS;cases hm;exact uZ [] [];intro hm;exact ah (dI [] hm);intro hm;refine bt ?_;cases hm;exact ts;rintro kv hz;subst hz;replace hm:=cG sS;obtain⟨lO,vD,hm⟩:=ai hm;refine uR [3,4] [6] [vB (!lO)] [kb 1 1,kr λ_ hS=>a5R (bi:=af) (j8:=b4) m _ ih _ _ _ _ vD _ (aw (np aS (hS.bk 0 rfl)) (hS.im 2 rfl))] (al [] (ax ?_));cases hm;exact aI [] aR
def Jd(m:Nat)(c_:bo)(p:j7)(jd:Bool):Option Bool:=sT m m c_ p jd
theorem a5T{af aa:Gh}(m)(c_)(p)(jd)(r)(hm:Jd m c_ p jd=some r)(w)(hL:Rd [eI jI c_.aL af,eI (tI .u8) c_.dv aa] w):Rb 99 [.agg ⟨e0 c_ (gL [af,aa])⟩,vG [vI p.cZ,vB p.has],vB jd] (vB r) w:=dF hL (call99 _) (λw' h=>a5S m m af aa F0 c_ p jd r hm w' h)

def Nj(m:Nat)(c_:bo):Option Bool:=Option.bind (Jd m c_ (j7.mk 0 false) false) λy6=>some (!y6)
theorem a5U{af aa:Gh}(m)(c_)(r)(hm:Nj m c_=some r)(w)(hL:Rd [eI jI c_.aL af,eI (tI .u8) c_.dv aa] w):Rb 98 [.agg ⟨e0 c_ (gL [af,aa])⟩] (vB r) w:=by
 rw[Nj]at hm;refine c7 hL (call98 _) func98 ntmps98 λM X w=>(az ?_);refine uM [] [0,1] [0] (oB (e0 c_ (gL [af,aa])) rfl) λb1=>?_;refine uP 2 [] (an ?_);obtain⟨y6,eW,hm⟩:=ai hm;refine uR [1] [2] [vB (!y6)] [kE 0 3,kr λ_ hS=>a5T (af:=af) (aa:=aa) m _ _ _ _ eW _ (aw (aw aS (hS.im 2 rfl)) (hS.im 1 rfl))] (al [] (ax ?_));cases hm;exact aI [] aR

def Fh(m:Nat)(s:List bo):Nat→Int→Option (Sum Int Unit)
 |0,_=>none
 |kk+1,v6=>cond (decide (v6<ln s)) (au (0≤v6∧v6<ln s)<|Option.bind (Nj m (gi s v6)) λdD=>cond dD (some (.inl v6)) (Fh m s kk (a8 (v6+1)))) (some (.inr ()))
def Nk(m:Nat)(s:List bo):Option Int:=Option.bind (Fh m s m 0) λ(z3:Sum Int Unit)=>bK z3 λcO=>some (-1)
theorem a5V{bi:Gh}(m)(s)(r)(hm:Nk m s=some r)(w)(hL:Rd [eI bx s bi] w):Rb 145 [vL bi s,.func (.func 98) ⟨[]⟩ ⟨[]⟩] (vI r) w:=by
 rw[Nk]at hm;refine c7 hL (call145 _) func145 ntmps145 λM X w=>?_;refine uO [] ?_;obtain⟨z3,hz,dJ⟩:=ai hm;intro _ _ H2 hS;refine df (λa' w'=>∃cO:Unit,z3=Sum.inr cO∧Fr 19 [] a'∧SH M X w [eI bx s bi] w') ?_ ?_;replace hm:=hz;refine aQ H2 hS (uR [] [7,8] [vI (ln s),vI 0] [] (aE ?_));refine dH [] [8] (λv6=>[vI v6]) (λ_=>[eI bx s bi]) hm (λkk v6 hm=>?_);rw[Fh]at hm;refine uA 9 (vB (decide (v6<ln s))) [] (aq ?_);refine uC hm ?_ ?_;intro hm;refine ah (aq (aE (uR [9] [5] [vI v6] [] ?_)));obtain⟨ef,dD,iU,hm⟩:=fU hm;refine uI [ki 0 ef,⟨some (.agg ⟨e0 (gi s v6) (bi.s v6.toNat)⟩),λwz=>V.bn (ab bi.a) (ao bi.a+v6.toNat*3) (e0 (gi s v6) (bi.s v6.toNat)) 0 wz,λ_ hS=>(hS.im 0 rfl).cS ef 0 rfl⟩,kr λ_ hS=>a5U (af:=bi.s v6.toNat 0) (aa:=bi.s v6.toNat 1) m _ _ iU _ (aw (aw aS (N2 ((hS.im 0 rfl).el ef))) (fM ((hS.im 0 rfl).el ef)))] hm ?_ ?_;intro hm;cases hm;have hm:=dJ;cases hm;exact uZ [] [];intro hm;exact ah (dI [] hm);intro hm;refine bt ?_;cases hm;exact λ_ _ H8 hS=>⟨_,rfl,aD.bc (ks:=[]) H8 (by kernel_rfl),hS⟩;rintro _ _ ⟨cO,hz,H,hS⟩;subst hz;replace hm:=cG dJ;replace hS:SH M _ w [] _:=hS.aY [] rfl;refine aQ H hS ?_;cases hm;exact uZ [] []

def Je(m:Nat)(s:List bo):Option Bool:=Option.bind (Nk m s) λy3=>some (decide (0≤y3))
theorem a5W{bi:Gh}(m)(s)(r)(hm:Je m s=some r)(w)(hL:Rd [eI bx s bi] w):Rb 97 [vL bi s,.func (.func 98) ⟨[]⟩ ⟨[]⟩] (vB r) w:=by
 rw[Je]at hm;refine c7 hL (call97 _) func97 ntmps97 λM X w=>?_;refine uO [] ?_;obtain⟨y3,cC,hm⟩:=ai hm;refine uR [0,1] [4] [vB (decide (0≤y3))] [kr λ_ hS=>a5V (bi:=bi) m _ _ cC _ (aw aS (hS.im 0 rfl))] (al [] (ax ?_));cases hm;exact aI [] aR

def a5X(cX:(List bo)→Option Int):Prop:=∀(a6:Gh)(M:Av)(l_:List bo)(r:Int),cX l_=some r→∀w,S0 M [eI bx l_ a6] w→Calls prog 100 ⟨[vL a6 l_]⟩ w (λe w'=>∃v,e=.returned v∧v=vI r∧SH M (aH [eI bx l_ a6]) w [] w')
def zH(m:Nat)(l_:List bo)(v9:Int)(v24:Int)(zI:(List bo)→Option Int):Nat→Int→Int→Option Int
 |0,_,_=>none
 |kk+1,eQ,cF=>lt (decide (cF<ln (gi (gi l_ v9).aL v24).aX)) λkV=>cond kV (au (0≤cF∧cF<ln (gi (gi l_ v9).aL v24).aX)<|lt (gi (gi (gi l_ v9).aL v24).aX cF).a7 λhP=>lt (gi (gi (gi l_ v9).aL v24).aX cF).aO λjL=>lt (gi (gi (gi l_ v9).aL v24).aX cF).Op λmK=>lt (gi (gi (gi l_ v9).aL v24).aX cF).Value λzz=>lt (gi (gi (gi l_ v9).aL v24).aX cF).lY λzA=>lt (gi (gi (gi l_ v9).aL v24).aX cF).dp.A λpY=>lt (gi (gi (gi l_ v9).aL v24).aX cF).dp.B λug=>lt (gi (gi (gi l_ v9).aL v24).aX cF).Of λfV=>Option.bind (zI (gi (gi (gi l_ v9).aL v24).aX cF).J) λgW=>zH m l_ v9 v24 zI kk (a8 (eQ+gW)) (a8 (cF+1))) (some eQ)
def zJ(m:Nat)(l_:List bo)(v9:Int)(zI:(List bo)→Option Int):Nat→Int→Int→Option Int
 |0,_,_=>none
 |kk+1,di,v24=>cond (decide (v24<ln (gi l_ v9).aL)) (Option.bind (au (0≤v24∧v24<ln (gi l_ v9).aL)<|zH m l_ v9 v24 zI m di 0) λ(jM:Int)=>zJ m l_ v9 zI kk jM (a8 (v24+1))) (some di)
def Fi(m:Nat)(l_:List bo)(zI:(List bo)→Option Int):Nat→Int→Int→Option Int
 |0,_,_=>none
 |kk+1,v8,v9=>cond (decide (v9<ln l_)) (Option.bind (au (0≤v9∧v9<ln l_)<|zJ m l_ v9 zI m v8 0) λ(z12:Int)=>Fi m l_ zI kk z12 (a8 (v9+1))) (some v8)
def rY(m:Nat):Nat→List bo→Option Int
 |0,_=>none
 |k+1,l_=>Option.bind (Fi m l_ (rY m k) m (ln l_) 0) λ(z5:Int)=>some z5
theorem a5Y(m:Nat):∀(k:Nat),a5X (rY m k):=by
 intro k
 induction k with
 |zero=>intro a6 M l_ r hm;exact eJ hm
 |succ k ih=>
  intro a6 M l_ r hm w hS;rw[rY]at hm;have aK:SH M (aH [eI bx l_ a6]) w [eI bx l_ a6] w:=hS;generalize hX:aH [eI bx l_ a6]=X at aK⊢;clear hS hX;have hS:=aK;clear aK;refine fk func100 rfl ntmps100 rfl λ_ H=>?_;refine aQ H hS (jq [0] [vL a6 l_] [] ?_);refine uA 3 (vI (ln l_)) [] ?_;obtain⟨z5,hz,hm⟩:=ai hm;refine uK [0] [3] [vI z5] [eI bx l_ a6] ?_ ?_;replace hm:=hz;refine uR [0] [12,13,14] [vL a6 l_,vI (ln l_),vI 0] [] (aE ?_);refine fu [] [3,14] (λv8 v9=>[vI v8,vI v9]) (λ_ _=>[eI bx l_ a6]) hm (λkk v8 v9 hm=>?_);rw[Fi]at hm;refine uA 15 (vB (decide (v9<ln l_))) [] (aq ?_);refine uC hm ?_ ?_;intro hm;refine ah ?_;obtain⟨z12,hz,hm⟩:=ai hm;refine uK [15] [3] [vI z12] [eI bx l_ a6] ?_ ?_;replace hm:=hz;refine aE (az ?_);obtain⟨cd,hm⟩:=bO hm;refine uB 2 [15] [3,12,13,14,17] [vI v8,vL a6 l_,vI (ln l_),vI v9,.agg ⟨e0 (gi l_ v9) (a6.s v9.toNat)⟩] [ki 0 cd,⟨some (.agg ⟨e0 (gi l_ v9) (a6.s v9.toNat)⟩),λwz=>V.bn (ab a6.a) (ao a6.a+v9.toNat*3) (e0 (gi l_ v9) (a6.s v9.toNat)) 0 wz,λ_ hS=>(hS.im 0 rfl).cS cd 0 rfl⟩] ?_;refine uM [] [0] [] (oA [vU 0,vO,vO]) λJ3=>?_;refine uL [0] [1] [17] (oS (e0 (gi l_ v9) (a6.s v9.toNat)) rfl rfl) (an ?_);refine uR [5] [19,20,21] [.slice (a6.s v9.toNat 0).a (gi l_ v9).aL.length (a6.s v9.toNat 0).c,vI (ln (gi l_ v9).aL),vI 0] [kb 0 1] (al [1] (aE ?_));refine fu [] [3,21] (λdi v24=>[vI di,vI v24]) (λ_ _=>[eI bx l_ a6]) hm (λkk di v24 hm=>?_);rw[zJ]at hm;refine uA 22 (vB (decide (v24<ln (gi l_ v9).aL))) [] (aq ?_);refine uC hm ?_ ?_;intro hm;refine ah ?_;obtain⟨jM,hz,hm⟩:=ai hm;refine uK [22] [3] [vI jM] [eI bx l_ a6] ?_ ?_;replace hm:=hz;refine aE (az ?_);obtain⟨ju,hm⟩:=bO hm;refine uB 2 [22] [3,12,13,14,19,20,21,24] [vI di,vL a6 l_,vI (ln l_),vI v9,.slice (a6.s v9.toNat 0).a (gi l_ v9).aL.length (a6.s v9.toNat 0).c,vI (ln (gi l_ v9).aL),vI v24,vG [vS (gi (gi l_ v9).aL v24).Tag,.slice ((a6.s v9.toNat 0).s v24.toNat 0).a (gi (gi l_ v9).aL v24).aX.length ((a6.s v9.toNat 0).s v24.toNat 0).c]] [⟨none,λ_=>dE (a6.s v9.toNat 0).a∧0≤v24∧v24<ln (gi l_ v9).aL,λ_ hS=>(fM ((hS.im 0 rfl).el cd)).gP ju⟩,⟨some (vG [vS (gi (gi l_ v9).aL v24).Tag,.slice ((a6.s v9.toNat 0).s v24.toNat 0).a (gi (gi l_ v9).aL v24).aX.length ((a6.s v9.toNat 0).s v24.toNat 0).c]),λwz=>V.bn (ab (a6.s v9.toNat 0).a) (ao (a6.s v9.toNat 0).a+v24.toNat*2) [vS (gi (gi l_ v9).aL v24).Tag,.slice ((a6.s v9.toNat 0).s v24.toNat 0).a (gi (gi l_ v9).aL v24).aX.length ((a6.s v9.toNat 0).s v24.toNat 0).c] 0 wz,λ_ hS=>(fM ((hS.im 0 rfl).el cd)).cS ju 0 rfl⟩] ?_;refine uM [] [0] [] (oA [vN,vO]) λRE=>?_;refine uL [0] [1] [24] (oS [vS (gi (gi l_ v9).aL v24).Tag,.slice ((a6.s v9.toNat 0).s v24.toNat 0).a (gi (gi l_ v9).aL v24).aX.length ((a6.s v9.toNat 0).s v24.toNat 0).c] rfl rfl) (an ?_);refine uR [7] [26,27,28] [.slice ((a6.s v9.toNat 0).s v24.toNat 0).a (gi (gi l_ v9).aL v24).aX.length ((a6.s v9.toNat 0).s v24.toNat 0).c,vI (ln (gi (gi l_ v9).aL v24).aX),vI 0] [kb 0 1] (al [1] (aE ?_));refine fu [] [3,28] (λeQ cF=>[vI eQ,vI cF]) (λ_ _=>[eI bx l_ a6]) hm (λkk eQ cF hm=>?_);rw[zH]at hm;obtain⟨kV,rQ,hm⟩:=bd hm;refine uA 29 (vB kV) [] ?_ (he:=by subst rQ;kernel_rfl);refine aq (uC hm ?_ ?_);intro hm;refine ah (aq (aE (az ?_)));obtain⟨Fj,hP,qb,hm⟩:=bY hm;obtain⟨jL,C6,mK,xD,hm⟩:=cU hm;obtain⟨zz,RF,zA,RG,hm⟩:=cU hm;obtain⟨pY,J4,ug,RH,hm⟩:=cU hm;obtain⟨fV,xE,hm⟩:=bd hm;refine uB 2 [29] [31] [vG [vU hP,vS jL,vU mK,vS zz,vB zA,vI pY,vI ug,vB fV,.slice (((a6.s v9.toNat 0).s v24.toNat 0).s cF.toNat 0).a (gi (gi (gi l_ v9).aL v24).aX cF).J.length (((a6.s v9.toNat 0).s v24.toNat 0).s cF.toNat 0).c]] [⟨none,λ_=>dE ((a6.s v9.toNat 0).s v24.toNat 0).a∧0≤cF∧cF<ln (gi (gi l_ v9).aL v24).aX,λ_ hS=>(jr ((fM ((hS.im 0 rfl).el cd)).el ju)).gP Fj⟩,⟨some (.agg ⟨e2 (gi (gi (gi l_ v9).aL v24).aX cF) (((a6.s v9.toNat 0).s v24.toNat 0).s cF.toNat)⟩),λwz=>V.bn (ab ((a6.s v9.toNat 0).s v24.toNat 0).a) (ao ((a6.s v9.toNat 0).s v24.toNat 0).a+cF.toNat*9) (e2 (gi (gi (gi l_ v9).aL v24).aX cF) (((a6.s v9.toNat 0).s v24.toNat 0).s cF.toNat)) 0 wz,λ_ hS=>(jr ((fM ((hS.im 0 rfl).el cd)).el ju)).cS Fj 0 rfl⟩] ?_ (he:=by subst qb C6 xD RF RG J4 RH xE;kernel_rfl);refine eP [] [0] [3,12,13,14,19,20,21,26,27,28,31] [vI eQ,vL a6 l_,vI (ln l_),vI v9,.slice (a6.s v9.toNat 0).a (gi l_ v9).aL.length (a6.s v9.toNat 0).c,vI (ln (gi l_ v9).aL),vI v24,.slice ((a6.s v9.toNat 0).s v24.toNat 0).a (gi (gi l_ v9).aL v24).aX.length ((a6.s v9.toNat 0).s v24.toNat 0).c,vI (ln (gi (gi l_ v9).aL v24).aX),vI cF,vG [vU hP,vS jL,vU mK,vS zz,vB zA,vI pY,vI ug,vB fV,.slice (((a6.s v9.toNat 0).s v24.toNat 0).s cF.toNat 0).a (gi (gi (gi l_ v9).aL v24).aX cF).J.length (((a6.s v9.toNat 0).s v24.toNat 0).s cF.toNat 0).c]] (oA [vU 0,vN,vU 0,vN,vF,vI 0,vI 0,vF,vO]) λb54=>?_;refine uL [0] [1] [31] (oS [vU hP,vS jL,vU mK,vS zz,vB zA,vI pY,vI ug,vB fV,.slice (((a6.s v9.toNat 0).s v24.toNat 0).s cF.toNat 0).a (gi (gi (gi l_ v9).aL v24).aX cF).J.length (((a6.s v9.toNat 0).s v24.toNat 0).s cF.toNat 0).c] rfl rfl) (an ?_);obtain⟨gW,Jf,hm⟩:=ai hm;refine uW [9] [3] [vI (a8 (eQ+gW))] [kb 0 8,kr λ_ hS=>dF (aw aS (zo ((jr ((fM ((hS.im 1 rfl).el cd)).el ju)).el Fj))) (call100 _) (λw' h'=>ih (((a6.s v9.toNat 0).s v24.toNat 0).s cF.toNat 0) F0 _ _ Jf w' h')] (al [1] ?_);exact fb [] hm;intro hm;refine bt ?_;cases hm;exact te;exact fb [] hm;intro hm;refine bt ?_;cases hm;exact te;exact fb [] hm;intro hm;refine bt ?_;cases hm;exact te;refine al [] ?_;cases hm;exact uZ [] []
def RU(m:Nat)(l_:List bo):Option Int:=rY m m l_
theorem a5Z{a6:Gh}(m)(l_)(r)(hm:RU m l_=some r)(w)(hL:Rd [eI bx l_ a6] w):Rb 100 [vL a6 l_] (vI r) w:=dF hL (call100 _) (λw' h=>a5Y m m a6 F0 l_ r hm w' h)

def Fk(m:Nat)(l_:List bo):Option Int:=Option.bind (cond (ln l_==0) (some default) (Je m l_)) λy3=>cond (cond (ln l_==0) true y3) (some 8) (Option.bind (RU m l_) λy8=>cond (decide (64<y8)) (some 4) (some 0))
theorem a60{a6:Gh}(m)(l_)(r)(hm:Fk m l_=some r)(w)(hL:Rd [eI bx l_ a6] w):Rb 55 [vL a6 l_] (vI r) w:=by
 rw[Fk]at hm;refine c7 hL (call55 _) func55 ntmps55 λM X w=>?_;refine uO [] (aq ?_);obtain⟨y3,cC,hm⟩:=ai hm;refine uI [eo (gF (ln l_==0)) λ_ hS hg=>a5W (bi:=a6) m _ _ (bF (hg.1) cC) _ (aw aS (hS.im 0 rfl))] hm ?_ ?_;intro hm;refine uR [0] [2] [vI 8] [] (al [] (ax ?_));cases hm;exact aI [] aR;intro hm;refine ah (aq ?_);obtain⟨y8,kw,hm⟩:=ai hm;refine uR [0] [12] [vB (decide (64<y8))] [kr λ_ hS=>a5Z (a6:=a6) m _ _ kw _ (aw aS (hS.im 0 rfl))] (al [] ?_);refine uC hm ?_ ?_;intro hm;cases hm;exact uZ [] [];intro hm;refine ah ?_;cases hm;exact uZ [] []

def oR(c_:aP):Bool:=lt (cond (c_.a7==0) (c_.aO==[]) false) λgy=>lt (cond (cond gy (c_.bj==0) false) (ln c_.J==0) false) λeZ=>lt (cond (cond eZ (c_.aA.aO==[]) false) (ln c_.aA.Value==0) false) λiK=>cond iK (!c_.aA.js) false
theorem RV{af aa:Gh}(c_:aP)(w)(hL:Rd [eI ae c_.aA.Value af,eI aZ c_.J aa] w):Rb 56 [.agg ⟨e4 c_ (gL [af,aa])⟩] (vB (oR c_)) w:=by
 generalize hm:oR c_=r;rw[oR]at hm;refine c7 hL (call56 _) func56 ntmps56 λM X w=>(az ?_);refine uM [] [0,1] [0] (oB (e4 c_ (gL [af,aa])) rfl) λb1=>?_;refine uP 2 [] (an (az ?_));refine uB 2 [] [5] [.agg ⟨e8 c_.aA (gL [af])⟩] [⟨some (.agg ⟨e8 c_.aA (gL [af])⟩),λwz=>V.bn b1 3 (e8 c_.aA (gL [af])) 0 wz,λ_ hS=>(hS.bk 0 rfl).cM rfl⟩] ?_;refine uM [] [0,1,2] [] (oA [vN,vO,vF]) λb8=>?_;refine uL [0] [1,2,3] [5] (oS (e8 c_.aA (gL [af])) rfl rfl) (an ?_);obtain⟨gy,oK,eZ,ma,hm⟩:=cU hm;obtain⟨iK,u6,hm⟩:=bd hm;refine uR [1,3] [2] [vB (cond iK (!c_.aA.js) false)] [kb 1 0,aV (gT (c_.a7==0)) 1 1,aV (gT gy) 1 2,aV (gT (cond gy (c_.bj==0) false)) 1 6,aV (gT eZ) 0 0,aV (gT (cond eZ (c_.aA.aO==[]) false)) 0 1,aV (gT iK) 0 2] ?_ (he:=by subst oK ma u6;kernel_rfl);refine al [] (ax ?_);subst hm;exact aI [] aR

def oc(db:Int):Int:=cond (db==2) (22) (lt (cond (db==19) (db==19) (cond (db==21) (db==21) (db==23))) λ(z9:Bool)=>cond z9 (bA (db+1)) (0))
theorem Yl(db:Int):Rt 149 [vU db] (vU (oc db)):=by
 generalize hm:oc db=r;rw[oc]at hm;refine cA (call149 _) func149 ntmps149 λM X w=>?_;refine uO [] (aq ?_);refine uA 3 (vU db) [] (aE ?_);refine uA 4 (vB (db==2)) [] ?_;refine uC hm ?_ ?_;intro hm;refine uR [0,3,4] [2] [vU 22] [] (ax ?_);subst hm;exact aI [] aR;intro hm;obtain⟨z9,hz,hm⟩:=bd hm;refine uK [3,4] [6] [vB z9] [] ?_ ?_;replace hm:=hz.symm;refine uR [4] [6] [vB (db==19)] [] ?_;refine uC hm ?_ ?_;intro hm;refine ah ?_;subst hm;exact te;intro hm;refine uA 6 (vB (db==21)) [] ?_;refine uC hm ?_ ?_;intro hm;refine ah ?_;subst hm;exact te;intro hm;refine uW [3] [6] [vB (db==23)] [] ?_;subst hm;exact te;refine uC hm ?_ ?_;intro hm;refine uR [0,6] [2] [vU (bA (db+1))] [] (ax ?_);subst hm;exact aI [] aR;intro hm;refine ah (uR [0,6] [2] [vU 0] [] (ax ?_));subst hm;exact aI [] aR

structure vH where
  depth:Int
  RW:Int
  bad:Bool
instance:Inhabited vH:=⟨⟨default,default,default⟩⟩
def a61:Ty vH where
  z:=3
  aT:=λx g=>[vI x.depth,vI x.RW,vB x.bad]
  cx:=λ_ _ _ _=>True
  len:=λ_ _=>rfl
  one:=λ_ _=>rfl
  kp:=λ_ _ _=>trivial
  cT:=λ_ _=>trivial
  fresh:=λ_=>trivial
def Cd(x:vH):List Value:=a61.aT x (gL [])
def a62(cX:(List aj)→Int→Option vH):Prop:=∀(aN:Gh)(M:Av)(v_:List aj)(lP:Int)(r:vH),cX v_ lP=some r→∀w,S0 M [eI ae v_ aN] w→Calls prog 101 ⟨[vL aN v_,vU lP]⟩ w (λe w'=>∃v,e=.returned v∧v=.agg ⟨Cd r⟩∧SH M (aH [eI ae v_ aN]) w [] w')
def Jg(m:Nat)(v_:List aj)(lP:Int)(Ym:(List aj)→Int→Option vH):Nat→Int→Int→Int→Bool→Option (Int×Int×Bool)
 |0,_,_,_,_=>none
 |kk+1,v10,v11,v12,ep=>cond (decide (v10<ln v_)) (Option.bind (au (0≤v10∧v10<ln v_)<|Option.bind (lt (cond (lP !=0) ((gi v_ v10).ay.a7==lP) false) λoT=>lt (cond oT true (cond (oc (gi v_ v10).ay.a7==0) (decide (0<ln (gi v_ v10).J)) false)) λkz=>cond kz (some true) (some ep)) λ(z31:Bool)=>lt (oc (gi v_ v10).ay.a7==0) λpT=>cond pT (some (a8 (v12+1),z31,v11)) (Option.bind (Ym (gi v_ v10).J (oc (gi v_ v10).ay.a7)) λj9=>lt (if v11<a8 (j9.depth+1)then a8 (j9.depth+1)else v11) λxC=>lt (a8 (a8 (a8 (v12+1)+j9.RW)+1)) λoU=>some (oU,cond z31 true j9.bad,xC))) λ(dx:Int×Bool×Int)=>Jg m v_ lP Ym kk (a8 (v10+1)) dx.2.2 dx.1 dx.2.1) (some (v11,v12,ep))
def Ce(m:Nat):Nat→List aj→Int→Option vH
 |0,_,_=>none
 |k+1,v_,lP=>Option.bind (Jg m v_ lP (Ce m k) m 0 0 0 false) λ(z7:Int×Int×Bool)=>some (vH.mk z7.1 z7.2.1 z7.2.2)
theorem a63(m:Nat):∀(k:Nat),a62 (Ce m k):=by
 intro k
 induction k with
 |zero=>intro aN M v_ lP r hm;exact eJ hm
 |succ k ih=>
  intro aN M v_ lP r hm w hS;rw[Ce]at hm;have aK:SH M (aH [eI ae v_ aN]) w [eI ae v_ aN] w:=hS;generalize hX:aH [eI ae v_ aN]=X at aK⊢;clear hS hX;have hS:=aK;clear aK;refine fk func101 rfl ntmps101 rfl λ_ H=>?_;refine aQ H hS (az (eP [] [0] [0,1] [vL aN v_,vU lP] (oA [vI 0,vI 0,vF]) λb1=>an (az ?_)));refine eP [] [0,1] [0,1,4] [vL aN v_,vU lP,vP b1] (oA [vI 0,vI 0,vF]) λb4=>(an ?_);obtain⟨z7,hz,hm⟩:=ai hm;refine uK [0,1] [5] [vP b4] [eB b4 [vI z7.1,vI z7.2.1,vB z7.2.2],eB b1 [vI 0,vI 0,vF],eI ae v_ aN] ?_ ?_;replace hm:=hz;refine uR [0] [5,10,11,12] [vP b4,vL aN v_,vI (ln v_),vI 0] [] (aE ?_);refine N0 [] [12] (λv10 _ _ _=>[vI v10]) (λ_ v11 v12 ep=>[eB b4 [vI v11,vI v12,vB ep],eB b1 [vI 0,vI 0,vF],eI ae v_ aN]) hm (λkk v10 v11 v12 ep hm=>?_);rw[Jg]at hm;refine uA 13 (vB (decide (v10<ln v_))) [] (aq ?_);refine uC hm ?_ ?_;intro hm;refine ah ?_;obtain⟨dx,hz,hm⟩:=ai hm;refine uK [13] [] [] [eB b4 [vI dx.2.2,vI dx.1,vB dx.2.1],eB b1 [vI 0,vI 0,vF],eI ae v_ aN] ?_ ?_;replace hm:=hz;refine aE (az ?_);obtain⟨dK,hm⟩:=bO hm;refine uB 2 [13] [15] [.agg ⟨e3 (gi v_ v10) (aN.s v10.toNat)⟩] [ki 2 dK,⟨some (.agg ⟨e3 (gi v_ v10) (aN.s v10.toNat)⟩),λwz=>V.bn (ab aN.a) (ao aN.a+v10.toNat*6) (e3 (gi v_ v10) (aN.s v10.toNat)) 0 wz,λ_ hS=>(hS.im 2 rfl).cS dK 0 rfl⟩] ?_;refine eP [] [0,1,2] [1,4,5,10,11,12,15] [vU lP,vP b1,vP b4,vL aN v_,vI (ln v_),vI v10,.agg ⟨e3 (gi v_ v10) (aN.s v10.toNat)⟩] (oA [vU 0,vN,vI 0,vN,vF,vO]) λqc=>?_;refine uL [0] [1,2,3] [15] (oS (e3 (gi v_ v10) (aN.s v10.toNat)) rfl rfl) (an (az ?_));refine uB 4 [] [18,19] [vI (a8 (v12+1)),vA b4 1] [kb 1 1] ?_;refine uL [1] [0,2,3] [18,19] (oS [vI v11,vI (a8 (v12+1)),vB ep] rfl rfl) (an ?_);refine uA 8 (vU (oc (gi v_ v10).ay.a7)) [kb 1 0,kc (Yl (gi v_ v10).ay.a7)] ?_;obtain⟨z31,hz,hm⟩:=ai hm;refine uK [] [] [] [eB b4 [vI v11,vI (a8 (v12+1)),vB z31],eB qc (e3 (gi v_ v10) (aN.s v10.toNat)),eB b1 [vI 0,vI 0,vF],eI ae v_ aN] ?_ ?_;replace hm:=hz;obtain⟨oT,Cf,kz,xN,hm⟩:=cU hm;refine uI [aV (gT (lP !=0)) 1 0,aV ((oc (gi v_ v10).ay.a7==0)=true∧oT=false∧True) 1 5] hm ?_ ?_ (he:=by subst Cf xN;kernel_rfl);intro hm;refine dG (uB 1 [] [43] [vA b4 2] [] ?_);refine nu [0] [1,2,3] [1,4,5,7,8,10,11,12] [vU lP,vP b1,vP b4,vP qc,vU (oc (gi v_ v10).ay.a7),vL aN v_,vI (ln v_),vI v10] (oS [vI v11,vI (a8 (v12+1)),vT] rfl rfl) (an ?_);cases hm;exact te;intro hm;refine ah ?_;cases hm;exact te;refine aq ?_;obtain⟨pT,II,hm⟩:=bd hm;refine uI [] hm ?_ ?_ (he:=by subst II;kernel_rfl);intro hm;refine bt ?_;cases hm;refine al [0,2,3] ?_;exact te;intro hm;refine ah (az ?_);obtain⟨j9,vM,hm⟩:=ai hm;refine uB 4 [7,8] [49] [.agg ⟨Cd j9⟩] [kb 1 5,kr λ_ hS=>dF (aw aS (lZ ((hS.im 3 rfl).el dK))) (call101 _) (λw' h'=>ih (aN.s v10.toNat 0) F0 _ _ _ vM w' h')] ?_;refine eP [] [0,1,2,3] [1,4,5,10,11,12,49] [vU lP,vP b1,vP b4,vL aN v_,vI (ln v_),vI v10,.agg ⟨Cd j9⟩] (oA [vI 0,vI 0,vF]) λb47=>?_;refine uL [0] [1,2,3,4] [49] (oS (Cd j9) rfl rfl) (an (al [0,1,3,4] (dG ?_)));obtain⟨xC,RI,oU,Jh,hm⟩:=cU hm;refine uB 19 [9] [68] [vG [vI xC,vI oU,vB (cond z31 true j9.bad)]] [kb 1 0,kb 0 0,kb 1 1,kb 0 1,kb 1 2,aV (gF z31) 0 2] ?_ (he:=by subst RI Jh;kernel_rfl);refine uL [1] [0,2,3] [68] (oS [vI xC,vI oU,vB (cond z31 true j9.bad)] rfl rfl) (an (al [0,2,3] ?_));cases hm;exact te;exact Rc [] hm;intro hm;refine bt ?_;cases hm;exact te;refine al [0,1] (az ?_);refine uB 1 [5] [70] [vG [vI z7.1,vI z7.2.1,vB z7.2.2]] [kE 0 3] ?_;refine uL [1] [0] [70] (oS [vI z7.1,vI z7.2.1,vB z7.2.2] rfl rfl) (an (al [0] (ax ?_)));cases hm;exact aI [] (BP 0 underlying145)
def Ji(m:Nat)(v_:List aj)(lP:Int):Option vH:=Ce m m v_ lP
theorem Yn{aN:Gh}(m)(v_)(lP)(r)(hm:Ji m v_ lP=some r)(w)(hL:Rd [eI ae v_ aN] w):Rb 101 [vL aN v_,vU lP] (.agg ⟨Cd r⟩) w:=dF hL (call101 _) (λw' h=>a63 m m aN F0 v_ lP r hm w' h)

def zK(m:Nat)(v_:List aj):Option Int:=Option.bind (Ji m v_ 0) λy3=>cond (decide (16<y3.depth)) (some 20) (cond (decide (1500<y3.RW)) (some 4) (cond y3.bad (some 8) (some 0)))
theorem Nl{aN:Gh}(m)(v_)(r)(hm:zK m v_=some r)(w)(hL:Rd [eI ae v_ aN] w):Rb 64 [vL aN v_] (vI r) w:=by
 rw[zK]at hm;refine c7 hL (call64 _) func64 ntmps64 λM X w=>?_;refine uO [] (aq (az ?_));obtain⟨y3,cC,hm⟩:=ai hm;refine uB 2 [0] [5] [.agg ⟨Cd y3⟩] [kr λ_ hS=>Yn (aN:=aN) m _ _ _ cC _ (aw aS (hS.im 0 rfl))] ?_;refine uM [] [0] [] (oA [vI 0,vI 0,vF]) λb6=>?_;refine uL [0] [1] [5] (oS (Cd y3) rfl rfl) (an (al [0] (aE ?_)));refine uI [kb 0 0] hm ?_ ?_;intro hm;refine uR [3] [2] [vI 20] [] (al [] (ax ?_));cases hm;exact aI [] aR;intro hm;refine uI [kb 0 1] hm ?_ ?_;intro hm;refine uR [3] [2] [vI 4] [] (al [] (ax ?_));cases hm;exact aI [] aR;intro hm;refine uR [3] [14] [vB y3.bad] [kb 0 2] (al [] ?_);refine uC hm ?_ ?_;intro hm;cases hm;exact uZ [] [];intro hm;refine ah ?_;cases hm;exact uZ [] []

def Ch(m:Nat)(v_:List aj):Option (Int×Int):=Option.bind (zK m v_) λy3=>cond (y3 !=0) (some (0,y3)) (Option.bind (Ji m v_ 0) λcL=>some (cL.depth,0))
theorem RX{aN:Gh}(m)(v_)(r)(hm:Ch m v_=some r)(w)(hL:Rd [eI ae v_ aN] w):Rb 57 [vL aN v_] (vW [vI r.1,vI r.2]) w:=by
 rw[Ch]at hm;refine c7 hL (call57 _) func57 ntmps57 λM X w=>?_;refine uO [] (aq ?_);obtain⟨y3,cC,hm⟩:=ai hm;refine uA 4 (vI y3) [kr λ_ hS=>Nl (aN:=aN) m _ _ cC _ (aw aS (hS.im 0 rfl))] ?_;refine uI [] hm ?_ ?_;intro hm;refine uR [0,4] [2,3] [vI 0,vI y3] [] (al [] (ax ?_));cases hm;exact aI [] dy;intro hm;refine ah ?_;obtain⟨cL,iX,hm⟩:=ai hm;refine uR [0,4] [2,3] [vI cL.depth,vI 0] [kr λ_ hS=>Yn (aN:=aN) m _ _ _ iX _ (aw aS (hS.im 0 rfl))] (al [] (ax ?_));cases hm;exact aI [] dy

def a64(cX:(List bW)→List aj→Option (List bW)):Prop:=∀(a6:Gh)(aN:Gh)(M:Av)(l_:List bW)(v_:List aj)(r:List bW),cX l_ v_=some r→∀w,S0 M [eO 102 fy l_ a6,eI ae v_ aN] w→Calls prog 150 ⟨[vL a6 l_,vL aN v_]⟩ w (λe w'=>∃v,e=.returned v∧∃(bp:Gh),v=vL bp r∧SH M (aH [eO 102 fy l_ a6,eI ae v_ aN]) w [eO 102 fy r bp] w')
def Fl(m:Nat)(v_:List aj)(Yo:(List bW)→List aj→Option (List bW)):Nat→List bW→Int→Option (List bW)
 |0,_,_=>none
 |kk+1,v6,v8=>cond (decide (v8<ln v_)) (Option.bind (au (0≤v8∧v8<ln v_)<|au (ln v6+ln ([(gi v_ v8).ay]:List bW)≤137438953472)<|lt (v6++([(gi v_ v8).ay]:List bW)) λvR=>lt (oc (gi v_ v8).ay.a7 !=0) λrc=>cond rc (Option.bind (Yo vR (gi v_ v8).J) λhQ=>au (ln hQ+ln ([bW.mk (oc (gi v_ v8).ay.a7) [] 0 [] false]:List bW)≤137438953472)<|lt (hQ++([bW.mk (oc (gi v_ v8).ay.a7) [] 0 [] false]:List bW)) λRY=>some (RY,vR)) (some (vR,vR))) λ(cD:(List bW)×(List bW))=>Fl m v_ Yo kk cD.1 (a8 (v8+1))) (some v6)
def Ci(m:Nat):Nat→List bW→List aj→Option (List bW)
 |0,_,_=>none
 |k+1,l_,v_=>Option.bind (Fl m v_ (Ci m k) m l_ 0) λ(z3:List bW)=>some z3
theorem a65(m:Nat):∀(k:Nat),a64 (Ci m k):=by
 intro k
 induction k with
 |zero=>intro a6 aN M l_ v_ r hm;exact eJ hm
 |succ k ih=>
  intro a6 aN M l_ v_ r hm w hS;rw[Ci]at hm;have aK:SH M (aH [eO 102 fy l_ a6,eI ae v_ aN]) w [eO 102 fy l_ a6,eI ae v_ aN] w:=hS;generalize hX:aH [eO 102 fy l_ a6,eI ae v_ aN]=X at aK⊢;clear hS hX;have hS:=aK;clear aK;refine fk func150 rfl ntmps150 rfl λ_ H=>?_;refine aQ H hS (jq [0,1] [vL a6 l_,vL aN v_] [] ?_);obtain⟨z3,hz,hm⟩:=ai hm;refine gb [1] [0] (λ(vX:Gh)=>[vL vX z3]) (λvX=>[eO 102 fy z3 vX,eI ae v_ aN]) ?_ ?_;replace hm:=hz;refine uR [1] [8,9,10] [vL aN v_,vI (ln v_),vI 0] [] (aE ?_);refine mF [] [0,10] (λv6 v8 g7=>[vL g7 v6,vI v8]) (λv6 _ g7=>[eO 102 fy v6 g7,eI ae v_ aN]) a6 hm (λkk v6 v8 g7 hm=>?_);rw[Fl]at hm;refine uA 11 (vB (decide (v8<ln v_))) [] (aq ?_);refine uC hm ?_ ?_;intro hm;refine ah ?_;obtain⟨cD,hz,hm⟩:=ai hm;intro _ _ zM hS;refine df (λa' w'=>∃(pw:Gh)(rZ:Gh),Fr 35 (fS [8,9,10,0] [vL aN v_,vI (ln v_),vI v8,vL pw cD.1]) a'∧SH M X w [eO 102 fy cD.1 pw,eI ae v_ aN] w') ?_ ?_;replace hm:=hz;refine aQ zM hS (aE (az ?_));obtain⟨ue,hm⟩:=bO hm;refine uB 2 [11] [13] [.agg ⟨e3 (gi v_ v8) (aN.s v8.toNat)⟩] [ki 1 ue,⟨some (.agg ⟨e3 (gi v_ v8) (aN.s v8.toNat)⟩),λwz=>V.bn (ab aN.a) (ao aN.a+v8.toNat*6) (e3 (gi v_ v8) (aN.s v8.toNat)) 0 wz,λ_ hS=>(hS.im 1 rfl).cS ue 0 rfl⟩] ?_;refine uM [] [0,1] [] (oA [vU 0,vN,vI 0,vN,vF,vO]) λb15=>?_;refine nu [0] [1,2] [0,6,8,9,10] [vL g7 v6,vP b15,vL aN v_,vI (ln v_),vI v8] (oS (e3 (gi v_ v8) (aN.s v8.toNat)) rfl rfl) (an (az ?_));refine uB 3 [0] [14,16] [vL g7 v6,.agg ⟨e7 (gi v_ v8).ay⟩] [kE 0 5] ?_;refine uM [] [0,1,2] [16] (oL fy 102 (vG [vU 0,vN,vI 0,vN,vF]) [(gi v_ v8).ay] [gL []] (λ_=>aJ.cons trivial aJ.nil) rfl) λg22=>?_;obtain⟨iA,vR,RZ,hm⟩:=bY hm;refine uM [2,0] [1,3] [14,17] (oP fy (vG [vU 0,vN,vI 0,vN,vF]) g7 g22 RZ iA rfl rfl) λmj=>?_;refine uB 6 [18] [0] [vL mj vR] [] (an (al [0,2,3] ?_));refine uA 7 (vU (oc (gi v_ v8).ay.a7)) [kb 1 0,kc (Yl (gi v_ v8).ay.a7)] ?_;obtain⟨rc,Cj,hm⟩:=bd hm;refine uI [] hm ?_ ?_ (he:=by subst Cj;kernel_rfl);intro hm;refine dG (uB 3 [6,0] [25,27] [vL mj vR,.slice (aN.s v8.toNat 0).a (gi v_ v8).J.length (aN.s v8.toNat 0).c] [kb 1 5] ?_);intro _ _ Jj hS;replace hS:=hS.ik (lZ ((hS.im 2 rfl).el ue));obtain⟨hQ,ul,hm⟩:=ai hm;refine aQ Jj hS (eP [1,0] [0,2,3] [7,8,9,10] [vU (oc (gi v_ v8).ay.a7),vL aN v_,vI (ln v_),vI v8] (λ_ _ Jj hd=>iJ Jj rfl rfl (⟨call150 _,ih mj (aN.s v8.toNat 0) _ _ _ _ ul _ hd⟩:kO _ _ _ _ _)) λsU=>?_);refine uB 6 [7] [28,30] [vL sU hQ,vG [vU (oc (gi v_ v8).ay.a7),vN,vI 0,vN,vF]] [] ?_;refine uM [] [0,1,2,3] [30] (oL fy 102 (vG [vU 0,vN,vI 0,vN,vF]) [bW.mk (oc (gi v_ v8).ay.a7) [] 0 [] false] [gL []] (λ_=>aJ.cons trivial aJ.nil) rfl) λgz=>?_;obtain⟨a66,RY,a67,hm⟩:=bY hm;refine uM [1,0] [2,3,4] [28,31] (oP fy (vG [vU 0,vN,vI 0,vN,vF]) sU gz a67 a66 rfl rfl) λFm=>?_;refine uB 9 [32] [0] [vL Fm RY] [] (an (al [0,4] ?_));cases hm;exact λ_ _ S1 hS=>⟨Fm,mj,aD.bc (ks:=[8,9,10,0]) S1 (by kernel_rfl),hS⟩;intro hm;refine ah ?_;cases hm;refine al [0,2] ?_;exact λ_ _ ui hS=>⟨mj,mj,aD.bc (ks:=[8,9,10,0]) ui (by kernel_rfl),hS⟩;rintro _ _ ⟨pw,rZ,H,hS⟩;refine aQ H hS (BL [0,8,9,10] [vL pw cD.1,vL aN v_,vI (ln v_),vI (a8 (v8+1))] [] ?_);exact EX pw hm;intro hm;refine bt ?_;cases hm;exact tg g7;intro vX;refine al [0] ?_;refine uR [0] [4] [vL vX z3] [] (ax ?_);cases hm;exact dh vX [0] aR
def Nn(m:Nat)(l_:List bW)(v_:List aj):Option (List bW):=Ci m m l_ v_
theorem a68{a6 aN:Gh}(m)(l_)(v_)(r)(hm:Nn m l_ v_=some r)(M:Av)(w:World)(hS:S0 M [eO 102 fy l_ a6,eI ae v_ aN] w):kO prog 150 ⟨[vL a6 l_,vL aN v_]⟩ w (λv w'=>∃(bp:Gh),v=vL bp r∧SH M (aH [eO 102 fy l_ a6,eI ae v_ aN]) w [eO 102 fy r bp] w'):=⟨call150 _,a65 m m a6 aN M l_ v_ r hm w hS⟩

def Jk(m:Nat)(v_:List aj):Option ((List bW)×Int):=Option.bind (zK m v_) λy3=>cond (y3 !=0) (some (([]:List bW),y3)) (Option.bind (Nn m [] v_) λcW=>some (cW,0))
theorem a69{aN:Gh}(m)(v_)(r)(hm:Jk m v_=some r):Dm 102 [vL aN v_] [eI ae v_ aN] (λ(bp:Gh)=>vW [vL bp r.1,vI r.2]) (λbp=>[eO 102 fy r.1 bp]):=by
 rw[Jk]at hm;refine jG (call102 _) func102 ntmps102 λM X w=>?_;refine uO [] (aq ?_);obtain⟨y3,cC,hm⟩:=ai hm;refine uA 4 (vI y3) [kr λ_ hS=>Nl (aN:=aN) m _ _ cC _ (aw aS (hS.im 0 rfl))] ?_;refine uI [] hm ?_ ?_;intro hm;refine uR [0,4] [2,3] [vO,vI y3] [] (al [] (ax ?_));cases hm;refine eE 102 fy ?_;exact dh Gh.nil [0] dy;intro hm;refine ah (az (uB 1 [0,4] [10] [vL aN v_] [] ?_));refine eE 102 fy ?_;obtain⟨cW,kW,hm⟩:=ai hm;refine uQ [0,1] [1] [10] (a68 (a6:=Gh.nil) (aN:=aN) m _ _ _ kW) λg15=>?_;refine uB 4 [11] [2,3] [vL g15 cW,vI 0] [] (an (al [0] (ax ?_)));cases hm;exact dh g15 [0] dy

def stringslite_HasPrefix(s:ag)(jw:ag):Option Bool:=au (decide (ln jw≤ln s)=true→0≤ln jw∧ln jw≤ln s)<|lt (cond (decide (ln jw≤ln s)) (sub s 0 (ln jw)==jw) false) λx4=>some x4
theorem Yp(s)(jw)(r)(hm:stringslite_HasPrefix s jw=some r):Rt 156 [vS s,vS jw] (vB r):=by
 rw[stringslite_HasPrefix]at hm;refine cA (call156 _) func156 ntmps156 λM X w=>?_;refine uO [] ?_;obtain⟨mM,x4,mg,hm⟩:=bY hm;refine uR [0,1] [4] [vB x4] [j4 (gT (decide (ln jw≤ln s))) λhg=>mM hg.1] ?_ (he:=by subst mg;kernel_rfl);refine ax ?_;cases hm;exact aI [] aR

def strings_HasPrefix(s:ag)(jw:ag):Option Bool:=Option.bind (stringslite_HasPrefix s jw) λy3=>some y3
theorem Np(s)(jw)(r)(hm:strings_HasPrefix s jw=some r):Rt 110 [vS s,vS jw] (vB r):=by
 rw[strings_HasPrefix]at hm;refine cA (call110 _) func110 ntmps110 λM X w=>?_;refine uO [] ?_;obtain⟨y3,cC,hm⟩:=ai hm;cases hm;exact uZ [] [kc (Yp _ _ _ cC)]

def Jl(m:Nat)(s:ag):Option Bool:=lt (cond (s==[]) true (decide (64<ln s))) λx3=>lt (cond x3 true (decide (0≤strings_IndexByte s 0))) λx4=>cond x4 (some false) (Option.bind (strings_HasPrefix s [45,45]) λy9=>cond y9 (some (!(s==[45,45]))) (Option.bind (uh m s) λcW=>some (s==cW)))
theorem a6a(m)(s)(r)(hm:Jl m s=some r):Rt 103 [vS s] (vB r):=by
 rw[Jl]at hm;refine cA (call103 _) func103 ntmps103 λM X w=>?_;refine uO [] (aq ?_);obtain⟨x3,fG,x4,mg,hm⟩:=cU hm;refine uI [dB (gF x3) λhg=>IZ s 0] hm ?_ ?_ (he:=by subst fG mg;kernel_rfl);intro hm;cases hm;exact uZ [] [];intro hm;refine ah (aq ?_);obtain⟨y9,jv,hm⟩:=ai hm;refine uI [kc (Np _ _ _ jv)] hm ?_ ?_;intro hm;cases hm;exact uZ [] [];intro hm;refine ah ?_;obtain⟨cW,kW,hm⟩:=ai hm;cases hm;exact uZ [] [kc (J8 m _ _ kW)]

def stringslite_TrimPrefix(s:ag)(jw:ag):Option ag:=Option.bind (stringslite_HasPrefix s jw) λy3=>cond y3 (au (0≤ln jw∧ln jw≤ln s)<|some (sub s (ln jw) (ln s))) (some s)
theorem a6b(s)(jw)(r)(hm:stringslite_TrimPrefix s jw=some r):Rt 235 [vS s,vS jw] (vS r):=by
 rw[stringslite_TrimPrefix]at hm;refine cA (call235 _) func235 ntmps235 λM X w=>?_;refine uO [] (aq ?_);obtain⟨y3,cC,hm⟩:=ai hm;refine uI [kc (Yp _ _ _ cC)] hm ?_ ?_;intro hm;obtain⟨vY,hm⟩:=bO hm;cases hm;exact uZ [] [kh vY];intro hm;refine ah ?_;cases hm;exact uZ [] []

def strings_TrimPrefix(s:ag)(jw:ag):Option ag:=Option.bind (stringslite_TrimPrefix s jw) λy3=>some y3
theorem a6c(s)(jw)(r)(hm:strings_TrimPrefix s jw=some r):Rt 216 [vS s,vS jw] (vS r):=by
 rw[strings_TrimPrefix]at hm;refine cA (call216 _) func216 ntmps216 λM X w=>?_;refine uO [] ?_;obtain⟨y3,cC,hm⟩:=ai hm;cases hm;exact uZ [] [kc (a6b _ _ _ cC)]

def sV(c_:Int):Bool:=lt (cond (decide (48≤c_)) (decide (c_≤57)) false) λx3=>x3
theorem Yq(c_:Int):Rt 217 [vU c_] (vB (sV c_)):=by
 generalize hm:sV c_=r;rw[sV]at hm;refine cA (call217 _) func217 ntmps217 λM X w=>?_;refine uO [] ?_;obtain⟨x3,fG,hm⟩:=bd hm;refine uR [0] [2] [vB x3] [] ?_ (he:=by subst fG;kernel_rfl);refine ax ?_;subst hm;exact aI [] aR

def Jm(s:ag):Option Bool:=Option.bind (strings_TrimPrefix s [45]) λy3=>au ((!(y3==[]))=true→0≤(0:Int)∧(0:Int)<ln y3)<|lt (cond (!(y3==[])) (sV (bg y3 0)) false) λx7=>some x7
theorem a6d(s)(r)(hm:Jm s=some r):Rt 186 [vS s] (vB r):=by
 rw[Jm]at hm;refine cA (call186 _) func186 ntmps186 λM X w=>?_;refine uO [] ?_;obtain⟨y3,cC,hm⟩:=ai hm;refine uA 0 (vS y3) [kc (a6c _ _ _ cC)] ?_;obtain⟨vY,x7,xO,hm⟩:=bY hm;refine uR [0] [2] [vB x7] [j4 (gT (!(y3==[]))) λhg=>vY hg.1,dB (gT (!(y3==[]))) λhg=>Yq (bg y3 0)] ?_ (he:=by subst xO;kernel_rfl);refine ax ?_;cases hm;exact aI [] aR

def Jn(c_:Int):Bool:=lt (cond (decide (97≤kf .or .u8 c_ 32)) (decide (kf .or .u8 c_ 32≤122)) false) λx3=>cond x3 (decide (c_<128)) false
theorem a6e(c_:Int):Rt 218 [vU c_] (vB (Jn c_)):=by
 generalize hm:Jn c_=r;rw[Jn]at hm;refine cA (call218 _) func218 ntmps218 λM X w=>?_;refine uO [] ?_;obtain⟨x3,fG,hm⟩:=bd hm;refine uR [0] [2] [vB (cond x3 (decide (c_<128)) false)] [] ?_ (he:=by subst fG;kernel_rfl);refine ax ?_;subst hm;exact aI [] aR

def Fo(c_:Int):Bool:=lt (cond (Jn c_) true (sV c_)) λx3=>lt (cond (cond x3 true (c_==95)) true (c_==45)) λx4=>cond x4 true (decide (128≤c_))
theorem a6f(c_:Int):Rt 187 [vU c_] (vB (Fo c_)):=by
 generalize hm:Fo c_=r;rw[Fo]at hm;refine cA (call187 _) func187 ntmps187 λM X w=>?_;refine uO [] ?_;obtain⟨x3,fG,x4,mg,hm⟩:=cU hm;refine uR [0] [2] [vB (cond x4 true (decide (128≤c_)))] [kc (a6e c_),dB (gF (Jn c_)) λhg=>Yq c_] ?_ (he:=by subst fG mg;kernel_rfl);refine ax ?_;subst hm;exact aI [] aR

def stringslite_Index(s:ag)(ml:ag):Option Int:=lt (cond (ln ml==0) true (ml==s)) λx5=>cond x5 (some 0) (cond (ln ml==1) (au (0≤(0:Int)∧(0:Int)<ln ml)<|some (stringslite_IndexByte s (bg ml 0))) (cond (decide (ln s≤ln ml)) (some (-1)) (none)))
theorem a6g(s)(ml)(r)(hm:stringslite_Index s ml=some r):Rt 236 [vS s,vS ml] (vI r):=by
 rw[stringslite_Index]at hm;refine cA (call236 _) func236 ntmps236 λM X w=>?_;refine uO [] ?_;refine uA 5 (vI (ln ml)) [] (aq (aE ?_));obtain⟨x5,xP,hm⟩:=bd hm;refine uI [] hm ?_ ?_ (he:=by subst xP;kernel_rfl);intro hm;cases hm;exact uZ [] [];intro hm;refine uI [] hm ?_ ?_;intro hm;obtain⟨ue,hm⟩:=bO hm;cases hm;exact uZ [] [kh ue,kc (Yg s (bg ml 0))];intro hm;refine uI1 [] hm ?_;intro hm;cases hm;exact uZ [] []

def strings_Index(s:ag)(ml:ag):Option Int:=Option.bind (stringslite_Index s ml) λy3=>some y3
theorem a6h(s)(ml)(r)(hm:strings_Index s ml=some r):Rt 219 [vS s,vS ml] (vI r):=by
 rw[strings_Index]at hm;refine cA (call219 _) func219 ntmps219 λM X w=>?_;refine uO [] ?_;obtain⟨y3,cC,hm⟩:=ai hm;cases hm;exact uZ [] [kc (a6g _ _ _ cC)]

def strings_Contains(s:ag)(ml:ag):Option Bool:=Option.bind (strings_Index s ml) λy3=>some (decide (0≤y3))
theorem a6i(s)(ml)(r)(hm:strings_Contains s ml=some r):Rt 188 [vS s,vS ml] (vB r):=by
 rw[strings_Contains]at hm;refine cA (call188 _) func188 ntmps188 λM X w=>?_;refine uO [] ?_;obtain⟨y3,cC,hm⟩:=ai hm;cases hm;exact uZ [] [kc (a6h _ _ _ cC)]

def Ck(t_:bW):Option Bool:=au (ln t_.bU+ln t_.Unit≤9223372036854775807)<|lt (strings_IndexByte (t_.bU++t_.Unit) 0) λx9=>Option.bind (Option.bind (cond (t_.a7==1) (some (t_.a7==1)) (cond (t_.a7==2) (some (t_.a7==2)) (some (t_.a7==3)))) λ(dP:Bool)=>cond dP (lt (cond (decide (x9<0)) (!(t_.bU==[])) false) λkX=>some (true,false,false,false,kX)) (cond (t_.a7==4) (lt (cond (decide (x9<0)) (!(t_.bU==[])) false) λgA=>Option.bind (cond gA (cond t_.eU (some default) (Jm t_.bU)) (some default)) λeG=>Option.bind (cond gA (cond t_.eU (some default) (cond eG (strings_HasPrefix t_.bU [45,45]) (some default))) (some default)) λir=>lt (cond gA (cond (cond t_.eU true (cond eG (!ir) false)) true (t_.bU==[45])) false) λs0=>some (true,false,false,true,s0)) (Option.bind (cond (t_.a7==5) (some (t_.a7==5)) (some (t_.a7==7))) λ(z37:Bool)=>cond z37 (some (true,false,false,false,decide (x9<0))) (cond (t_.a7==9) (lt (cond (decide (x9<0)) (ln t_.bU==1) false) λpY=>au (pY=true→0≤(0:Int)∧(0:Int)<ln t_.bU)<|lt (cond pY (!(Fo (bg t_.bU 0))) false) λfV=>Option.bind (cond (cond fV true (t_.bU==[45])) (strings_Contains [32,9,10,12,13,34,39,58,59,44,91,93,40,41,123,125] t_.bU) (some default)) λmm=>lt (cond (cond fV true (t_.bU==[45])) (!mm) false) λlu=>some (true,false,false,false,lu)) (Option.bind (cond (t_.a7==10) (some (t_.a7==10)) (cond (t_.a7==11) (some (t_.a7==11)) (some (t_.a7==12)))) λ(um:Bool)=>cond um (lt (cond (decide (x9<0)) (decide ((-1000000000000)≤t_.bj)) false) λCl=>lt (cond Cl (decide (t_.bj≤1000000000000)) false) λoN=>lt (cond oN (cond (!t_.eU) true (Int.tmod t_.bj 1000==0)) false) λCm=>lt (cond Cm (cond (!(t_.a7==12)) true (!(t_.Unit==[]))) false) λCn=>some (false,t_.a7==12,true,t_.a7 !=11,Cn)) (lt (cond (decide (13≤t_.a7)) (decide (t_.a7≤24)) false) λs3=>some (false,false,false,false,s3))))))) λ(z12:Bool×Bool×Bool×Bool×Bool)=>lt (cond z12.2.2.2.2 (cond z12.1 true (t_.bU==[])) false) λCo=>lt (cond Co (cond z12.2.1 true (t_.Unit==[])) false) λS2=>lt (cond S2 (cond z12.2.2.1 true (t_.bj==0)) false) λS3=>lt (cond S3 (cond z12.2.2.2.1 true (!t_.eU)) false) λS4=>some S4
theorem a6j(t_)(r)(hm:Ck t_=some r):Rt 152 [.agg ⟨e7 t_⟩] (vB r):=by
 rw[Ck]at hm;refine cA (call152 _) func152 ntmps152 λM X w=>(az ?_);refine uM [] [] [0] (oB (e7 t_) rfl) λb1=>?_;refine uP 2 [] (an ?_);refine uR [] [3,4,5,6] [vF,vF,vF,vF] [] ?_;obtain⟨s4,x9,lr,hm⟩:=bY hm;refine uA 7 (vB (decide (x9<0))) [kb 0 1,kb 0 3,kh s4,kc (IZ (t_.bU++t_.Unit) 0)] ?_ (he:=by subst lr;kernel_rfl);obtain⟨z12,hz,hm⟩:=ai hm;refine uK [] [3,4,5,6,7] [vB z12.1,vB z12.2.1,vB z12.2.2.1,vB z12.2.2.2.1,vB z12.2.2.2.2] [eB b1 (e7 t_)] ?_ ?_;replace hm:=hz;refine uA 16 (vU t_.a7) [kb 0 0] (aE ?_);obtain⟨dP,hz,hm⟩:=ai hm;refine uK [] [25] [vB dP] [eB b1 (e7 t_)] ?_ ?_;replace hm:=hz;refine uR [] [1,3,4,5,6,7,16,25] [vP b1,vF,vF,vF,vF,vB (decide (x9<0)),vU t_.a7,vB (t_.a7==1)] [] ?_;refine uC hm ?_ ?_;intro hm;refine ah ?_;cases hm;exact te;intro hm;refine uA 25 (vB (t_.a7==2)) [] ?_;refine uC hm ?_ ?_;intro hm;refine ah ?_;cases hm;exact te;intro hm;refine uV 25 (vB (t_.a7==3)) [] ?_;cases hm;exact te;refine lF (λhc=>?S5) (λhc=>?_)
 case S5=>
  replace hm:=bT hc hm;obtain⟨kX,xQ,hm⟩:=bd hm;refine Iw [1,3,4,5,6,7] [vP b1,vT,vF,vF,vF,vB kX] [aV (gT (decide (x9<0))) 0 1] ?_ (he:=by subst xQ;kernel_rfl);cases hm;exact te
 replace hm:=bF hc hm;refine uR [25] [1,3,4,5,6,7,16,35] [vP b1,vF,vF,vF,vF,vB (decide (x9<0)),vU t_.a7,vB (t_.a7==4)] [] ?_;refine uC hm ?_ ?_;intro hm;refine uR [16,35] [3,6] [vT,vT] [] ?_;obtain⟨gA,uo,eG,s5,hm⟩:=lH hm;obtain⟨ir,vZ,s0,Jo,hm⟩:=gK hm;refine uV 7 (vB s0) [aV (gT (decide (x9<0))) 0 1,aV (gT gA) 0 4,aV (t_.eU=false∧gA=true∧True) 0 1,dB (t_.eU=false∧gA=true∧True) λhg=>a6d _ _ (bF (hg.1) (bT (hg.2.1) s5)),aV (eG=true∧t_.eU=false∧gA=true∧True) 0 1,dB (eG=true∧t_.eU=false∧gA=true∧True) λhg=>Np _ _ _ (bT (hg.1) (bF (hg.2.1) (bT (hg.2.2.1) vZ))),aV (cond t_.eU true (cond eG (!ir) false)=false∧gA=true∧True) 0 1] ?_ (he:=by subst uo Jo;kernel_rfl);cases hm;exact te;intro hm;obtain⟨z37,hz,hm⟩:=ai hm;refine uK [35] [63] [vB z37] [eB b1 (e7 t_)] ?_ ?_;replace hm:=hz;refine uR [35] [63] [vB (t_.a7==5)] [] ?_;refine uC hm ?_ ?_;intro hm;refine ah ?_;cases hm;exact te;intro hm;refine uV 63 (vB (t_.a7==7)) [] ?_;cases hm;exact te;refine lF (λhc=>?c81) (λhc=>?_)
 case c81=>
  replace hm:=bT hc hm;refine uW [16,63] [3] [vT] [] ?_;cases hm;exact te
 replace hm:=bF hc hm;refine uR [63] [66] [vB (t_.a7==9)] [] ?_;refine uC hm ?_ ?_;intro hm;refine uR [16,66] [3] [vT] [] ?_;obtain⟨pY,J4,Nq,hm⟩:=u5 hm;obtain⟨fV,xE,hm⟩:=bd hm;refine uA 7 (vB (cond fV true (t_.bU==[45]))) [aV (gT (decide (x9<0))) 0 1,aV (gT pY) 0 1,j4 (gT pY) λhg=>Nq hg.1,dB (gT pY) λhg=>a6f (bg t_.bU 0),aV (gF fV) 0 1] ?_ (he:=by subst J4 xE;kernel_rfl);obtain⟨mm,Jp,lu,Cp,hm⟩:=gK hm;refine uV 7 (vB lu) [aV (gT (cond fV true (t_.bU==[45]))) 0 1,dB (gT (cond fV true (t_.bU==[45]))) λhg=>a6i _ _ _ (bT (hg.1) Jp)] ?_ (he:=by subst Cp;kernel_rfl);cases hm;exact te;intro hm;obtain⟨um,hz,hm⟩:=ai hm;refine uK [16,66] [94] [vB um] [eB b1 (e7 t_)] ?_ ?_;replace hm:=hz;refine uR [66] [94] [vB (t_.a7==10)] [] ?_;refine uC hm ?_ ?_;intro hm;refine ah ?_;cases hm;exact te;intro hm;refine uA 94 (vB (t_.a7==11)) [] ?_;refine uC hm ?_ ?_;intro hm;refine ah ?_;cases hm;exact te;intro hm;refine uW [16] [94] [vB (t_.a7==12)] [] ?_;cases hm;exact te;refine uC hm ?_ ?_;intro hm;refine pp [1,3,4,5,6,7] [vP b1,vF,vB (t_.a7==12),vT,vB (t_.a7 !=11),vB (decide (x9<0))] [kb 0 0,kb 0 0] ?_;obtain⟨Cl,S6,oN,C8,hm⟩:=cU hm;obtain⟨Cm,S7,Cn,S8,hm⟩:=cU hm;refine uV 7 (vB Cn) [aV (gT (decide (x9<0))) 0 2,aV (gT Cl) 0 2,aV (gT oN) 0 4,aV ((!t_.eU)=false∧oN=true∧True) 0 2,⟨none,λ_=>((!t_.eU)=false∧oN=true∧True→(1000:Int)≠0),λ_ _=>λhg=>(by show(1000:Int)≠0;decide)⟩,aV ((!(t_.a7==12))=false∧Cm=true∧True) 0 3] ?_ (he:=by subst S6 C8 S7 S8;kernel_rfl);cases hm;exact te;intro hm;obtain⟨s3,Jq,hm⟩:=bd hm;refine uW [94] [7] [vB s3] [kb 0 0,aV (gT (decide (13≤t_.a7))) 0 0] ?_ (he:=by subst Jq;kernel_rfl);cases hm;exact te;obtain⟨Co,S9,S2,a6k,hm⟩:=cU hm;obtain⟨S3,a6l,S4,a6m,hm⟩:=cU hm;refine uR [1,3,4,5,6,7] [2] [vB S4] [aV (z12.1=false∧z12.2.2.2.2=true∧True) 0 1,aV (z12.2.1=false∧Co=true∧True) 0 3,aV (z12.2.2.1=false∧S2=true∧True) 0 2,aV (z12.2.2.2.1=false∧S3=true∧True) 0 4] ?_ (he:=by subst S9 a6k a6l a6m;kernel_rfl);refine al [] (ax ?_);cases hm;exact aI [] aR

def Cq(i:Int)(k_:Int)(u0:List bW):Option Bool:=au (decide (i<ln u0)=true→0≤i∧i<ln u0)<|lt (cond (decide (i<ln u0)) ((gi u0 i).a7==k_) false) λx4=>some x4
theorem Sa{gf:Nat}{px:Gh}(i)(k_)(u0)(r)(hm:Cq i k_ u0=some r)(w)(hL:Rd [aU.ro gf [vL px u0],eI fy u0 px] w):Rb 189 [vI i,vU k_,vP gf] (vB r) w:=by
 rw[Cq]at hm;refine c7 hL (call189 _) func189 ntmps189 λM X w=>?_;refine uO [] ?_;obtain⟨mM,x4,mg,hm⟩:=bY hm;refine uR [0,1,2] [5] [vB x4] [ko 0 0,kgo (gT (decide (i<ln u0))) 0 0,iT (gT (decide (i<ln u0))) 1 λhg=>mM hg.1,jF (gT (decide (i<ln u0))) 1 0 λhg=>mM hg.1] ?_ (he:=by subst mg;kernel_rfl);refine al [] (ax ?_);cases hm;exact aI [] aR

def Jr(m:Nat)(a_:ag)(b_:ag):Option Bool:=Option.bind (uh m a_) λy3=>Option.bind (uh m b_) λy4=>some (y3==y4)
theorem a6n(m)(a_)(b_)(r)(hm:Jr m a_ b_=some r):Rt 190 [vS a_,vS b_] (vB r):=by
 rw[Jr]at hm;refine cA (call190 _) func190 ntmps190 λM X w=>?_;refine uO [] ?_;obtain⟨y3,cC,y4,lL,hm⟩:=kg hm;cases hm;exact uZ [] [kc (J8 m _ _ cC),kc (J8 m _ _ lL)]

def Js(m:Nat)(l_:List bW):Option Int:=au (0≤(0:Int)∧(0:Int)<ln l_)<|lt (cond ((gi l_ (0:Int)).a7==9) ((gi l_ (0:Int)).bU==[92]) false) λmn=>cond mn (Option.bind (Cq 1 13 l_) λdW=>cond (!dW) (some 0) (some 2)) (Option.bind (cond ((gi l_ (0:Int)).a7==2) (Jr m (gi l_ (0:Int)).bU [117,114,108]) (some default)) λiV=>lt (cond ((gi l_ (0:Int)).a7==2) iV false) λs6=>cond s6 (Option.bind (Option.bind (Cq 1 13 l_) λfH=>cond fH (some 2) (some 1)) λ(zQ:Int)=>Option.bind (Cq zQ 5 l_) λkY=>cond (!kY) (some 0) (some (a8 (zQ+1)))) (some 1))
theorem a6o{a6:Gh}(m)(l_)(r)(hm:Js m l_=some r)(w)(hL:Rd [eI fy l_ a6] w):Rb 153 [vL a6 l_] (vI r) w:=by
 rw[Js]at hm;refine c7 hL (call153 _) func153 ntmps153 λM X w=>(az ?_);refine uM [] [0] [0] (oB [vL a6 l_] rfl) λb1=>?_;refine uP 2 [] (an ?_);refine uA 3 (.func (.func 189) ⟨[]⟩ ⟨[vP b1]⟩) [] (aq (az ?_));obtain⟨s4,hm⟩:=bO hm;refine uB 3 [1] [9] [.agg ⟨e7 (gi l_ (0:Int))⟩] [kb 0 0,ki 1 s4,⟨some (.agg ⟨e7 (gi l_ (0:Int))⟩),λwz=>V.bn (ab a6.a) (ao a6.a+((0:Int)).toNat*5) (e7 (gi l_ (0:Int))) 0 wz,λ_ hS=>(hS.im 1 rfl).cS s4 0 rfl⟩] ?_;refine uM [] [0,1] [] (oA [vU 0,vN,vI 0,vN,vF]) λfo=>?_;refine uL [0] [1,2] [9] (oS (e7 (gi l_ (0:Int))) rfl rfl) (an (aE ?_));obtain⟨mn,uq,hm⟩:=bd hm;refine uA 10 (vB mn) [kb 0 0,aV (gT ((gi l_ (0:Int)).a7==9)) 0 1] ?_ (he:=by subst uq;kernel_rfl);refine uC hm ?_ ?_;intro hm;refine aq ?_;obtain⟨dW,mJ,hm⟩:=ai hm;refine uR [3,4,10] [21] [vB (!dW)] [kr λ_ hS=>Sa (gf:=b1) (px:=a6) _ _ _ _ mJ _ (np (aw aS (hS.im 2 rfl)) (hS.bk 1 rfl))] (al [] ?_);refine uC hm ?_ ?_;intro hm;cases hm;exact uZ [] [];intro hm;refine ah ?_;cases hm;exact uZ [] [];intro hm;obtain⟨iV,ud,s6,Cr,hm⟩:=gK hm;refine uR [4,10] [3,22] [.func (.func 189) ⟨[]⟩ ⟨[vP b1]⟩,vB s6] [kb 0 0,aV (gT ((gi l_ (0:Int)).a7==2)) 0 1,dB (gT ((gi l_ (0:Int)).a7==2)) λhg=>a6n m _ _ _ (bT (hg.1) ud)] ?_ (he:=by subst Cr;kernel_rfl);refine al [1,2] ?_;refine uC hm ?_ ?_;intro hm;refine uR [22] [5] [vI 1] [] ?_;obtain⟨zQ,hz,hm⟩:=ai hm;refine uK [] [5] [vI zQ] [eB b1 [vL a6 l_],eI fy l_ a6] ?_ ?_;replace hm:=hz;obtain⟨fH,qd,hm⟩:=ai hm;refine uI [kr λ_ hS=>Sa (gf:=b1) (px:=a6) _ _ _ _ qd _ (np (aw aS (hS.im 1 rfl)) (hS.bk 0 rfl))] hm ?_ ?_;intro hm;refine uV 5 (vI 2) [] ?_;cases hm;exact te;intro hm;refine ah ?_;cases hm;exact te;refine aq ?_;obtain⟨kY,Fp,hm⟩:=ai hm;refine uR [3] [39] [vB (!kY)] [kr λ_ hS=>Sa (gf:=b1) (px:=a6) _ _ _ _ Fp _ (np (aw aS (hS.im 1 rfl)) (hS.bk 0 rfl))] (al [] ?_);refine uC hm ?_ ?_;intro hm;cases hm;exact uZ [] [];intro hm;refine ah ?_;cases hm;exact uZ [] [];intro hm;refine ah (uR [3,22] [2] [vI 1] [] (al [] (ax ?_)));cases hm;exact aI [] aR

def Fq(m:Nat)(l_:List bW):Nat→Int→Option (Sum Int Unit)
 |0,_=>none
 |kk+1,v10=>cond (decide (v10<ln l_)) (au (0≤v10∧v10<ln l_)<|Option.bind (Option.bind (Ck (gi l_ v10)) λdO=>lt (!dO) λlq=>cond lq (some true) (au (0≤v10∧v10≤ln l_∧ln l_≤ln l_)<|lt (eY l_ v10 (ln l_)) λFs=>Option.bind (Js m Fs) λkA=>some (kA==0))) λ(qe:Bool)=>cond qe (some (.inl 8)) (Fq m l_ kk (a8 (v10+1)))) (some (.inr ()))
def Ct(m:Nat)(l_:List bW):Option Int:=cond (decide (1500<ln l_)) (some 4) (Option.bind (Fq m l_ m 0) λ(z7:Sum Int Unit)=>bK z7 λgk=>some 0)
theorem a6p{a6:Gh}(m)(l_)(r)(hm:Ct m l_=some r)(w)(hL:Rd [eI fy l_ a6] w):Rb 104 [vL a6 l_] (vI r) w:=by
 rw[Ct]at hm;refine c7 hL (call104 _) func104 ntmps104 λM X w=>?_;refine uO [] (aq ?_);refine uA 7 (vB (decide (1500<ln l_))) [] ?_;refine uC hm ?_ ?_;intro hm;refine uR [0,7] [2] [vI 4] [] (al [] (ax ?_));cases hm;exact aI [] aR;intro hm;refine ah ?_;obtain⟨z7,hz,nA⟩:=ai hm;intro _ _ H4 hS;refine df (λa' w'=>∃gk:Unit,z7=Sum.inr gk∧Fr 26 [] a'∧SH M X w [eI fy l_ a6] w') ?_ ?_;replace hm:=hz;refine aQ H4 hS (uR [7] [8,9,10] [vL a6 l_,vI (ln l_),vI 0] [] (aE ?_));refine dH [] [10] (λv10=>[vI v10]) (λ_=>[eI fy l_ a6]) hm (λkk v10 hm=>?_);rw[Fq]at hm;refine uA 11 (vB (decide (v10<ln l_))) [] (aq ?_);refine uC hm ?_ ?_;intro hm;refine ah (aq (aE (az ?_)));obtain⟨cd,hm⟩:=bO hm;refine uB 3 [11] [12,14] [vI v10,.agg ⟨e7 (gi l_ v10)⟩] [ki 0 cd,⟨some (.agg ⟨e7 (gi l_ v10)⟩),λwz=>V.bn (ab a6.a) (ao a6.a+v10.toNat*5) (e7 (gi l_ v10)) 0 wz,λ_ hS=>(hS.im 0 rfl).cS cd 0 rfl⟩] ?_;refine eP [] [0] [0,8,9,10,12,14] [vL a6 l_,vL a6 l_,vI (ln l_),vI v10,vI v10,.agg ⟨e7 (gi l_ v10)⟩] (oA [vU 0,vN,vI 0,vN,vF]) λJ3=>?_;refine uB 5 [12] [3] [vI v10] [] ?_;refine uL [0] [1] [14] (oS (e7 (gi l_ v10)) rfl rfl) (an ?_);obtain⟨qe,hz,hm⟩:=ai hm;refine uK [4,3] [24] [vB qe] [eB J3 (e7 (gi l_ v10)),eI fy l_ a6] ?_ ?_;replace hm:=hz;refine dG ?_;obtain⟨dO,o9,lq,xK,hm⟩:=gK hm;refine uB 4 [4] [18] [vB lq] [kE 0 5,kc (a6j _ _ o9)] ?_ (he:=by subst xK;kernel_rfl);cases lq
 case true=>
  replace hm:=bT rfl hm;intro _ _ sW hS;refine oD 18 [19,0,3,8,9,10,18] (fS [19,0,3,8,9,10,18] [undef,vL a6 l_,vI v10,vL a6 l_,vI (ln l_),vI v10,vT]) sW rfl rfl rfl rfl rfl rfl λ_ pZ=>?_;refine oD 18 [20,0,8,9,10,18,19] (fS [20,0,8,9,10,18,19] [undef,vL a6 l_,vL a6 l_,vI (ln l_),vI v10,vT,undef]) pZ rfl rfl rfl rfl rfl rfl λ_ w8=>?_;refine oD 18 [21,0,8,9,10,18] (fS [21,0,8,9,10,18] [undef,vL a6 l_,vL a6 l_,vI (ln l_),vI v10,vT]) w8 rfl rfl rfl rfl rfl rfl λ_ Jt=>?_;refine oD 18 [22,0,8,9,10,18] (fS [22,0,8,9,10,18] [undef,vL a6 l_,vL a6 l_,vI (ln l_),vI v10,vT]) Jt rfl rfl rfl rfl rfl rfl λ_ Ju=>?_;refine oD 18 [23,0,8,9,10,18] (fS [23,0,8,9,10,18] [undef,vL a6 l_,vL a6 l_,vI (ln l_),vI v10,vT]) Ju rfl rfl rfl rfl rfl rfl λ_ zW=>?_;refine aQ zW hS (qS 10 [0,8,9,10,24] [vL a6 l_,vL a6 l_,vI (ln l_),vI v10,vT] [] (an ?_));cases hm;exact te
 replace hm:=bF rfl hm;intro _ _ sW hS;refine QH 4 6 [] [(0,0),(8,0),(9,0),(10,0),(18,0),(19,1),(20,1)] (fS [0,8,9,10,18,19,20] [vL a6 l_,vL a6 l_,vI (ln l_),vI v10,vF,vL a6 l_,vI v10]) [] sW (by decide) (by kernel_rfl) trivial λ_ _ wa hb=>?_;replace hS:=hS.below hb;obtain⟨pr,Fs,Nr,hm⟩:=bY hm;have hd:=hS.hand [1] [0,1] rfl rfl;refine QI 18 [21,0,8,9,10,18] (fS [0,8,9,10,18] [vL a6 l_,vL a6 l_,vI (ln l_),vI v10,vF]) wa rfl rfl rfl rfl (zd (T:=fy) (E:=102) (g:=a6) (q:=l_) v10 (ln l_) (.some (vI v10)) .none wa hd (hd.im 0 rfl) rfl rfl rfl rfl rfl rfl (.inr ⟨_,rfl⟩) (.inl ⟨rfl,rfl⟩) (by kernel_rfl) (by kernel_rfl) pr) (λ_=>rfl) λ_ _ v Ft hq=>?_;obtain⟨kZ,rfl,hq⟩:=hq;rw[←Nr]at hq;rw[←Nr]at Ft;replace hS:=hS.join [1] [0,1] rfl rfl hq;obtain⟨kA,wb,hm⟩:=ai hm;refine aQ Ft hS (qS 10 [0,8,9,10,24] [vL a6 l_,vL a6 l_,vI (ln l_),vI v10,vB (kA==0)] [eo (gF false) λ_ hS hg=>a6o (a6:=kZ) m _ _ wb _ (aw aS (hS.im 0 rfl))] (an (al [1,2] ?_)));cases hm;refine al [1,0] ?_;exact te;refine al [1] ?_;refine uC hm ?_ ?_;intro hm;cases hm;have hm:=nA;cases hm;exact uZ [] [];intro hm;exact ah (dI [] hm);intro hm;refine bt ?_;cases hm;exact λ_ _ oV hS=>⟨_,rfl,aD.bc (ks:=[]) oV (by kernel_rfl),hS⟩;rintro _ _ ⟨gk,hz,H,hS⟩;subst hz;replace hm:=cG nA;replace hS:SH M _ w [] _:=hS.aY [] rfl;refine aQ H hS ?_;cases hm;exact uZ [] []

def gX(v_:aj)(db:Int):Bool:=v_.ay.a7==db
theorem Cv{eC:Gh}(v_:aj)(db:Int)(w)(hL:Rd [eI ae v_.J eC] w):Rb 108 [.agg ⟨e3 v_ (gL [eC])⟩,vU db] (vB (gX v_ db)) w:=by
 generalize hm:gX v_ db=r;rw[gX]at hm;refine c7 hL (call108 _) func108 ntmps108 λM X w=>(az ?_);refine uM [] [0] [0] (oB (e3 v_ (gL [eC])) rfl) λb1=>?_;refine uP 2 [] (an ?_);refine uR [1,2] [4] [vB (v_.ay.a7==db)] [kb 0 0] (al [] (ax ?_));subst hm;exact aI [] aR

def Ns(cX:(List aj)→Option Bool):Prop:=∀(aN:Gh)(M:Av)(v_:List aj)(r:Bool),cX v_=some r→∀w,S0 M [eI ae v_ aN] w→Calls prog 105 ⟨[vL aN v_]⟩ w (λe w'=>∃v,e=.returned v∧v=vB r∧SH M (aH [eI ae v_ aN]) w [] w')
def Jv(m:Nat)(oW:(List aj)→Option Bool)(x_:aj):Option Bool:=lt (cond (gX x_ 20) true (gX x_ 22)) λx6=>Option.bind (cond (cond x6 true (gX x_ 24)) (some default) (oW x_.J)) λy7=>lt (cond (cond x6 true (gX x_ 24)) true y7) λx8=>some x8
theorem a6q{cH:Gh}(m)(oW)(Jw:Ns oW)(x_)(r)(hm:Jv m oW x_=some r)(w)(hL:Rd [eI ae x_.J cH] w):Rb 154 [.agg ⟨e3 x_ (gL [cH])⟩] (vB r) w:=by
 rw[Jv]at hm;refine c7 hL (call154 _) func154 ntmps154 λM X w=>(az ?_);refine uM [] [0] [0] (oB (e3 x_ (gL [cH])) rfl) λb1=>?_;refine uP 2 [] (an ?_);obtain⟨x6,iC,y7,rT,hm⟩:=lH hm;obtain⟨x8,nB,hm⟩:=bd hm;refine uR [1] [2] [vB x8] [kE 0 6,⟨some (vB (gX x_ 20)),rB 108 [.agg ⟨e3 x_ (gL [cH])⟩,vU 20] (vB (gX x_ 20)),λ_ hS=>Cv (eC:=cH) x_ 20 _ (aw aS (hS.im 1 rfl))⟩,⟨some (.agg ⟨e3 x_ (gL [cH])⟩),λwz=>gX x_ 20=false∧True→V.bn b1 0 (e3 x_ (gL [cH])) 0 wz,λ_ hS=>λhg=>(hS.bk 0 rfl).cM rfl⟩,⟨some (vB (gX x_ 22)),λwz=>gX x_ 20=false∧True→jn prog 108 ⟨[.agg ⟨e3 x_ (gL [cH])⟩,vU 22]⟩ (vB (gX x_ 22)) wz,λ_ hS=>λhg=>Cv (eC:=cH) x_ 22 _ (aw aS (hS.im 1 rfl))⟩,⟨some (.agg ⟨e3 x_ (gL [cH])⟩),λwz=>x6=false∧True→V.bn b1 0 (e3 x_ (gL [cH])) 0 wz,λ_ hS=>λhg=>(hS.bk 0 rfl).cM rfl⟩,⟨some (vB (gX x_ 24)),λwz=>x6=false∧True→jn prog 108 ⟨[.agg ⟨e3 x_ (gL [cH])⟩,vU 24]⟩ (vB (gX x_ 24)) wz,λ_ hS=>λhg=>Cv (eC:=cH) x_ 24 _ (aw aS (hS.im 1 rfl))⟩,aV (gF (cond x6 true (gX x_ 24))) 0 5,eo (gF (cond x6 true (gX x_ 24))) λ_ hS hg=>dF (aw aS (hS.im 1 rfl)) (call105 _) (λw' h'=>Jw cH F0 _ _ (bF (hg.1) rT) w' h')] ?_ (he:=by subst iC nB;kernel_rfl);refine al [] (ax ?_);cases hm;exact aI [] aR
def Fu(m:Nat)(oW:(List aj)→Option Bool)(s:List aj):Nat→Int→Option (Sum Int Unit)
 |0,_=>none
 |kk+1,v6=>cond (decide (v6<ln s)) (au (0≤v6∧v6<ln s)<|Option.bind (Jv m oW (gi s v6)) λdD=>cond dD (some (.inl v6)) (Fu m oW s kk (a8 (v6+1)))) (some (.inr ()))
def Nt(m:Nat)(oW:(List aj)→Option Bool)(s:List aj):Option Int:=Option.bind (Fu m oW s m 0) λ(z3:Sum Int Unit)=>bK z3 λcO=>some (-1)
theorem a6r{bi:Gh}(m)(oW)(Jw:Ns oW)(s)(r)(hm:Nt m oW s=some r)(w)(hL:Rd [eI ae s bi] w):Rb 155 [vL bi s,.func (.func 154) ⟨[]⟩ ⟨[]⟩] (vI r) w:=by
 rw[Nt]at hm;refine c7 hL (call155 _) func155 ntmps155 λM X w=>?_;refine uO [] ?_;obtain⟨z3,hz,dJ⟩:=ai hm;intro _ _ H2 hS;refine df (λa' w'=>∃cO:Unit,z3=Sum.inr cO∧Fr 19 [] a'∧SH M X w [eI ae s bi] w') ?_ ?_;replace hm:=hz;refine aQ H2 hS (uR [] [7,8] [vI (ln s),vI 0] [] (aE ?_));refine dH [] [8] (λv6=>[vI v6]) (λ_=>[eI ae s bi]) hm (λkk v6 hm=>?_);rw[Fu]at hm;refine uA 9 (vB (decide (v6<ln s))) [] (aq ?_);refine uC hm ?_ ?_;intro hm;refine ah (aq (aE (uR [9] [5] [vI v6] [] ?_)));obtain⟨ef,dD,iU,hm⟩:=fU hm;refine uI [ki 0 ef,⟨some (.agg ⟨e3 (gi s v6) (bi.s v6.toNat)⟩),λwz=>V.bn (ab bi.a) (ao bi.a+v6.toNat*6) (e3 (gi s v6) (bi.s v6.toNat)) 0 wz,λ_ hS=>(hS.im 0 rfl).cS ef 0 rfl⟩,kr λ_ hS=>a6q (cH:=bi.s v6.toNat 0) m _ Jw _ _ iU _ (aw aS (lZ ((hS.im 0 rfl).el ef)))] hm ?_ ?_;intro hm;cases hm;have hm:=dJ;cases hm;exact uZ [] [];intro hm;exact ah (dI [] hm);intro hm;refine bt ?_;cases hm;exact λ_ _ H8 hS=>⟨_,rfl,aD.bc (ks:=[]) H8 (by kernel_rfl),hS⟩;rintro _ _ ⟨cO,hz,H,hS⟩;subst hz;replace hm:=cG dJ;replace hS:SH M _ w [] _:=hS.aY [] rfl;refine aQ H hS ?_;cases hm;exact uZ [] []
def Nu(m:Nat)(oW:(List aj)→Option Bool)(s:List aj):Option Bool:=Option.bind (Nt m oW s) λy3=>some (decide (0≤y3))
theorem a6s{bi:Gh}(m)(oW)(Jw:Ns oW)(s)(r)(hm:Nu m oW s=some r)(w)(hL:Rd [eI ae s bi] w):Rb 106 [vL bi s,.func (.func 154) ⟨[]⟩ ⟨[]⟩] (vB r) w:=by
 rw[Nu]at hm;refine c7 hL (call106 _) func106 ntmps106 λM X w=>?_;refine uO [] ?_;obtain⟨y3,cC,hm⟩:=ai hm;refine uR [0,1] [4] [vB (decide (0≤y3))] [kr λ_ hS=>a6r (bi:=bi) m _ Jw _ _ cC _ (aw aS (hS.im 0 rfl))] (al [] (ax ?_));cases hm;exact aI [] aR
def zY(m:Nat):Nat→List aj→Option Bool
 |0,_=>none
 |k+1,v_=>Option.bind (Nu m (zY m k) v_) λy3=>some y3
theorem a6t(m:Nat):∀(k:Nat),Ns (zY m k):=by
 intro k
 induction k with
 |zero=>intro aN M v_ r hm;exact eJ hm
 |succ k ih=>
  intro aN M v_ r hm w hS;rw[zY]at hm;have aK:SH M (aH [eI ae v_ aN]) w [eI ae v_ aN] w:=hS;generalize hX:aH [eI ae v_ aN]=X at aK⊢;clear hS hX;have hS:=aK;clear aK;refine fk func105 rfl ntmps105 rfl λ_ H=>?_;refine aQ H hS (jq [0] [vL aN v_] [] ?_);obtain⟨y3,cC,hm⟩:=ai hm;refine uR [0] [2] [vB y3] [kr λ_ hS=>a6s (bi:=aN) m _ ih _ _ cC _ (aw aS (hS.im 0 rfl))] (al [] (ax ?_));cases hm;exact aI [] aR
def Sb(m:Nat)(v_:List aj):Option Bool:=zY m m v_
theorem a6u{aN:Gh}(m)(v_)(r)(hm:Sb m v_=some r)(w)(hL:Rd [eI ae v_ aN] w):Rb 105 [vL aN v_] (vB r) w:=dF hL (call105 _) (λw' h=>a6t m m aN F0 v_ r hm w' h)

def Cw(v_:aj):Bool:=lt (cond (gX v_ 9) (v_.ay.bU==[33]) false) λx6=>x6
theorem a6v{eC:Gh}(v_:aj)(w)(hL:Rd [eI ae v_.J eC] w):Rb 109 [.agg ⟨e3 v_ (gL [eC])⟩] (vB (Cw v_)) w:=by
 generalize hm:Cw v_=r;rw[Cw]at hm;refine c7 hL (call109 _) func109 ntmps109 λM X w=>(az ?_);refine uM [] [0] [0] (oB (e3 v_ (gL [eC])) rfl) λb1=>?_;refine uP 2 [] (an ?_);obtain⟨x6,iC,hm⟩:=bd hm;refine uR [1] [2] [vB x6] [kE 0 6,⟨some (vB (gX v_ 9)),rB 108 [.agg ⟨e3 v_ (gL [eC])⟩,vU 9] (vB (gX v_ 9)),λ_ hS=>Cv (eC:=eC) v_ 9 _ (aw aS (hS.im 1 rfl))⟩,aV (gT (gX v_ 9)) 0 1] ?_ (he:=by subst iC;kernel_rfl);refine al [] (ax ?_);subst hm;exact aI [] aR

def Nv(x_:aj):Bool:=cond (gX x_ 17) true (Cw x_)
theorem a6w{cH:Gh}(x_:aj)(w)(hL:Rd [eI ae x_.J cH] w):Rb 107 [.agg ⟨e3 x_ (gL [cH])⟩] (vB (Nv x_)) w:=by
 generalize hm:Nv x_=r;rw[Nv]at hm;refine c7 hL (call107 _) func107 ntmps107 λM X w=>(az ?_);refine uM [] [0] [0] (oB (e3 x_ (gL [cH])) rfl) λb1=>?_;refine uP 2 [] (an ?_);refine uR [1] [2] [vB (cond (gX x_ 17) true (Cw x_))] [kE 0 6,⟨some (vB (gX x_ 17)),rB 108 [.agg ⟨e3 x_ (gL [cH])⟩,vU 17] (vB (gX x_ 17)),λ_ hS=>Cv (eC:=cH) x_ 17 _ (aw aS (hS.im 1 rfl))⟩,⟨some (.agg ⟨e3 x_ (gL [cH])⟩),λwz=>gX x_ 17=false∧True→V.bn b1 0 (e3 x_ (gL [cH])) 0 wz,λ_ hS=>λhg=>(hS.bk 0 rfl).cM rfl⟩,⟨some (vB (Cw x_)),λwz=>gX x_ 17=false∧True→jn prog 109 ⟨[.agg ⟨e3 x_ (gL [cH])⟩]⟩ (vB (Cw x_)) wz,λ_ hS=>λhg=>a6v (eC:=cH) x_ _ (aw aS (hS.im 1 rfl))⟩] (al [] (ax ?_));subst hm;exact aI [] aR

def Fv(m:Nat)(s:List aj):Nat→Int→Option (Sum Int Unit)
 |0,_=>none
 |kk+1,v6=>cond (decide (v6<ln s)) (au (0≤v6∧v6<ln s)<|cond (Nv (gi s v6)) (some (.inl v6)) (Fv m s kk (a8 (v6+1)))) (some (.inr ()))
def Nw(m:Nat)(s:List aj):Option Int:=Option.bind (Fv m s m 0) λ(z3:Sum Int Unit)=>bK z3 λcO=>some (-1)
theorem a6x{bi:Gh}(m)(s)(r)(hm:Nw m s=some r)(w)(hL:Rd [eI ae s bi] w):Rb 155 [vL bi s,.func (.func 107) ⟨[]⟩ ⟨[]⟩] (vI r) w:=by
 rw[Nw]at hm;refine c7 hL (call155 _) func155 ntmps155 λM X w=>?_;refine uO [] ?_;obtain⟨z3,hz,dJ⟩:=ai hm;intro _ _ H2 hS;refine df (λa' w'=>∃cO:Unit,z3=Sum.inr cO∧Fr 19 [] a'∧SH M X w [eI ae s bi] w') ?_ ?_;replace hm:=hz;refine aQ H2 hS (uR [] [7,8] [vI (ln s),vI 0] [] (aE ?_));refine dH [] [8] (λv6=>[vI v6]) (λ_=>[eI ae s bi]) hm (λkk v6 hm=>?_);rw[Fv]at hm;refine uA 9 (vB (decide (v6<ln s))) [] (aq ?_);refine uC hm ?_ ?_;intro hm;refine ah (aq (aE (uR [9] [5] [vI v6] [] ?_)));obtain⟨ef,hm⟩:=bO hm;refine uI [ki 0 ef,⟨some (.agg ⟨e3 (gi s v6) (bi.s v6.toNat)⟩),λwz=>V.bn (ab bi.a) (ao bi.a+v6.toNat*6) (e3 (gi s v6) (bi.s v6.toNat)) 0 wz,λ_ hS=>(hS.im 0 rfl).cS ef 0 rfl⟩,kr λ_ hS=>a6w (cH:=bi.s v6.toNat 0) (gi s v6) _ (aw aS (lZ ((hS.im 0 rfl).el ef)))] hm ?_ ?_;intro hm;cases hm;have hm:=dJ;cases hm;exact uZ [] [];intro hm;exact ah (dI [] hm);intro hm;refine bt ?_;cases hm;exact λ_ _ H8 hS=>⟨_,rfl,aD.bc (ks:=[]) H8 (by kernel_rfl),hS⟩;rintro _ _ ⟨cO,hz,H,hS⟩;subst hz;replace hm:=cG dJ;replace hS:SH M _ w [] _:=hS.aY [] rfl;refine aQ H hS ?_;cases hm;exact uZ [] []

def Jx(m:Nat)(s:List aj):Option Bool:=Option.bind (Nw m s) λy3=>some (decide (0≤y3))
theorem a6y{bi:Gh}(m)(s)(r)(hm:Jx m s=some r)(w)(hL:Rd [eI ae s bi] w):Rb 106 [vL bi s,.func (.func 107) ⟨[]⟩ ⟨[]⟩] (vB r) w:=by
 rw[Jx]at hm;refine c7 hL (call106 _) func106 ntmps106 λM X w=>?_;refine uO [] ?_;obtain⟨y3,cC,hm⟩:=ai hm;refine uR [0,1] [4] [vB (decide (0≤y3))] [kr λ_ hS=>a6x (bi:=bi) m _ _ cC _ (aw aS (hS.im 0 rfl))] (al [] (ax ?_));cases hm;exact aI [] aR

def Fw(m:Nat)(d_:cy):Option Int:=Option.bind (Jk m d_.Value) λcL=>Option.bind (Jl m d_.aO) λeF=>Option.bind (cond (cond (!eF) true (cL.2 !=0)) (some default) (Ct m cL.1)) λgg=>lt (cond (cond (!eF) true (cL.2 !=0)) true (gg !=0)) λsX=>Option.bind (cond sX (some default) (Sb m d_.Value)) λhZ=>cond (cond sX true hZ) (some 8) (Option.bind (Jx m d_.Value) λcE=>cond cE (some 8) (Option.bind (cond (ln d_.Value==0) (strings_HasPrefix d_.aO [45,45]) (some default)) λeG=>au (decide (0<ln d_.Value)=true→cond (ln d_.Value==0) (!eG) false=false→0≤(0:Int)∧(0:Int)<ln d_.Value)<|au (gX (gi d_.Value (0:Int)) 13=false→decide (0<ln d_.Value)=true→cond (ln d_.Value==0) (!eG) false=false→0≤a8 (ln d_.Value-1)∧a8 (ln d_.Value-1)<ln d_.Value)<|lt (gX (gi d_.Value (a8 (ln d_.Value-1))) 13) λlO=>lt (cond (cond (ln d_.Value==0) (!eG) false) true (cond (decide (0<ln d_.Value)) (cond (gX (gi d_.Value (0:Int)) 13) true lO) false)) λkU=>cond kU (some 8) (some 0)))
theorem Ys{cw:Gh}(m)(d_)(r)(hm:Fw m d_=some r)(w)(hL:Rd [eI ae d_.Value cw] w):Rb 58 [.agg ⟨e8 d_ (gL [cw])⟩] (vI r) w:=by
 rw[Fw]at hm;refine c7 hL (call58 _) func58 ntmps58 λM X w=>(az ?_);refine uM [] [0] [0] (oB (e8 d_ (gL [cw])) rfl) λb1=>?_;refine uP 2 [] (an ?_);refine uA 3 (vL cw d_.Value) [kb 0 1] (az ?_);refine uB 1 [] [10] [vL cw d_.Value] [] ?_;obtain⟨cL,iX,hm⟩:=ai hm;refine uQ [1] [0,1] [10] (a69 (aN:=cw) m _ _ iX) λg11=>?_;refine uB 7 [11] [4,5] [vL g11 cL.1,vI cL.2] [] (an (aq ?_));obtain⟨eF,oJ,gg,ur,hm⟩:=kg hm;obtain⟨sX,Jy,hZ,qf,hm⟩:=lH hm;refine uR [4,5] [30] [vB (cond sX true hZ)] [kb 1 0,kc (a6a m _ _ oJ),eo (gF (cond (!eF) true (cL.2 !=0))) λ_ hS hg=>a6p (a6:=g11) m _ _ (bF (hg.1) ur) _ (aw aS (hS.dX 0 rfl)),eo (gF sX) λ_ hS hg=>a6u (aN:=cw) m _ _ (bF (hg.1) qf) _ (aw aS (hS.im 2 rfl))] ?_ (he:=by subst Jy;kernel_rfl);refine al [1,2] ?_;refine uC hm ?_ ?_;intro hm;refine uR [1,3,30] [2] [vI 8] [] (al [] (ax ?_));cases hm;exact aI [] aR;intro hm;refine ah (aq ?_);obtain⟨cE,me,hm⟩:=ai hm;refine uR [30] [1,3,32] [vP b1,vL cw d_.Value,vB cE] [kr λ_ hS=>a6y (bi:=cw) m _ _ me _ (aw aS (hS.im 1 rfl))] ?_;refine uC hm ?_ ?_;intro hm;refine uR [1,3,32] [2] [vI 8] [] (al [] (ax ?_));cases hm;exact aI [] aR;intro hm;refine ah (uR [32] [6] [vI (ln d_.Value)] [] (aq ?_));obtain⟨eG,s5,qg,hm⟩:=BS hm;obtain⟨Sc,lO,vD,hm⟩:=bY hm;obtain⟨kU,xx,hm⟩:=bd hm;refine uR [1,3,6] [60] [vB kU] [aV (gT (ln d_.Value==0)) 0 0,dB (gT (ln d_.Value==0)) λhg=>Np _ _ _ (bT (hg.1) s5),iT (decide (0<ln d_.Value)=true∧cond (ln d_.Value==0) (!eG) false=false∧True) 1 λhg=>qg hg.1 hg.2.1,⟨some (.agg ⟨e3 (gi d_.Value (0:Int)) (cw.s ((0:Int)).toNat)⟩),λwz=>decide (0<ln d_.Value)=true∧cond (ln d_.Value==0) (!eG) false=false∧True→V.bn (ab cw.a) (ao cw.a+((0:Int)).toNat*6) (e3 (gi d_.Value (0:Int)) (cw.s ((0:Int)).toNat)) 0 wz,λ_ hS=>λhg=>(hS.im 1 rfl).cS (qg hg.1 hg.2.1) 0 rfl⟩,⟨some (vB (gX (gi d_.Value (0:Int)) 13)),λwz=>decide (0<ln d_.Value)=true∧cond (ln d_.Value==0) (!eG) false=false∧True→jn prog 108 ⟨[.agg ⟨e3 (gi d_.Value (0:Int)) (cw.s ((0:Int)).toNat)⟩,vU 13]⟩ (vB (gX (gi d_.Value (0:Int)) 13)) wz,λ_ hS=>λhg=>Cv (eC:=cw.s ((0:Int)).toNat 0) (gi d_.Value (0:Int)) 13 _ (aw aS (lZ ((hS.im 1 rfl).el (qg hg.1 hg.2.1))))⟩,iT (gX (gi d_.Value (0:Int)) 13=false∧decide (0<ln d_.Value)=true∧cond (ln d_.Value==0) (!eG) false=false∧True) 1 λhg=>Sc hg.1 hg.2.1 hg.2.2.1,⟨some (.agg ⟨e3 (gi d_.Value (a8 (ln d_.Value-1))) (cw.s (a8 (ln d_.Value-1)).toNat)⟩),λwz=>gX (gi d_.Value (0:Int)) 13=false∧decide (0<ln d_.Value)=true∧cond (ln d_.Value==0) (!eG) false=false∧True→V.bn (ab cw.a) (ao cw.a+(a8 (ln d_.Value-1)).toNat*6) (e3 (gi d_.Value (a8 (ln d_.Value-1))) (cw.s (a8 (ln d_.Value-1)).toNat)) 0 wz,λ_ hS=>λhg=>(hS.im 1 rfl).cS (Sc hg.1 hg.2.1 hg.2.2.1) 0 rfl⟩,⟨some (vB lO),λwz=>gX (gi d_.Value (0:Int)) 13=false∧decide (0<ln d_.Value)=true∧cond (ln d_.Value==0) (!eG) false=false∧True→jn prog 108 ⟨[.agg ⟨e3 (gi d_.Value (a8 (ln d_.Value-1))) (cw.s (a8 (ln d_.Value-1)).toNat)⟩,vU 13]⟩ (vB lO) wz,λ_ hS=>λhg=>(by rw[vD];exact Cv (eC:=cw.s (a8 (ln d_.Value-1)).toNat 0) (gi d_.Value (a8 (ln d_.Value-1))) 13 _ (aw aS (lZ ((hS.im 1 rfl).el (Sc hg.1 hg.2.1 hg.2.2.1)))))⟩] ?_ (he:=by subst vD xx;kernel_rfl);refine al [] (uC hm ?_ ?_);intro hm;cases hm;exact uZ [] [];intro hm;refine ah ?_;cases hm;exact uZ [] []

def a6z(cX:aP→Option Int):Prop:=∀(af:Gh)(aa:Gh)(M:Av)(c_:aP)(r:Int),cX c_=some r→∀w,S0 M [eI ae c_.aA.Value af,eI aZ c_.J aa] w→Calls prog 59 ⟨[.agg ⟨e4 c_ (gL [af,aa])⟩]⟩ w (λe w'=>∃v,e=.returned v∧v=vI r∧SH M (aH [eI ae c_.aA.Value af,eI aZ c_.J aa]) w [] w')
def zZ(m:Nat)(c_:aP)(Yt:aP→Option Int):Nat→Int→Int→Option Int
 |0,_,_=>none
 |kk+1,bf,eM=>cond (decide (eM<ln c_.J)) (au (0≤eM∧eM<ln c_.J)<|Option.bind (Yt (gi c_.J eM)) λeg=>zZ m c_ Yt kk (if bf<eg then eg else bf) (a8 (eM+1))) (some bf)
def xR(m:Nat):Nat→aP→Option Int
 |0,_=>none
 |k+1,c_=>Option.bind (cond (cond (c_.a7==5) true (c_.a7==6)) (some 1) (some 0)) λ(z8:Int)=>Option.bind (zZ m c_ (xR m k) m z8 0) λ(mf:Int)=>some mf
theorem a6A(m:Nat):∀(k:Nat),a6z (xR m k):=by
 intro k
 induction k with
 |zero=>intro af aa M c_ r hm;exact eJ hm
 |succ k ih=>
  intro af aa M c_ r hm w hS;rw[xR]at hm;have aK:SH M (aH [eI ae c_.aA.Value af,eI aZ c_.J aa]) w [eI ae c_.aA.Value af,eI aZ c_.J aa] w:=hS;generalize hX:aH [eI ae c_.aA.Value af,eI aZ c_.J aa]=X at aK⊢;clear hS hX;have hS:=aK;clear aK;refine fk func59 rfl ntmps59 rfl λ_ H=>?_;refine aQ H hS (az (eP [] [0,1] [] [] (oB (e4 c_ (gL [af,aa])) rfl) λb1=>?_));refine uP 2 [] (an ?_);refine uA 3 (vI 0) [] ?_;obtain⟨z8,hz,hm⟩:=ai hm;refine uK [] [3] [vI z8] [eB b1 (e4 c_ (gL [af,aa])),eI ae c_.aA.Value af,eI aZ c_.J aa] ?_ ?_;replace hm:=hz;refine uI [kb 0 0,aV (gF (c_.a7==5)) 0 0] hm ?_ ?_;intro hm;refine uV 3 (vI 1) [] ?_;cases hm;exact te;intro hm;refine ah ?_;cases hm;exact te;obtain⟨mf,hz,hm⟩:=ai hm;refine uK [1] [3] [vI mf] [eB b1 (e4 c_ (gL [af,aa])),eI ae c_.aA.Value af,eI aZ c_.J aa] ?_ ?_;replace hm:=hz;refine uR [1] [15,16,17] [vL aa c_.J,vI (ln c_.J),vI 0] [kb 0 6] (aE ?_);refine fu [] [3,17] (λbf eM=>[vI bf,vI eM]) (λ_ _=>[eB b1 (e4 c_ (gL [af,aa])),eI ae c_.aA.Value af,eI aZ c_.J aa]) hm (λkk bf eM hm=>?_);rw[zZ]at hm;refine uA 18 (vB (decide (eM<ln c_.J))) [] (aq ?_);refine uC hm ?_ ?_;intro hm;refine ah (aq (aE (az ?_)));obtain⟨gY,hm⟩:=bO hm;refine uB 2 [18] [3,15,16,17,20] [vI bf,vL aa c_.J,vI (ln c_.J),vI eM,.agg ⟨e4 (gi c_.J eM) (aa.s eM.toNat)⟩] [ki 2 gY,⟨some (.agg ⟨e4 (gi c_.J eM) (aa.s eM.toNat)⟩),λwz=>V.bn (ab aa.a) (ao aa.a+eM.toNat*7) (e4 (gi c_.J eM) (aa.s eM.toNat)) 0 wz,λ_ hS=>(hS.im 2 rfl).cS gY 0 rfl⟩] ?_;refine uM [] [0,1,2] [] (oA [vU 0,vN,vI 0,vN,vO,vF,vO]) λs7=>?_;refine uL [0] [1,2,3] [20] (oS (e4 (gi c_.J eM) (aa.s eM.toNat)) rfl rfl) (an ?_);obtain⟨eg,re,hm⟩:=ai hm;refine uW [5] [3] [vI (if bf<eg then eg else bf)] [kE 0 7,kr λ_ hS=>dF (aw (aw aS (j5 ((hS.im 3 rfl).el gY))) (jJ ((hS.im 3 rfl).el gY))) (call59 _) (λw' h'=>ih (aa.s eM.toNat 0) (aa.s eM.toNat 1) F0 _ _ re w' h')] (al [1,2,3] ?_);exact fb [] hm;intro hm;refine bt ?_;cases hm;exact te;refine al [] ?_;cases hm;exact uZ [] []
def Nx(m:Nat)(c_:aP):Option Int:=xR m m c_
theorem a6B{af aa:Gh}(m)(c_)(r)(hm:Nx m c_=some r)(w)(hL:Rd [eI ae c_.aA.Value af,eI aZ c_.J aa] w):Rb 59 [.agg ⟨e4 c_ (gL [af,aa])⟩] (vI r) w:=dF hL (call59 _) (λw' h=>a6A m m af aa F0 c_ r hm w' h)

def l7(c_:aP):Bool:=lt (cond (cond (c_.aO==[]) (c_.bj==0) false) (c_.aA.aO==[]) false) λgy=>lt (cond (cond gy (ln c_.aA.Value==0) false) (!c_.aA.js) false) λeZ=>eZ
theorem Fx{af aa:Gh}(c_:aP)(w)(hL:Rd [eI ae c_.aA.Value af,eI aZ c_.J aa] w):Rb 114 [.agg ⟨e4 c_ (gL [af,aa])⟩] (vB (l7 c_)) w:=by
 generalize hm:l7 c_=r;rw[l7]at hm;refine c7 hL (call114 _) func114 ntmps114 λM X w=>(az ?_);refine uM [] [0,1] [0] (oB (e4 c_ (gL [af,aa])) rfl) λb1=>?_;refine uP 2 [] (an (az ?_));refine uB 2 [] [5] [.agg ⟨e8 c_.aA (gL [af])⟩] [⟨some (.agg ⟨e8 c_.aA (gL [af])⟩),λwz=>V.bn b1 3 (e8 c_.aA (gL [af])) 0 wz,λ_ hS=>(hS.bk 0 rfl).cM rfl⟩] ?_;refine uM [] [0,1,2] [] (oA [vN,vO,vF]) λb8=>?_;refine uL [0] [1,2,3] [5] (oS (e8 c_.aA (gL [af])) rfl rfl) (an ?_);obtain⟨gy,oK,eZ,ma,hm⟩:=cU hm;refine uR [1,3] [2] [vB eZ] [kb 1 1,aV (gT (c_.aO==[])) 1 2,aV (gT (cond (c_.aO==[]) (c_.bj==0) false)) 0 0,aV (gT gy) 0 1,aV (gT (cond gy (ln c_.aA.Value==0) false)) 0 2] ?_ (he:=by subst oK ma;kernel_rfl);refine al [] (ax ?_);subst hm;exact aI [] aR

def Jz(m:Nat)(s:List ag)(v_:ag):Nat→Int→Option (Sum Int Unit)
 |0,_=>none
 |kk+1,v6=>cond (decide (v6<ln s)) (au (0≤v6∧v6<ln s)<|cond (v_==gi s v6) (some (.inl v6)) (Jz m s v_ kk (a8 (v6+1)))) (some (.inr ()))
def Ny(m:Nat)(s:List ag)(v_:ag):Option Int:=Option.bind (Jz m s v_ m 0) λ(z3:Sum Int Unit)=>bK z3 λcO=>some (-1)
theorem a6C{bi:Gh}(m)(s)(v_)(r)(hm:Ny m s v_=some r)(w)(hL:Rd [eI tS s bi] w):Rb 162 [vL bi s,vS v_] (vI r) w:=by
 rw[Ny]at hm;refine c7 hL (call162 _) func162 ntmps162 λM X w=>?_;refine uO [] ?_;obtain⟨z3,hz,dJ⟩:=ai hm;intro _ _ H2 hS;refine df (λa' w'=>∃cO:Unit,z3=Sum.inr cO∧Fr 19 [] a'∧SH M X w [eI tS s bi] w') ?_ ?_;replace hm:=hz;refine aQ H2 hS (uR [] [7,8] [vI (ln s),vI 0] [] (aE ?_));refine dH [] [8] (λv6=>[vI v6]) (λ_=>[eI tS s bi]) hm (λkk v6 hm=>?_);rw[Jz]at hm;refine uA 9 (vB (decide (v6<ln s))) [] (aq ?_);refine uC hm ?_ ?_;intro hm;refine ah (aq (aE (uR [9] [5] [vI v6] [] ?_)));obtain⟨ef,hm⟩:=bO hm;refine uI [ki 0 ef,kj 0 0 ef] hm ?_ ?_;intro hm;cases hm;have hm:=dJ;cases hm;exact uZ [] [];intro hm;exact ah (dI [] hm);intro hm;refine bt ?_;cases hm;exact λ_ _ H8 hS=>⟨_,rfl,aD.bc (ks:=[]) H8 (by kernel_rfl),hS⟩;rintro _ _ ⟨cO,hz,H,hS⟩;subst hz;replace hm:=cG dJ;replace hS:SH M _ w [] _:=hS.aY [] rfl;refine aQ H hS ?_;cases hm;exact uZ [] []

def sY(m:Nat)(s:List ag)(v_:ag):Option Bool:=Option.bind (Ny m s v_) λy3=>some (decide (0≤y3))
theorem Nz{bi:Gh}(m)(s)(v_)(r)(hm:sY m s v_=some r)(w)(hL:Rd [eI tS s bi] w):Rb 119 [vL bi s,vS v_] (vB r) w:=by
 rw[sY]at hm;refine c7 hL (call119 _) func119 ntmps119 λM X w=>?_;refine uO [] ?_;obtain⟨y3,cC,hm⟩:=ai hm;refine uR [0,1] [4] [vB (decide (0≤y3))] [kr λ_ hS=>a6C (bi:=bi) m _ _ _ cC _ (aw aS (hS.im 0 rfl))] (al [] (ax ?_));cases hm;exact aI [] aR

def JA(m:Nat)(s:ag):Option Bool:=Option.bind (sY 64 XY s) λy7=>Option.bind (cond (cond (!y7) (decide (ln s≤64)) false) (uh m s) (some default)) λcL=>lt (cond (cond (!y7) (decide (ln s≤64)) false) (cL==s) false) λfm=>lt (cond fm (decide (strings_IndexByte s 0<0)) false) λgM=>some gM
theorem a6D(m)(s)(r)(hm:JA m s=some r):Rt 191 [vS s] (vB r):=by
 rw[JA]at hm;refine cA (call191 _) func191 ntmps191 λM X w=>?_;refine uO [] (az ?_);refine uM [] [] [] (oL tS 9 vN XY [gL [],gL [],gL [],gL [],gL []] (λ_=>aJ.cons trivial (aJ.cons trivial (aJ.cons trivial (aJ.cons trivial (aJ.cons trivial aJ.nil))))) rfl) λg3=>?_;obtain⟨y7,rT,hm⟩:=ai hm;refine uB 4 [4] [3] [vB y7] [kr λ_ hS=>Nz (bi:=g3) 64 _ _ _ rT _ (aw aS (hS.dX 0 rfl))] (an (al [] ?_));obtain⟨cL,iX,fm,mi,hm⟩:=gK hm;obtain⟨gM,nF,hm⟩:=bd hm;refine uR [0,3] [2] [vB gM] [dB (gT (cond (!y7) (decide (ln s≤64)) false)) λhg=>J8 m _ _ (bT (hg.1) iX),dB (gT fm) λhg=>IZ s 0] ?_ (he:=by subst mi nF;kernel_rfl);refine ax ?_;cases hm;exact aI [] aR

def Cx(m:Nat)(l_:List Int):Nat→Int→Option (Sum Int Unit)
 |0,_=>none
 |kk+1,v6=>cond (decide (v6<ln l_)) (au (0≤v6∧v6<ln l_)<|lt (cond (decide (gi l_ v6<(-1000000000000))) true (decide (1000000000000<gi l_ v6))) λgM=>cond gM (some (.inl 8)) (Cx m l_ kk (a8 (v6+1)))) (some (.inr ()))
def NA(m:Nat)(l_:List Int):Option Int:=Option.bind (Cx m l_ m 0) λ(z3:Sum Int Unit)=>bK z3 λcO=>some 0
theorem a6E{a6:Gh}(m)(l_)(r)(hm:NA m l_=some r)(w)(hL:Rd [eI (tI .i64) l_ a6] w):Rb 220 [vL a6 l_] (vI r) w:=by
 rw[NA]at hm;refine c7 hL (call220 _) func220 ntmps220 λM X w=>?_;refine uO [] ?_;obtain⟨z3,hz,dJ⟩:=ai hm;intro _ _ H2 hS;refine df (λa' w'=>∃cO:Unit,z3=Sum.inr cO∧Fr 18 [] a'∧SH M X w [eI (tI .i64) l_ a6] w') ?_ ?_;replace hm:=hz;refine aQ H2 hS (uR [0] [5,6,7] [vL a6 l_,vI (ln l_),vI 0] [] (aE ?_));refine dH [] [7] (λv6=>[vI v6]) (λ_=>[eI (tI .i64) l_ a6]) hm (λkk v6 hm=>?_);rw[Cx]at hm;refine uA 8 (vB (decide (v6<ln l_))) [] (aq ?_);refine uC hm ?_ ?_;intro hm;refine ah (aq (aE ?_));obtain⟨eR,hm⟩:=bO hm;refine uR [8] [4] [vI (gi l_ v6)] [ki 0 eR,kj 0 0 eR] ?_;obtain⟨gM,nF,hm⟩:=bd hm;refine uJ [4] [] hm ?_ ?_ (he:=by subst nF;kernel_rfl);intro hm;cases hm;have hm:=dJ;cases hm;exact uZ [] [];intro hm;exact ah (dI [] hm);intro hm;refine bt ?_;cases hm;exact λ_ _ H8 hS=>⟨_,rfl,aD.bc (ks:=[]) H8 (by kernel_rfl),hS⟩;rintro _ _ ⟨cO,hz,H,hS⟩;subst hz;replace hm:=cG dJ;replace hS:SH M _ w [] _:=hS.aY [] rfl;refine aQ H hS ?_;cases hm;exact uZ [] []

def JB(m:Nat)(n_:Int):Option Int:=Option.bind (NA m ([n_]:List Int)) λy9=>some y9
theorem a6F(m)(n_)(r)(hm:JB m n_=some r):Rt 192 [vI n_] (vI r):=by
 rw[JB]at hm;refine cA (call192 _) func192 ntmps192 λM X w=>?_;refine uO [] (az ?_);refine uB 1 [0] [3] [vI n_] [] ?_;refine uM [] [] [3] (oL (tI .i64) 2 (vI 0) [n_] [gL []] (λ_=>aJ.cons trivial aJ.nil) rfl) λg5=>?_;obtain⟨y9,jv,hm⟩:=ai hm;refine uB 4 [4] [2] [vI y9] [kr λ_ hS=>a6E (a6:=g5) m _ _ jv _ (aw aS (hS.dX 0 rfl))] (an (al [] (ax ?_)));cases hm;exact aI [] aR

def Cy(m:Nat)(c_:aP):Nat→Int→Option (Sum Bool Unit)
 |0,_=>none
 |kk+1,aC=>cond (decide (aC<ln c_.J)) (Option.bind (au (0≤aC∧aC<ln c_.J)<|lt (decide (0<ln (gi c_.J aC).J)) λfC=>lt (l7 (aP.mk (gi c_.J aC).a7 [] 0 (gi c_.J aC).aA (gi c_.J aC).J)) λj9=>cond (cond fC true (!j9)) (some (.inl (.inl false))) (cond ((gi c_.J aC).a7==4) (lt (cond (decide (0<aC)) true ((gi c_.J aC).bj !=0)) λoU=>Option.bind (cond oU (some default) (JA m (gi c_.J aC).aO)) λmm=>cond (cond oU true (!mm)) (some (.inl (.inl false))) (some (.inr ()))) (Option.bind (cond ((gi c_.J aC).a7==5) (some ((gi c_.J aC).a7==5)) (some ((gi c_.J aC).a7==6))) λ(us:Bool)=>cond us (lt (cond (!((gi c_.J aC).aO==[])) true (decide ((gi c_.J aC).bj<0))) λpu=>Option.bind (cond pu (some default) (JB m (gi c_.J aC).bj)) λxS=>cond (cond pu true (xS !=0)) (some (.inl (.inl false))) (some (.inr ()))) (some (.inl (.inl false)))))) λ(gm:Sum (Sum Bool Unit) Unit)=>bK gm λlv=>Cy m c_ kk (a8 (aC+1))) (some (.inr ()))
def Fy(m:Nat)(c_:aP):Option Bool:=lt (cond (c_.a7 !=1) true (!(l7 c_))) λx6=>cond (cond x6 true (ln c_.J==0)) (some false) (Option.bind (Cy m c_ m 0) λ(cD:Sum Bool Unit)=>bK cD λdd=>some true)
theorem Yu{af aa:Gh}(m)(c_)(r)(hm:Fy m c_=some r)(w)(hL:Rd [eI ae c_.aA.Value af,eI aZ c_.J aa] w):Rb 158 [.agg ⟨e4 c_ (gL [af,aa])⟩] (vB r) w:=by
 rw[Fy]at hm;refine c7 hL (call158 _) func158 ntmps158 λM X w=>(az ?_);refine uM [] [0,1] [0] (oB (e4 c_ (gL [af,aa])) rfl) λb1=>?_;refine uP 2 [] (an (aq ?_));obtain⟨x6,iC,hm⟩:=bd hm;refine uA 19 (vB (cond x6 true (ln c_.J==0))) [kb 0 0,⟨some (.agg ⟨e4 c_ (gL [af,aa])⟩),λwz=>(c_.a7 !=1)=false∧True→V.bn b1 0 (e4 c_ (gL [af,aa])) 0 wz,λ_ hS=>λhg=>(hS.bk 0 rfl).cM rfl⟩,⟨some (vB (l7 c_)),λwz=>(c_.a7 !=1)=false∧True→jn prog 114 ⟨[.agg ⟨e4 c_ (gL [af,aa])⟩]⟩ (vB (l7 c_)) wz,λ_ hS=>λhg=>Fx (af:=af) (aa:=aa) c_ _ (aw (aw aS (hS.im 2 rfl)) (hS.im 1 rfl))⟩,aV (gF x6) 0 6] ?_ (he:=by subst iC;kernel_rfl);refine uC hm ?_ ?_;intro hm;refine uR [1,19] [2] [vF] [] (al [] (ax ?_));cases hm;exact aI [] aR;intro hm;refine ah ?_;obtain⟨cD,hz,oX⟩:=ai hm;intro _ _ H8 hS;refine df (λa' w'=>∃dd:Unit,cD=Sum.inr dd∧Fr 75 [] a'∧SH M X w [eB b1 (e4 c_ (gL [af,aa])),eI ae c_.aA.Value af,eI aZ c_.J aa] w') ?_ ?_;replace hm:=hz;refine aQ H8 hS (uR [1,19] [21,22,23] [vL aa c_.J,vI (ln c_.J),vI 0] [kb 0 6] (aE ?_));refine dH [] [23] (λaC=>[vI aC]) (λ_=>[eB b1 (e4 c_ (gL [af,aa])),eI ae c_.aA.Value af,eI aZ c_.J aa]) hm (λkk aC hm=>?_);rw[Cy]at hm;refine uA 24 (vB (decide (aC<ln c_.J))) [] (aq ?_);refine uC hm ?_ ?_;intro hm;refine ah ?_;obtain⟨gm,hz,oe⟩:=ai hm;refine uS (z:=gm) [24] [21,22,23] (λlv=>[vL aa c_.J,vI (ln c_.J),vI aC]) (λlv=>[eB b1 (e4 c_ (gL [af,aa])),eI ae c_.aA.Value af,eI aZ c_.J aa]) ?_ ?_;replace hm:=hz;refine aE (az ?_);obtain⟨oY,hm⟩:=bO hm;refine uB 3 [24] [25,27] [vI aC,.agg ⟨e4 (gi c_.J aC) (aa.s aC.toNat)⟩] [ki 2 oY,⟨some (.agg ⟨e4 (gi c_.J aC) (aa.s aC.toNat)⟩),λwz=>V.bn (ab aa.a) (ao aa.a+aC.toNat*7) (e4 (gi c_.J aC) (aa.s aC.toNat)) 0 wz,λ_ hS=>(hS.im 2 rfl).cS oY 0 rfl⟩] ?_;refine uM [] [0,1,2] [] (oA [vU 0,vN,vI 0,vN,vO,vF,vO]) λCz=>?_;refine uB 5 [25] [3] [vI aC] [] ?_;refine uL [0] [1,2,3] [27] (oS (e4 (gi c_.J aC) (aa.s aC.toNat)) rfl rfl) (an (az ?_));refine uB 1 [] [28] [.agg ⟨e4 (gi c_.J aC) (aa.s aC.toNat)⟩] [kE 0 7] ?_;refine uM [] [0,1,2,3] [] (oA [vU 0,vN,vI 0,vN,vO,vF,vO]) λNB=>?_;refine nu [0] [1,2,3,4] [3,4,5,21,22,23] [vI aC,vP Cz,vP NB,vL aa c_.J,vI (ln c_.J),vI aC] (oS (e4 (gi c_.J aC) (aa.s aC.toNat)) rfl rfl) (an (aq (az ?_)));refine uB 1 [] [29] [vA NB 1] [] ?_;refine uL [0] [1,2,3,4] [29] (oS [vU (gi c_.J aC).a7,vN,vI (gi c_.J aC).bj,vS (gi c_.J aC).aA.aO,.slice (aa.s aC.toNat 0).a (gi c_.J aC).aA.Value.length (aa.s aC.toNat 0).c,vB (gi c_.J aC).aA.js,.slice (aa.s aC.toNat 1).a (gi c_.J aC).J.length (aa.s aC.toNat 1).c] rfl rfl) ?_;refine uB 3 [] [30] [vA NB 2] [] ?_;refine uL [0] [1,2,3,4] [30] (oS [vU (gi c_.J aC).a7,vN,vI 0,vS (gi c_.J aC).aA.aO,.slice (aa.s aC.toNat 0).a (gi c_.J aC).aA.Value.length (aa.s aC.toNat 0).c,vB (gi c_.J aC).aA.js,.slice (aa.s aC.toNat 1).a (gi c_.J aC).J.length (aa.s aC.toNat 1).c] rfl rfl) (an ?_);obtain⟨fC,pV,j9,vM,hm⟩:=cU hm;refine uR [5] [39] [vB (cond fC true (!j9))] [kb 1 6,⟨some (vG [vU (gi c_.J aC).a7,vN,vI 0,vS (gi c_.J aC).aA.aO,.slice (aa.s aC.toNat 0).a (gi c_.J aC).aA.Value.length (aa.s aC.toNat 0).c,vB (gi c_.J aC).aA.js,.slice (aa.s aC.toNat 1).a (gi c_.J aC).J.length (aa.s aC.toNat 1).c]),λwz=>fC=false∧True→V.bn NB 0 [vU (gi c_.J aC).a7,vN,vI 0,vS (gi c_.J aC).aA.aO,.slice (aa.s aC.toNat 0).a (gi c_.J aC).aA.Value.length (aa.s aC.toNat 0).c,vB (gi c_.J aC).aA.js,.slice (aa.s aC.toNat 1).a (gi c_.J aC).J.length (aa.s aC.toNat 1).c] 0 wz,λ_ hS=>λhg=>(hS.bk 0 rfl).cM rfl⟩,⟨some (vB j9),λwz=>fC=false∧True→jn prog 114 ⟨[vG [vU (gi c_.J aC).a7,vN,vI 0,vS (gi c_.J aC).aA.aO,.slice (aa.s aC.toNat 0).a (gi c_.J aC).aA.Value.length (aa.s aC.toNat 0).c,vB (gi c_.J aC).aA.js,.slice (aa.s aC.toNat 1).a (gi c_.J aC).J.length (aa.s aC.toNat 1).c]]⟩ (vB j9) wz,λ_ hS=>λhg=>(by rw[vM];exact Fx (af:=aa.s aC.toNat 0) (aa:=aa.s aC.toNat 1) (aP.mk (gi c_.J aC).a7 [] 0 (gi c_.J aC).aA (gi c_.J aC).J) _ (aw (aw aS (have h:=j5 ((hS.im 4 rfl).el oY);h)) (have h:=jJ ((hS.im 4 rfl).el oY);h)))⟩] ?_ (he:=by subst pV vM;kernel_rfl);refine al [1,2,3,4] ?_;refine uC hm ?_ ?_;intro hm;refine uR [3,4,21,22,23,39] [2] [vF] [] (al [1,2,3] (ax ?_));cases hm;have hm:=oe;cases hm;have hm:=oX;cases hm;exact aI [] aR;intro hm;refine ah (uR [39] [41] [vU (gi c_.J aC).a7] [kb 0 0] (aE ?_));refine uR [] [3,4,21,22,23,41,42] [vI aC,vP Cz,vL aa c_.J,vI (ln c_.J),vI aC,vU (gi c_.J aC).a7,vB ((gi c_.J aC).a7==4)] [] ?_;refine uC hm ?_ ?_;intro hm;obtain⟨oU,Jh,mm,Jp,hm⟩:=lH hm;refine uR [3,4,41,42] [56] [vB (cond oU true (!mm))] [aV (gF (decide (0<aC))) 0 2,aV (gF oU) 0 1,dB (gF oU) λhg=>a6D m _ _ (bF (hg.1) Jp)] ?_ (he:=by subst Jh;kernel_rfl);refine al [1,2,3] ?_;refine uC hm ?_ ?_;intro hm;cases hm;have hm:=oe;cases hm;have hm:=oX;cases hm;exact uZ [] [];intro hm;refine ah ?_;cases hm;exact ts;intro hm;obtain⟨us,hz,hm⟩:=ai hm;refine uK [3,41,42] [57] [vB us] [eB Cz (e4 (gi c_.J aC) (aa.s aC.toNat)),eB b1 (e4 c_ (gL [af,aa])),eI ae c_.aA.Value af,eI aZ c_.J aa] ?_ ?_;replace hm:=hz;refine uR [3,42] [57] [vB ((gi c_.J aC).a7==5)] [] ?_;refine uC hm ?_ ?_;intro hm;refine ah ?_;cases hm;exact te;intro hm;refine uW [41] [57] [vB ((gi c_.J aC).a7==6)] [] ?_;cases hm;exact te;refine lF (λhc=>?_) (λhc=>?c75)
 case c75=>
  replace hm:=bF hc hm;refine uR [4,21,22,23,57] [2] [vF] [] (al [1,2,3] (ax ?_));cases hm;have hm:=oe;cases hm;have hm:=oX;cases hm;exact aI [] aR
 replace hm:=bT hc hm;obtain⟨pu,C7,xS,Sd,hm⟩:=lH hm;refine uR [4,57] [73] [vB (cond pu true (xS !=0))] [kb 0 1,aV (gF (!((gi c_.J aC).aO==[]))) 0 2,aV (gF pu) 0 2,dB (gF pu) λhg=>a6F m _ _ (bF (hg.1) Sd)] ?_ (he:=by subst C7;kernel_rfl);refine al [1,2,3] ?_;refine uC hm ?_ ?_;intro hm;cases hm;have hm:=oe;cases hm;have hm:=oX;cases hm;exact uZ [] [];intro hm;refine ah ?_;cases hm;exact ts;rintro lv hz;subst hz;replace hm:=cG oe;exact dI [] hm;intro hm;refine bt ?_;cases hm;exact λ_ _ og hS=>⟨_,rfl,aD.bc (ks:=[]) og (by kernel_rfl),hS⟩;rintro _ _ ⟨dd,hz,H,hS⟩;subst hz;replace hm:=cG oX;replace hS:SH M _ w [] _:=hS.aY [] rfl;refine aQ H hS ?_;cases hm;exact uZ [] []

def JC(c_:aP):Option Bool:=au (decide (0<ln c_.J)=true→0≤(0:Int)∧(0:Int)<ln c_.J)<|lt (cond (decide (0<ln c_.J)) ((gi c_.J (0:Int)).a7==4) false) λx7=>some x7
theorem a6G{af aa:Gh}(c_)(r)(hm:JC c_=some r)(w)(hL:Rd [eI ae c_.aA.Value af,eI aZ c_.J aa] w):Rb 159 [.agg ⟨e4 c_ (gL [af,aa])⟩] (vB r) w:=by
 rw[JC]at hm;refine c7 hL (call159 _) func159 ntmps159 λM X w=>(az ?_);refine uM [] [0,1] [0] (oB (e4 c_ (gL [af,aa])) rfl) λb1=>?_;refine uP 2 [] (an ?_);obtain⟨vY,x7,xO,hm⟩:=bY hm;refine uR [1] [2] [vB x7] [kb 0 6,aV (gT (decide (0<ln c_.J))) 0 6,iT (gT (decide (0<ln c_.J))) 2 λhg=>vY hg.1,jF (gT (decide (0<ln c_.J))) 2 0 λhg=>vY hg.1] ?_ (he:=by subst xO;kernel_rfl);refine al [] (ax ?_);cases hm;exact aI [] aR

def JD(m:Nat)(c_:aP):Option Bool:=cond (c_.a7==3) (lt (cond (l7 c_) (ln c_.J==1) false) λx8=>au (x8=true→0≤(0:Int)∧(0:Int)<ln c_.J)<|Option.bind (cond x8 (Fy m (gi c_.J (0:Int))) (some default)) λcL=>au (cond x8 cL false=true→0≤(0:Int)∧(0:Int)<ln c_.J)<|Option.bind (cond (cond x8 cL false) (JC (gi c_.J (0:Int))) (some default)) λdD=>some (cond (cond x8 cL false) dD false)) (Option.bind (Fy m c_) λdC=>some dC)
theorem a6H{af aa:Gh}(m)(c_)(r)(hm:JD m c_=some r)(w)(hL:Rd [eI ae c_.aA.Value af,eI aZ c_.J aa] w):Rb 113 [.agg ⟨e4 c_ (gL [af,aa])⟩] (vB r) w:=by
 rw[JD]at hm;refine c7 hL (call113 _) func113 ntmps113 λM X w=>(az ?_);refine uM [] [0,1] [0] (oB (e4 c_ (gL [af,aa])) rfl) λb1=>?_;refine uP 2 [] (an (aq ?_));refine uI [kb 0 0] hm ?_ ?_;intro hm;obtain⟨x8,nB,eR,hm⟩:=u5 hm;obtain⟨cL,iX,ef,hm⟩:=BS hm;obtain⟨dD,iU,hm⟩:=ai hm;refine uR [1] [2] [vB (cond (cond x8 cL false) dD false)] [kE 0 7,⟨some (vB (l7 c_)),rB 114 [.agg ⟨e4 c_ (gL [af,aa])⟩] (vB (l7 c_)),λ_ hS=>Fx (af:=af) (aa:=aa) c_ _ (aw (aw aS (hS.im 2 rfl)) (hS.im 1 rfl))⟩,aV (gT (l7 c_)) 0 6,aV (gT x8) 0 6,iT (gT x8) 2 λhg=>eR hg.1,⟨some (.agg ⟨e4 (gi c_.J (0:Int)) (aa.s ((0:Int)).toNat)⟩),λwz=>x8=true∧True→V.bn (ab aa.a) (ao aa.a+((0:Int)).toNat*7) (e4 (gi c_.J (0:Int)) (aa.s ((0:Int)).toNat)) 0 wz,λ_ hS=>λhg=>(hS.im 2 rfl).cS (eR hg.1) 0 rfl⟩,eo (gT x8) λ_ hS hg=>Yu (af:=aa.s ((0:Int)).toNat 0) (aa:=aa.s ((0:Int)).toNat 1) m _ _ (bT (hg.1) iX) _ (aw (aw aS (j5 ((hS.im 2 rfl).el (eR hg.1)))) (jJ ((hS.im 2 rfl).el (eR hg.1)))),aV (gT (cond x8 cL false)) 0 6,iT (gT (cond x8 cL false)) 2 λhg=>ef hg.1,⟨some (.agg ⟨e4 (gi c_.J (0:Int)) (aa.s ((0:Int)).toNat)⟩),λwz=>cond x8 cL false=true∧True→V.bn (ab aa.a) (ao aa.a+((0:Int)).toNat*7) (e4 (gi c_.J (0:Int)) (aa.s ((0:Int)).toNat)) 0 wz,λ_ hS=>λhg=>(hS.im 2 rfl).cS (ef hg.1) 0 rfl⟩,eo (gT (cond x8 cL false)) λ_ hS hg=>a6G (af:=aa.s ((0:Int)).toNat 0) (aa:=aa.s ((0:Int)).toNat 1) _ _ (bT (hg.1) iU) _ (aw (aw aS (j5 ((hS.im 2 rfl).el (ef hg.1)))) (jJ ((hS.im 2 rfl).el (ef hg.1))))] ?_ (he:=by subst nB;kernel_rfl);refine al [] (ax ?_);cases hm;exact aI [] aR;intro hm;refine ah ?_;obtain⟨dC,lI,hm⟩:=ai hm;refine uR [1] [2] [vB dC] [kE 0 7,kr λ_ hS=>Yu (af:=af) (aa:=aa) m _ _ lI _ (aw (aw aS (hS.im 2 rfl)) (hS.im 1 rfl))] (al [] (ax ?_));cases hm;exact aI [] aR

def NC(m:Nat)(x_:aP):Option Bool:=Option.bind (JD m x_) λy6=>some (!y6)
theorem a6I{cH JE:Gh}(m)(x_)(r)(hm:NC m x_=some r)(w)(hL:Rd [eI ae x_.aA.Value cH,eI aZ x_.J JE] w):Rb 112 [.agg ⟨e4 x_ (gL [cH,JE])⟩] (vB r) w:=by
 rw[NC]at hm;refine c7 hL (call112 _) func112 ntmps112 λM X w=>(az ?_);refine uM [] [0,1] [0] (oB (e4 x_ (gL [cH,JE])) rfl) λb1=>?_;refine uP 2 [] (an ?_);obtain⟨y6,eW,hm⟩:=ai hm;refine uR [1] [2] [vB (!y6)] [kE 0 7,kr λ_ hS=>a6H (af:=cH) (aa:=JE) m _ _ eW _ (aw (aw aS (hS.im 2 rfl)) (hS.im 1 rfl))] (al [] (ax ?_));cases hm;exact aI [] aR

def Fz(m:Nat)(s:List aP):Nat→Int→Option (Sum Int Unit)
 |0,_=>none
 |kk+1,v6=>cond (decide (v6<ln s)) (au (0≤v6∧v6<ln s)<|Option.bind (NC m (gi s v6)) λdD=>cond dD (some (.inl v6)) (Fz m s kk (a8 (v6+1)))) (some (.inr ()))
def NE(m:Nat)(s:List aP):Option Int:=Option.bind (Fz m s m 0) λ(z3:Sum Int Unit)=>bK z3 λcO=>some (-1)
theorem a6J{bi:Gh}(m)(s)(r)(hm:NE m s=some r)(w)(hL:Rd [eI aZ s bi] w):Rb 157 [vL bi s,.func (.func 112) ⟨[]⟩ ⟨[]⟩] (vI r) w:=by
 rw[NE]at hm;refine c7 hL (call157 _) func157 ntmps157 λM X w=>?_;refine uO [] ?_;obtain⟨z3,hz,dJ⟩:=ai hm;intro _ _ H2 hS;refine df (λa' w'=>∃cO:Unit,z3=Sum.inr cO∧Fr 19 [] a'∧SH M X w [eI aZ s bi] w') ?_ ?_;replace hm:=hz;refine aQ H2 hS (uR [] [7,8] [vI (ln s),vI 0] [] (aE ?_));refine dH [] [8] (λv6=>[vI v6]) (λ_=>[eI aZ s bi]) hm (λkk v6 hm=>?_);rw[Fz]at hm;refine uA 9 (vB (decide (v6<ln s))) [] (aq ?_);refine uC hm ?_ ?_;intro hm;refine ah (aq (aE (uR [9] [5] [vI v6] [] ?_)));obtain⟨ef,dD,iU,hm⟩:=fU hm;refine uI [ki 0 ef,⟨some (.agg ⟨e4 (gi s v6) (bi.s v6.toNat)⟩),λwz=>V.bn (ab bi.a) (ao bi.a+v6.toNat*7) (e4 (gi s v6) (bi.s v6.toNat)) 0 wz,λ_ hS=>(hS.im 0 rfl).cS ef 0 rfl⟩,kr λ_ hS=>a6I (cH:=bi.s v6.toNat 0) (JE:=bi.s v6.toNat 1) m _ _ iU _ (aw (aw aS (j5 ((hS.im 0 rfl).el ef))) (jJ ((hS.im 0 rfl).el ef)))] hm ?_ ?_;intro hm;cases hm;have hm:=dJ;cases hm;exact uZ [] [];intro hm;exact ah (dI [] hm);intro hm;refine bt ?_;cases hm;exact λ_ _ H8 hS=>⟨_,rfl,aD.bc (ks:=[]) H8 (by kernel_rfl),hS⟩;rintro _ _ ⟨cO,hz,H,hS⟩;subst hz;replace hm:=cG dJ;replace hS:SH M _ w [] _:=hS.aY [] rfl;refine aQ H hS ?_;cases hm;exact uZ [] []

def JF(m:Nat)(s:List aP):Option Bool:=Option.bind (NE m s) λy3=>some (decide (0≤y3))
theorem a6K{bi:Gh}(m)(s)(r)(hm:JF m s=some r)(w)(hL:Rd [eI aZ s bi] w):Rb 111 [vL bi s,.func (.func 112) ⟨[]⟩ ⟨[]⟩] (vB r) w:=by
 rw[JF]at hm;refine c7 hL (call111 _) func111 ntmps111 λM X w=>?_;refine uO [] ?_;obtain⟨y3,cC,hm⟩:=ai hm;refine uR [0,1] [4] [vB (decide (0≤y3))] [kr λ_ hS=>a6J (bi:=bi) m _ _ cC _ (aw aS (hS.im 0 rfl))] (al [] (ax ?_));cases hm;exact aI [] aR

def CA(m:Nat)(c_:aP):Option Int:=lt (cond (c_.a7==1) (ln c_.J==0) false) λx8=>lt (cond (c_.a7==2) (decide (0<ln c_.J)) false) λfm=>lt (cond fm (decide (ln c_.J≤64)) false) λgM=>Option.bind (cond gM (JF m c_.J) (some default)) λnz=>lt (cond (!(l7 c_)) true (cond (!x8) (!(cond gM (!nz) false)) false)) λmn=>cond mn (some 8) (some 0)
theorem Yv{af aa:Gh}(m)(c_)(r)(hm:CA m c_=some r)(w)(hL:Rd [eI ae c_.aA.Value af,eI aZ c_.J aa] w):Rb 60 [.agg ⟨e4 c_ (gL [af,aa])⟩] (vI r) w:=by
 rw[CA]at hm;refine c7 hL (call60 _) func60 ntmps60 λM X w=>(az ?_);refine uM [] [0,1] [0] (oB (e4 c_ (gL [af,aa])) rfl) λb1=>?_;refine uP 2 [] (an ?_);refine uA 3 (vI (ln c_.J)) [kb 0 6] ?_;obtain⟨x8,nB,hm⟩:=bd hm;refine uA 4 (vB x8) [kb 0 0] ?_ (he:=by subst nB;kernel_rfl);obtain⟨fm,mi,gM,nF,hm⟩:=cU hm;obtain⟨nz,xB,hm⟩:=ai hm;refine uR [3] [5] [vB (cond gM (!nz) false)] [kb 0 0,aV (gT gM) 0 6,eo (gT gM) λ_ hS hg=>a6K (bi:=aa) m _ _ (bT (hg.1) xB) _ (aw aS (hS.im 2 rfl))] ?_ (he:=by subst mi nF;kernel_rfl);refine aq ?_;obtain⟨mn,uq,hm⟩:=bd hm;refine uR [1,4,5] [43] [vB mn] [kE 0 7,⟨some (vB (l7 c_)),rB 114 [.agg ⟨e4 c_ (gL [af,aa])⟩] (vB (l7 c_)),λ_ hS=>Fx (af:=af) (aa:=aa) c_ _ (aw (aw aS (hS.im 2 rfl)) (hS.im 1 rfl))⟩] ?_ (he:=by subst uq;kernel_rfl);refine al [] (uC hm ?_ ?_);intro hm;cases hm;exact uZ [] [];intro hm;refine ah ?_;cases hm;exact uZ [] []

def a6L(cX:aP→Option Int):Prop:=∀(af:Gh)(aa:Gh)(M:Av)(c_:aP)(r:Int),cX c_=some r→∀w,S0 M [eI ae c_.aA.Value af,eI aZ c_.J aa] w→Calls prog 61 ⟨[.agg ⟨e4 c_ (gL [af,aa])⟩]⟩ w (λe w'=>∃v,e=.returned v∧v=vI r∧SH M (aH [eI ae c_.aA.Value af,eI aZ c_.J aa]) w [] w')
def CB(m:Nat)(c_:aP)(Yw:aP→Option Int):Nat→Int→Int→Option Int
 |0,_,_=>none
 |kk+1,v24,jN=>cond (decide (jN<ln c_.J)) (au (0≤jN∧jN<ln c_.J)<|Option.bind (Yw (gi c_.J jN)) λlQ=>Option.bind (lt (cond ((gi c_.J jN).a7 !=7) ((gi c_.J jN).a7 !=8) false) λkV=>cond kV (some (a8 (lQ+1))) (some lQ)) λ(wc:Int)=>CB m c_ Yw kk (if v24<wc then wc else v24) (a8 (jN+1))) (some v24)
def A0(m:Nat):Nat→aP→Option Int
 |0,_=>none
 |k+1,c_=>cond (c_.a7==7) (Option.bind (Ch m c_.aA.Value) λcL=>some (a8 (cL.1+1))) (cond (c_.a7==8) (some 1) (Option.bind (CB m c_ (A0 m k) m 0 0) λ(z21:Int)=>some z21))
theorem a6M(m:Nat):∀(k:Nat),a6L (A0 m k):=by
 intro k
 induction k with
 |zero=>intro af aa M c_ r hm;exact eJ hm
 |succ k ih=>
  intro af aa M c_ r hm w hS;rw[A0]at hm;have aK:SH M (aH [eI ae c_.aA.Value af,eI aZ c_.J aa]) w [eI ae c_.aA.Value af,eI aZ c_.J aa] w:=hS;generalize hX:aH [eI ae c_.aA.Value af,eI aZ c_.J aa]=X at aK⊢;clear hS hX;have hS:=aK;clear aK;refine fk func61 rfl ntmps61 rfl λ_ H=>?_;refine aQ H hS (az (eP [] [0,1] [] [] (oB (e4 c_ (gL [af,aa])) rfl) λb1=>?_));refine uP 2 [] (an (aq ?_));refine uA 10 (vU c_.a7) [kb 0 0] (aE ?_);refine uI [] hm ?_ ?_;intro hm;obtain⟨cL,iX,hm⟩:=ai hm;refine uR [1,10] [3] [vI cL.1] [kb 0 4,kr λ_ hS=>RX (aN:=af) m _ _ iX _ (aw aS (hS.im 1 rfl))] (al [] ?_);cases hm;exact uZ [] [];intro hm;refine uJ [10] [] hm ?_ ?_;intro hm;refine uR [1] [2] [vI 1] [] (al [] (ax ?_));cases hm;exact aI [] aR;intro hm;refine ah (uA 5 (vI 0) [] ?_);obtain⟨z21,hz,hm⟩:=ai hm;refine uK [1] [5] [vI z21] [eB b1 (e4 c_ (gL [af,aa])),eI ae c_.aA.Value af,eI aZ c_.J aa] ?_ ?_;replace hm:=hz;refine uR [1] [25,26,27] [vL aa c_.J,vI (ln c_.J),vI 0] [kb 0 6] (aE ?_);refine fu [] [5,27] (λv24 jN=>[vI v24,vI jN]) (λ_ _=>[eB b1 (e4 c_ (gL [af,aa])),eI ae c_.aA.Value af,eI aZ c_.J aa]) hm (λkk v24 jN hm=>?_);rw[CB]at hm;refine uR [] [5,25,26,27,28] [vI v24,vL aa c_.J,vI (ln c_.J),vI jN,vB (decide (jN<ln c_.J))] [] (aq ?_);refine uC hm ?_ ?_;intro hm;refine ah (aq (aE (az ?_)));obtain⟨ju,hm⟩:=bO hm;refine uB 2 [28] [30] [.agg ⟨e4 (gi c_.J jN) (aa.s jN.toNat)⟩] [ki 2 ju,⟨some (.agg ⟨e4 (gi c_.J jN) (aa.s jN.toNat)⟩),λwz=>V.bn (ab aa.a) (ao aa.a+jN.toNat*7) (e4 (gi c_.J jN) (aa.s jN.toNat)) 0 wz,λ_ hS=>(hS.im 2 rfl).cS ju 0 rfl⟩] ?_;refine uM [] [0,1,2] [] (oA [vU 0,vN,vI 0,vN,vO,vF,vO]) λRE=>?_;refine uL [0] [1,2,3] [30] (oS (e4 (gi c_.J jN) (aa.s jN.toNat)) rfl rfl) (an ?_);obtain⟨lQ,xT,hm⟩:=ai hm;refine uA 8 (vI lQ) [kE 0 7,kr λ_ hS=>dF (aw (aw aS (j5 ((hS.im 3 rfl).el ju))) (jJ ((hS.im 3 rfl).el ju))) (call61 _) (λw' h'=>ih (aa.s jN.toNat 0) (aa.s jN.toNat 1) F0 _ _ xT w' h')] ?_;obtain⟨wc,hz,hm⟩:=ai hm;refine uK [7] [8] [vI wc] [eB RE (e4 (gi c_.J jN) (aa.s jN.toNat)),eB b1 (e4 c_ (gL [af,aa])),eI ae c_.aA.Value af,eI aZ c_.J aa] ?_ ?_;replace hm:=hz;obtain⟨kV,rQ,hm⟩:=bd hm;refine uJ [7] [kb 0 0,aV (gT ((gi c_.J jN).a7 !=7)) 0 0] hm ?_ ?_ (he:=by subst rQ;kernel_rfl);intro hm;refine uW [] [5,8,25,26,27] [vI v24,vI (a8 (lQ+1)),vL aa c_.J,vI (ln c_.J),vI jN] [] ?_;cases hm;exact te;intro hm;refine ah ?_;cases hm;exact te;refine al [1,2,3] ?_;refine uW [8] [5] [vI (if v24<wc then wc else v24)] [] ?_;exact fb [] hm;intro hm;refine bt ?_;cases hm;exact te;refine al [] ?_;cases hm;exact uZ [] []
def NF(m:Nat)(c_:aP):Option Int:=A0 m m c_
theorem a6N{af aa:Gh}(m)(c_)(r)(hm:NF m c_=some r)(w)(hL:Rd [eI ae c_.aA.Value af,eI aZ c_.J aa] w):Rb 61 [.agg ⟨e4 c_ (gL [af,aa])⟩] (vI r) w:=dF hL (call61 _) (λw' h=>a6M m m af aa F0 c_ r hm w' h)

def FA(c_:aP):Bool:=cond (c_.a7==7) true (c_.a7==8)
theorem a6O{af aa:Gh}(c_:aP)(w)(hL:Rd [eI ae c_.aA.Value af,eI aZ c_.J aa] w):Rb 115 [.agg ⟨e4 c_ (gL [af,aa])⟩] (vB (FA c_)) w:=by
 generalize hm:FA c_=r;rw[FA]at hm;refine c7 hL (call115 _) func115 ntmps115 λM X w=>(az ?_);refine uM [] [0,1] [0] (oB (e4 c_ (gL [af,aa])) rfl) λb1=>?_;refine uP 2 [] (an ?_);refine uR [1] [2] [vB (cond (c_.a7==7) true (c_.a7==8))] [kb 0 0,aV (gF (c_.a7==7)) 0 0] (al [] (ax ?_));subst hm;exact aI [] aR

def a6P(cX:aP→Int→Option (Int×Bool×Int)):Prop:=∀(af:Gh)(aa:Gh)(jO:Nat)(M:Av)(c_:aP)(count:Int)(r:Int×Bool×Int),cX c_ count=some r→∀w,S0 M [eI ae c_.aA.Value af,eI aZ c_.J aa,eB jO [vI count]] w→Calls prog 62 ⟨[.agg ⟨e4 c_ (gL [af,aa])⟩,vP jO]⟩ w (λe w'=>∃v,e=.returned v∧v=vW [vI r.1,vB r.2.1]∧SH M (aH [eI ae c_.aA.Value af,eI aZ c_.J aa,eB jO [vI count]]) w [eB jO [vI r.2.2]] w')
def we(m:Nat)(c_:aP)(Yx:aP→Int→Option (Int×Bool×Int)):Nat→Int→Int→Int→Option (Sum (Int×Bool×Int) (Int×Int))
 |0,_,_,_=>none
 |kk+1,v53,cP,iZ=>cond (decide (cP<ln c_.J)) (au (0≤cP∧cP<ln c_.J)<|Option.bind (Yx (gi c_.J cP) iZ) λwg=>cond (!wg.2.1) (some (.inl (0,false,wg.2.2))) (Option.bind (cond (!(FA (gi c_.J cP))) (some (a8 (wg.1+1))) (some wg.1)) λ(wj:Int)=>we m c_ Yx kk (if v53<wj then wj else v53) (a8 (cP+1)) wg.2.2)) (some (.inr (v53,iZ)))
def sZ(m:Nat):Nat→aP→Int→Option (Int×Bool×Int)
 |0,_,_=>none
 |k+1,c_,count=>cond (decide (1500<a8 (count+1))) (some (0,false,a8 (count+1))) (cond (c_.a7==7) (Option.bind (Ch m c_.aA.Value) λhZ=>lt (cond (ln c_.J==0) (c_.aO==[]) false) λnG=>lt (cond (cond nG (c_.bj==0) false) (hZ.2==0) false) λkX=>Option.bind (cond kX (Fw m c_.aA) (some default)) λcE=>some (a8 (hZ.1+1),cond kX (cE==0) false,a8 (count+1))) (cond (c_.a7==8) (lt (cond (ln c_.J==0) (l7 c_) false) λqh=>some (1,qh,a8 (count+1))) (Option.bind (cond (c_.a7==3) (some (c_.a7==3)) (cond (c_.a7==1) (some (c_.a7==1)) (some (c_.a7==2)))) λ(zQ:Bool)=>cond zQ (lt (cond (!(l7 c_)) true (cond (c_.a7==3) (ln c_.J !=1) false)) λjh=>lt (cond jh true (cond (c_.a7 !=3) (decide (ln c_.J<2)) false)) λfC=>cond fC (some (0,false,a8 (count+1))) (Option.bind (we m c_ (sZ m k) m 0 0 (a8 (count+1))) λ(qa:Sum (Int×Bool×Int) (Int×Int))=>bK qa λs8=>some (s8.1,true,s8.2))) (some (0,false,a8 (count+1))))))
theorem a6Q(m:Nat):∀(k:Nat),a6P (sZ m k):=by
 intro k
 induction k with
 |zero=>intro af aa jO M c_ count r hm;exact eJ hm
 |succ k ih=>
  intro af aa jO M c_ count r hm w hS;rw[sZ]at hm;have aK:SH M (aH [eI ae c_.aA.Value af,eI aZ c_.J aa,eB jO [vI count]]) w [eI ae c_.aA.Value af,eI aZ c_.J aa,eB jO [vI count]] w:=hS;generalize hX:aH [eI ae c_.aA.Value af,eI aZ c_.J aa,eB jO [vI count]]=X at aK⊢;clear hS hX;have hS:=aK;clear aK;refine fk func62 rfl ntmps62 rfl λ_ H=>?_;refine aQ H hS (az (eP [] [0,1,2] [1] [vP jO] (oB (e4 c_ (gL [af,aa])) rfl) λb1=>?_));refine uP 3 [] (an (aq (az ?_)));refine uB 5 [] [17,18] [vI (a8 (count+1)),vP jO] [kb 3 0] ?_;refine uL [3] [0,1,2] [17,18] (oS [vI (a8 (count+1))] rfl rfl) (an ?_);refine uA 22 (vB (decide (1500<a8 (count+1)))) [kb 0 0] ?_;refine uC hm ?_ ?_;intro hm;refine uR [1,2,22] [4,5] [vI 0,vF] [] (al [0] (ax ?_));cases hm;exact aI [0] dy;intro hm;refine ah (uR [22] [6] [vI (ln c_.J)] [kb 1 6] (aq ?_));refine uA 27 (vU c_.a7) [kb 1 0] (aE ?_);refine uA 28 (vB (c_.a7==7)) [] ?_;refine uC hm ?_ ?_;intro hm;obtain⟨hZ,qf,hm⟩:=ai hm;refine uR [1,27,28] [2,6,7,8] [vP b1,vI (ln c_.J),vI hZ.1,vI hZ.2] [kb 1 4,kr λ_ hS=>RX (aN:=af) m _ _ qf _ (aw aS (hS.im 2 rfl))] ?_;obtain⟨nG,xU,kX,xQ,hm⟩:=cU hm;obtain⟨cE,me,hm⟩:=ai hm;refine uR [2,6,7,8] [4,5] [vI (a8 (hZ.1+1)),vB (cond kX (cE==0) false)] [aV (gT (ln c_.J==0)) 1 1,aV (gT nG) 1 2,⟨some (.agg ⟨e8 c_.aA (gL [af])⟩),λwz=>kX=true∧True→V.bn b1 3 (e8 c_.aA (gL [af])) 0 wz,λ_ hS=>λhg=>(hS.bk 1 rfl).cM rfl⟩,eo (gT kX) λ_ hS hg=>Ys (cw:=af) m _ _ (bT (hg.1) me) _ (aw aS (hS.im 2 rfl))] ?_ (he:=by subst xU xQ;kernel_rfl);refine al [0] (ax ?_);cases hm;exact aI [0] dy;intro hm;refine uR [28] [1,2,6,27,61] [vP jO,vP b1,vI (ln c_.J),vU c_.a7,vB (c_.a7==8)] [] ?_;refine uC hm ?_ ?_;intro hm;obtain⟨qh,xV,hm⟩:=bd hm;refine uR [1,2,6,27,61] [4,5] [vI 1,vB qh] [⟨some (.agg ⟨e4 c_ (gL [af,aa])⟩),λwz=>(ln c_.J==0)=true∧True→V.bn b1 0 (e4 c_ (gL [af,aa])) 0 wz,λ_ hS=>λhg=>(hS.bk 1 rfl).cM rfl⟩,⟨some (vB (l7 c_)),λwz=>(ln c_.J==0)=true∧True→jn prog 114 ⟨[.agg ⟨e4 c_ (gL [af,aa])⟩]⟩ (vB (l7 c_)) wz,λ_ hS=>λhg=>Fx (af:=af) (aa:=aa) c_ _ (aw (aw aS (hS.im 3 rfl)) (hS.im 2 rfl))⟩] ?_ (he:=by subst xV;kernel_rfl);refine al [0] (ax ?_);cases hm;exact aI [0] dy;intro hm;obtain⟨zQ,hz,hm⟩:=ai hm;refine uK [27,61] [69] [vB zQ] [eB jO [vI (a8 (count+1))],eB b1 (e4 c_ (gL [af,aa])),eI ae c_.aA.Value af,eI aZ c_.J aa] ?_ ?_;replace hm:=hz;refine uR [61] [69] [vB (c_.a7==3)] [] ?_;refine uC hm ?_ ?_;intro hm;refine ah ?_;cases hm;exact te;intro hm;refine uA 69 (vB (c_.a7==1)) [] ?_;refine uC hm ?_ ?_;intro hm;refine ah ?_;cases hm;exact te;intro hm;refine uW [27] [69] [vB (c_.a7==2)] [] ?_;cases hm;exact te;refine lF (λhc=>?_) (λhc=>?c99)
  case c99=>
   replace hm:=bF hc hm;refine uR [1,2,6,69] [4,5] [vI 0,vF] [] (al [0] (ax ?_));cases hm;exact aI [0] dy
  replace hm:=bT hc hm;obtain⟨jh,xL,fC,pV,hm⟩:=cU hm;refine uJ [6,69] [kE 1 7,⟨some (vB (l7 c_)),rB 114 [.agg ⟨e4 c_ (gL [af,aa])⟩] (vB (l7 c_)),λ_ hS=>Fx (af:=af) (aa:=aa) c_ _ (aw (aw aS (hS.im 3 rfl)) (hS.im 2 rfl))⟩,aV (gF (!(l7 c_))) 1 0,aV (gF jh) 1 0] hm ?_ ?_ (he:=by subst xL pV;kernel_rfl);intro hm;refine uR [1,2] [4,5] [vI 0,vF] [] (al [0] (ax ?_));cases hm;exact aI [0] dy;intro hm;refine ah (uA 9 (vI 0) [] ?_);obtain⟨qa,hz,Yy⟩:=ai hm;intro _ _ JG hS;refine df (λa' w'=>∃s8:Int×Int,qa=Sum.inr s8∧Fr 119 [(9,[],vI s8.1)] a'∧SH M X w [eB jO [vI s8.2],eB b1 (e4 c_ (gL [af,aa])),eI ae c_.aA.Value af,eI aZ c_.J aa] w') ?_ ?_;replace hm:=hz;refine aQ JG hS (uR [2] [95,96,97] [vL aa c_.J,vI (ln c_.J),vI 0] [kb 1 6] (aE ?_));refine MZ [] [9,97] (λv53 cP _=>[vI v53,vI cP]) (λ_ _ iZ=>[eB jO [vI iZ],eB b1 (e4 c_ (gL [af,aa])),eI ae c_.aA.Value af,eI aZ c_.J aa]) hm (λkk v53 cP iZ hm=>?_);rw[we]at hm;refine uR [] [1,9,95,96,97,98] [vP jO,vI v53,vL aa c_.J,vI (ln c_.J),vI cP,vB (decide (cP<ln c_.J))] [] (aq ?_);refine uC hm ?_ ?_;intro hm;refine ah (aq (aE (az ?_)));obtain⟨s9,hm⟩:=bO hm;refine uB 2 [98] [100] [.agg ⟨e4 (gi c_.J cP) (aa.s cP.toNat)⟩] [ki 3 s9,⟨some (.agg ⟨e4 (gi c_.J cP) (aa.s cP.toNat)⟩),λwz=>V.bn (ab aa.a) (ao aa.a+cP.toNat*7) (e4 (gi c_.J cP) (aa.s cP.toNat)) 0 wz,λ_ hS=>(hS.im 3 rfl).cS s9 0 rfl⟩] ?_;refine uM [] [0,1,2,3] [] (oA [vU 0,vN,vI 0,vN,vO,vF,vO]) λYz=>?_;refine uL [0] [1,2,3,4] [100] (oS (e4 (gi c_.J cP) (aa.s cP.toNat)) rfl rfl) (an (az ?_));refine uB 2 [] [102,103] [.agg ⟨e4 (gi c_.J cP) (aa.s cP.toNat)⟩,vP jO] [kE 0 7] ?_;intro _ _ wk hS;replace hS:=hS.ik (jJ ((hS.im 4 rfl).el s9));replace hS:=hS.ik (j5 ((hS.im 5 rfl).el s9));obtain⟨wg,a6R,hm⟩:=ai hm;refine aQ wk hS (BN [1,0,3] [0,1,2,4,5,6] [1,9,11,95,96,97] [vP jO,vI v53,vP Yz,vL aa c_.J,vI (ln c_.J),vI cP] (λ_ _ wk hd=>iJ wk rfl rfl (⟨call62 _,ih (aa.s cP.toNat 0) (aa.s cP.toNat 1) jO _ _ _ _ a6R _ hd⟩:kO _ _ _ _ _)) ?_);refine uB 8 [104] [12,13] [vI wg.1,vB wg.2.1] [] (an (al [0,3,4,5,6] (aq ?_)));refine uJ [13] [] hm ?_ ?_;intro hm;refine uR [1,9,11,95,96,97,12] [4,5] [vI 0,vF] [] (al [0,2,3,4] (ax ?_));cases hm;have hm:=Yy;cases hm;exact aI [0] dy;intro hm;refine ah ?_;obtain⟨wj,hz,hm⟩:=ai hm;refine uK [11] [12] [vI wj] [eB jO [vI wg.2.2],eB Yz (e4 (gi c_.J cP) (aa.s cP.toNat)),eB b1 (e4 c_ (gL [af,aa])),eI ae c_.aA.Value af,eI aZ c_.J aa] ?_ ?_;replace hm:=hz;refine uJ [11] [kE 1 7,kr λ_ hS=>a6O (af:=aa.s cP.toNat 0) (aa:=aa.s cP.toNat 1) (gi c_.J cP) _ (aw (aw aS (j5 ((hS.im 4 rfl).el s9))) (jJ ((hS.im 4 rfl).el s9)))] hm ?_ ?_;intro hm;refine uV 12 (vI (a8 (wg.1+1))) [] ?_;cases hm;exact te;intro hm;refine ah ?_;cases hm;exact te;refine al [0,2,3,4] ?_;refine uW [12] [9] [vI (if v53<wj then wj else v53)] [] ?_;exact R8 [] hm;intro hm;refine bt ?_;cases hm;exact λ_ _ FB hS=>⟨_,rfl,aD.bc (ks:=[9]) FB (by kernel_rfl),hS⟩;rintro _ _ ⟨s8,hz,H,hS⟩;subst hz;replace hm:=cG Yy;replace hS:=hS.aY [0] rfl;refine aQ H hS ?_;cases hm;exact uY [0] []
def NG(m:Nat)(c_:aP)(count:Int):Option (Int×Bool×Int):=sZ m m c_ count
theorem a6S{af aa:Gh}{jO:Nat}(m)(c_)(count)(r)(hm:NG m c_ count=some r)(M:Av)(w:World)(hS:S0 M [eI ae c_.aA.Value af,eI aZ c_.J aa,eB jO [vI count]] w):kO prog 62 ⟨[.agg ⟨e4 c_ (gL [af,aa])⟩,vP jO]⟩ w (λv w'=>v=vW [vI r.1,vB r.2.1]∧SH M (aH [eI ae c_.aA.Value af,eI aZ c_.J aa,eB jO [vI count]]) w [eB jO [vI r.2.2]] w'):=⟨call62 _,a6Q m m af aa jO M c_ count r hm w hS⟩

def A1(m:Nat)(c_:aP):Option Int:=Option.bind (NG m c_ 0) λnz=>lt (cond (!nz.2.1) true (decide (16<nz.1))) λiB=>cond iB (some 8) (some 0)
theorem Se{af aa:Gh}(m)(c_)(r)(hm:A1 m c_=some r)(w)(hL:Rd [eI ae c_.aA.Value af,eI aZ c_.J aa] w):Rb 37 [.agg ⟨e4 c_ (gL [af,aa])⟩] (vI r) w:=by
 rw[A1]at hm;refine c7 hL (call37 _) func37 ntmps37 λM X w=>(az ?_);refine uM [] [0,1] [0] (oB (e4 c_ (gL [af,aa])) rfl) λb1=>?_;refine uP 2 [] (an (az ?_));refine uM [] [0,1,2] [] (λ_ _ H5 hd=>BA [vI 0] (z:=vI 0) hd (by kernel_rfl) rfl) λb6=>?_;refine uN [0] [1,2,3] (oS [vI 0] rfl rfl) (an (aq (az ?_)));refine uB 1 [1] [7] [.agg ⟨e4 c_ (gL [af,aa])⟩] [kE 1 7] ?_;obtain⟨nz,xB,hm⟩:=ai hm;refine BN [2,3,0] [1,2,3] [] [] (λ_ _ oV hd=>iJ oV rfl rfl (a6S (af:=af) (aa:=aa) (jO:=b6) m _ _ _ xB _ _ hd)) ?_;refine uB 7 [8] [4,5] [vI nz.1,vB nz.2.1] [] (an (al [] ?_));obtain⟨iB,rR,hm⟩:=bd hm;refine uJ [4,5] [] hm ?_ ?_ (he:=by subst rR;kernel_rfl);intro hm;cases hm;exact uZ [] [];intro hm;refine ah ?_;cases hm;exact uZ [] []

def a6T(cX:(List bJ)→Option uf):Prop:=∀(a6:Gh)(M:Av)(l_:List bJ)(r:uf),cX l_=some r→∀w,S0 M [eI cb l_ a6] w→Calls prog 36 ⟨[vL a6 l_]⟩ w (λe w'=>∃v,e=.returned v∧v=.agg ⟨zw r⟩∧SH M (aH [eI cb l_ a6]) w [] w')
def CC(m:Nat)(l_:List bJ)(v10:Int)(jP:Int):Nat→Bool→Int→Int→Option (Int×Bool×Int)
 |0,_,_,_=>none
 |kk+1,xW,ji,wm=>cond (decide (ji<ln (gi l_ v10).bE)) (au (0≤ji∧ji<ln (gi l_ v10).bE)<|Option.bind (Ch m (gi (gi l_ v10).bE ji).Value) λsa=>Option.bind (cond (cond xW true (sa.2 !=0)) (some default) (Fw m (gi (gi l_ v10).bE ji))) λYA=>lt (cond (cond xW true (sa.2 !=0)) true (YA !=0)) λta=>CC m l_ v10 jP kk ta (a8 (ji+1)) (if wm<sa.1 then sa.1 else wm)) (some (jP,xW,wm))
def CD(m:Nat)(l_:List bJ)(YB:(List bJ)→Option uf):Nat→Int→Int→Int→Bool→Option (Int×Int×Bool)
 |0,_,_,_,_=>none
 |kk+1,v10,v11,v12,ep=>cond (decide (v10<ln l_)) (Option.bind (au (0≤v10∧v10<ln l_)<|Option.bind (YB (gi l_ v10).bh) λcE=>lt (a8 (ln (gi l_ v10).cK+ln (gi l_ v10).bE)) λiL=>Option.bind (J2 m (gi l_ v10).bX) λfj=>Option.bind (cond ((gi l_ v10).a7==1) (Option.bind (Na m (gi l_ v10).cK) λjP=>Option.bind (cond (cond cE.bad true fj) (some default) (Fk m (gi l_ v10).cK)) λNH=>lt (cond (cond cE.bad true fj) true (NH !=0)) λtb=>lt (cond tb true (decide (32<ln (gi l_ v10).bE))) λsb=>lt (cond sb true (!(oR (gi l_ v10).aM))) λsc=>lt (cond sc true (decide (0<a8 (ln (gi l_ v10).bX+ln (gi l_ v10).bh)))) λxX=>CC m l_ v10 jP m xX 0 cE.depth) (cond ((gi l_ v10).a7==2) (Option.bind (Nx m (gi l_ v10).aM) λxY=>lt (cond (cond cE.bad true fj) true (decide (0<iL))) λJH=>lt (cond JH true (decide (0<ln (gi l_ v10).bX))) λjx=>Option.bind (cond jx (some default) (CA m (gi l_ v10).aM)) λxZ=>some (xY,cond jx true (xZ !=0),cE.depth)) (cond ((gi l_ v10).a7==3) (Option.bind (NF m (gi l_ v10).aM) λFC=>lt (cond (cond cE.bad true fj) true (decide (0<iL))) λJI=>lt (cond JI true (decide (0<ln (gi l_ v10).bX))) λrf=>Option.bind (cond rf (some default) (A1 m (gi l_ v10).aM)) λJJ=>some (FC,cond rf true (JJ !=0),cE.depth)) (cond ((gi l_ v10).a7==4) (lt (cond (cond cE.bad true fj) true (decide (0<iL))) λJK=>lt (cond JK true (decide (1<ln (gi l_ v10).bX))) λFD=>lt (cond FD true (!(oR (gi l_ v10).aM))) λA2=>some (0,A2,cE.depth)) (cond ((gi l_ v10).a7==5) (lt (cond (cond cE.bad true fj) true (decide (0<iL))) λNI=>lt (cond NI true (decide (ln (gi l_ v10).bX<1))) λNJ=>lt (cond NJ true (decide (64<ln (gi l_ v10).bX))) λJL=>lt (cond JL true (decide (0<ln (gi l_ v10).bh))) λFE=>lt (cond FE true (!(oR (gi l_ v10).aM))) λuu=>some (0,uu,(-1))) (some (0,true,cE.depth))))))) λ(kB:Int×Bool×Int)=>lt (if(if v12<a8 (kB.2.2+1)then a8 (kB.2.2+1)else v12)<kB.1 then kB.1 else(if v12<a8 (kB.2.2+1)then a8 (kB.2.2+1)else v12)) λCE=>some (a8 (v11+a8 (cE.rules+1)),CE,cond ep true kB.2.1)) λ(dx:Int×Int×Bool)=>CD m l_ YB kk (a8 (v10+1)) dx.1 dx.2.1 dx.2.2) (some (v11,v12,ep))
def y0(m:Nat):Nat→List bJ→Option uf
 |0,_=>none
 |k+1,l_=>Option.bind (CD m l_ (y0 m k) m 0 0 0 false) λ(z7:Int×Int×Bool)=>some (uf.mk z7.1 z7.2.1 z7.2.2)
theorem a6U(m:Nat):∀(k:Nat),a6T (y0 m k):=by
 intro k
 induction k with
 |zero=>intro a6 M l_ r hm;exact eJ hm
 |succ k ih=>
  intro a6 M l_ r hm w hS;rw[y0]at hm;have aK:SH M (aH [eI cb l_ a6]) w [eI cb l_ a6] w:=hS;generalize hX:aH [eI cb l_ a6]=X at aK⊢;clear hS hX;have hS:=aK;clear aK;refine fk func36 rfl ntmps36 rfl λ_ H=>?_;refine aQ H hS (az (eP [] [0] [0] [vL a6 l_] (oA [vI 0,vI 0,vF]) λb1=>an (az ?_)));refine eP [] [0,1] [0,2] [vL a6 l_,vP b1] (oA [vI 0,vI 0,vF]) λb4=>(an ?_);obtain⟨z7,hz,hm⟩:=ai hm;refine uK [0] [3] [vP b4] [eB b4 [vI z7.1,vI z7.2.1,vB z7.2.2],eB b1 [vI 0,vI 0,vF],eI cb l_ a6] ?_ ?_;replace hm:=hz;refine uR [0] [3,16,17,18] [vP b4,vL a6 l_,vI (ln l_),vI 0] [] (aE ?_);refine N0 [] [18] (λv10 _ _ _=>[vI v10]) (λ_ v11 v12 ep=>[eB b4 [vI v11,vI v12,vB ep],eB b1 [vI 0,vI 0,vF],eI cb l_ a6]) hm (λkk v10 v11 v12 ep hm=>?_);rw[CD]at hm;refine uA 19 (vB (decide (v10<ln l_))) [] (aq ?_);refine uC hm ?_ ?_;intro hm;refine ah ?_;obtain⟨dx,hz,hm⟩:=ai hm;refine uK [19] [] [] [eB b4 [vI dx.1,vI dx.2.1,vB dx.2.2],eB b1 [vI 0,vI 0,vF],eI cb l_ a6] ?_ ?_;replace hm:=hz;refine aE (az ?_);obtain⟨dK,hm⟩:=bO hm;refine uB 2 [19] [21] [.agg ⟨e5 (gi l_ v10) (a6.s v10.toNat)⟩] [ki 2 dK,⟨some (.agg ⟨e5 (gi l_ v10) (a6.s v10.toNat)⟩),λwz=>V.bn (ab a6.a) (ao a6.a+v10.toNat*12) (e5 (gi l_ v10) (a6.s v10.toNat)) 0 wz,λ_ hS=>(hS.im 2 rfl).cS dK 0 rfl⟩] ?_;refine eP [] [0,1,2] [2,3,16,17,18,21] [vP b1,vP b4,vL a6 l_,vI (ln l_),vI v10,.agg ⟨e5 (gi l_ v10) (a6.s v10.toNat)⟩] (oA [vU 0,vO,vO,vU 0,vN,vI 0,vN,vO,vF,vO,vO,vO]) λqc=>?_;refine uL [0] [1,2,3] [21] (oS (e5 (gi l_ v10) (a6.s v10.toNat)) rfl rfl) (an (az ?_));obtain⟨cE,me,hm⟩:=ai hm;refine uB 3 [] [24] [.agg ⟨zw cE⟩] [kb 0 11,kr λ_ hS=>dF (aw aS (zq ((hS.im 3 rfl).el dK))) (call36 _) (λw' h'=>ih (a6.s v10.toNat 5) F0 _ _ me w' h')] ?_;refine uM [] [0,1,2,3] [] (oA [vI 0,vI 0,vF]) λuv=>?_;refine uL [0] [1,2,3,4] [24] (oS (zw cE) rfl rfl) (an ?_);refine uA 7 (vI 0) [] (az ?_);refine uB 7 [] [30,31] [vI (a8 (v11+a8 (cE.rules+1))),vP b4] [kb 2 0,kb 0 0] ?_;refine nu [2] [0,1,3,4] [2,3,5,6,7,16,17,18] [vP b1,vP b4,vP qc,vP uv,vI 0,vL a6 l_,vI (ln l_),vI v10] (oS [vI (a8 (v11+a8 (cE.rules+1))),vI v12,vB ep] rfl rfl) (an ?_);obtain⟨iL,uw,hm⟩:=bd hm;refine uA 8 (vB (decide (0<iL))) [kb 2 1,kb 2 2] ?_ (he:=by subst uw;kernel_rfl);obtain⟨fj,xz,hm⟩:=ai hm;refine uA 9 (vB fj) [kb 2 10,kr λ_ hS=>a5C (bi:=a6.s v10.toNat 4) m _ _ xz _ (aw aS (BU ((hS.im 4 rfl).el dK)))] ?_;refine uR [9] [10] [vB (cond cE.bad true fj)] [kb 1 2] ?_;obtain⟨kB,hz,hm⟩:=ai hm;refine uK [5,8] [7,10] [vI kB.1,vB kB.2.1] [eB b4 [vI (a8 (v11+a8 (cE.rules+1))),vI v12,vB ep],eB uv [vI cE.rules,vI kB.2.2,vB cE.bad],eB qc (e5 (gi l_ v10) (a6.s v10.toNat)),eB b1 [vI 0,vI 0,vF],eI cb l_ a6] ?_ ?_;replace hm:=hz;refine uA 49 (vU (gi l_ v10).a7) [kb 2 0] (aE ?_);refine uI [] hm ?_ ?_;intro hm;obtain⟨jP,FF,hm⟩:=ai hm;refine uR [8,49] [7] [vI jP] [kb 2 1,kr λ_ hS=>a5F (a6:=a6.s v10.toNat 0) m _ _ FF _ (aw aS (zp ((hS.im 4 rfl).el dK)))] ?_;obtain⟨NH,a6V,tb,Sf,hm⟩:=gK hm;obtain⟨sb,Sg,sc,JM,hm⟩:=cU hm;obtain⟨xX,Sh,hm⟩:=bd hm;refine uR [] [2,3,5,6,7,10,16,17,18] [vP b1,vP b4,vP qc,vP uv,vI jP,vB xX,vL a6 l_,vI (ln l_),vI v10] [aV (gF (cond cE.bad true fj)) 2 1,eo (gF (cond cE.bad true fj)) λ_ hS hg=>a60 (a6:=a6.s v10.toNat 0) m _ _ (bF (hg.1) a6V) _ (aw aS (zp ((hS.im 4 rfl).el dK))),aV (gF tb) 2 2,⟨some (.agg ⟨e4 (gi l_ v10).aM (gL [a6.s v10.toNat 2,a6.s v10.toNat 3])⟩),λwz=>sb=false∧True→V.bn qc 3 (e4 (gi l_ v10).aM (gL [a6.s v10.toNat 2,a6.s v10.toNat 3])) 0 wz,λ_ hS=>λhg=>(hS.bk 2 rfl).cM rfl⟩,⟨some (vB (oR (gi l_ v10).aM)),λwz=>sb=false∧True→jn prog 56 ⟨[.agg ⟨e4 (gi l_ v10).aM (gL [a6.s v10.toNat 2,a6.s v10.toNat 3])⟩]⟩ (vB (oR (gi l_ v10).aM)) wz,λ_ hS=>λhg=>RV (af:=a6.s v10.toNat 2) (aa:=a6.s v10.toNat 3) (gi l_ v10).aM _ (aw (aw aS (sQ ((hS.im 4 rfl).el dK))) (sP ((hS.im 4 rfl).el dK)))⟩,aV (gF sc) 2 10,aV (gF sc) 2 11] ?_ (he:=by subst Sf Sg JM Sh;kernel_rfl);refine uR [5] [85,86,87] [.slice (a6.s v10.toNat 1).a (gi l_ v10).bE.length (a6.s v10.toNat 1).c,vI (ln (gi l_ v10).bE),vI 0] [kb 2 2] (aE ?_);refine MZ [] [10,87] (λxW ji _=>[vB xW,vI ji]) (λ_ _ wm=>[eB b4 [vI (a8 (v11+a8 (cE.rules+1))),vI v12,vB ep],eB uv [vI cE.rules,vI wm,vB cE.bad],eB qc (e5 (gi l_ v10) (a6.s v10.toNat)),eB b1 [vI 0,vI 0,vF],eI cb l_ a6]) hm (λkk xW ji wm hm=>?_);rw[CC]at hm;refine uA 88 (vB (decide (ji<ln (gi l_ v10).bE))) [] (aq ?_);refine uC hm ?_ ?_;intro hm;refine ah (aq (aE (az ?_)));obtain⟨A3,hm⟩:=bO hm;refine uB 2 [88] [90] [.agg ⟨e8 (gi (gi l_ v10).bE ji) ((a6.s v10.toNat 1).s ji.toNat)⟩] [⟨none,λ_=>dE (a6.s v10.toNat 1).a∧0≤ji∧ji<ln (gi l_ v10).bE,λ_ hS=>(sO ((hS.im 4 rfl).el dK)).gP A3⟩,⟨some (.agg ⟨e8 (gi (gi l_ v10).bE ji) ((a6.s v10.toNat 1).s ji.toNat)⟩),λwz=>V.bn (ab (a6.s v10.toNat 1).a) (ao (a6.s v10.toNat 1).a+ji.toNat*3) (e8 (gi (gi l_ v10).bE ji) ((a6.s v10.toNat 1).s ji.toNat)) 0 wz,λ_ hS=>(sO ((hS.im 4 rfl).el dK)).cS A3 0 rfl⟩] ?_;refine uM [] [0,1,2,3,4] [] (oA [vN,vO,vF]) λYC=>?_;refine uL [0] [1,2,3,4,5] [90] (oS (e8 (gi (gi l_ v10).bE ji) ((a6.s v10.toNat 1).s ji.toNat)) rfl rfl) (an ?_);obtain⟨sa,a6W,hm⟩:=ai hm;refine uR [] [2,3,6,7,10,12,13,14,16,17,18,85,86,87] [vP b1,vP b4,vP uv,vI jP,vB xW,vP YC,vI sa.1,vI sa.2,vL a6 l_,vI (ln l_),vI v10,.slice (a6.s v10.toNat 1).a (gi l_ v10).bE.length (a6.s v10.toNat 1).c,vI (ln (gi l_ v10).bE),vI ji] [kb 0 1,kr λ_ hS=>RX (aN:=(a6.s v10.toNat 1).s ji.toNat 0) m _ _ a6W _ (aw aS (xw ((sO ((hS.im 5 rfl).el dK)).el A3)))] (az ?_);refine uB 5 [13] [100,101] [vI (if wm<sa.1 then sa.1 else wm),vA uv 1] [kb 2 1] ?_;refine uL [2] [0,1,3,4,5] [100,101] (oS [vI cE.rules,vI (if wm<sa.1 then sa.1 else wm),vB cE.bad] rfl rfl) (an ?_);obtain⟨YA,a6X,ta,Si,hm⟩:=gK hm;refine uW [12,14] [10] [vB ta] [⟨some (.agg ⟨e8 (gi (gi l_ v10).bE ji) ((a6.s v10.toNat 1).s ji.toNat)⟩),λwz=>cond xW true (sa.2 !=0)=false∧True→V.bn YC 0 (e8 (gi (gi l_ v10).bE ji) ((a6.s v10.toNat 1).s ji.toNat)) 0 wz,λ_ hS=>λhg=>(hS.bk 1 rfl).cM rfl⟩,eo (gF (cond xW true (sa.2 !=0))) λ_ hS hg=>Ys (cw:=(a6.s v10.toNat 1).s ji.toNat 0) m _ _ (bF (hg.1) a6X) _ (aw aS (xw ((sO ((hS.im 5 rfl).el dK)).el A3)))] ?_ (he:=by subst Si;kernel_rfl);refine al [0,2,3,4,5] ?_;refine uV 87 (vI (a8 (ji+1))) [] (al [1,0,2,3,4] ?_);exact ug3 hm;intro hm;refine bt ?_;cases hm;exact te;intro hm;refine uI [] hm ?_ ?_;intro hm;obtain⟨xY,Sj,hm⟩:=ai hm;refine uR [49] [7] [vI xY] [⟨some (.agg ⟨e4 (gi l_ v10).aM (gL [a6.s v10.toNat 2,a6.s v10.toNat 3])⟩),λwz=>V.bn qc 3 (e4 (gi l_ v10).aM (gL [a6.s v10.toNat 2,a6.s v10.toNat 3])) 0 wz,λ_ hS=>(hS.bk 2 rfl).cM rfl⟩,kr λ_ hS=>a6B (af:=a6.s v10.toNat 2) (aa:=a6.s v10.toNat 3) m _ _ Sj _ (aw (aw aS (sQ ((hS.im 4 rfl).el dK))) (sP ((hS.im 4 rfl).el dK)))] ?_;obtain⟨JH,a6Y,jx,CF,hm⟩:=cU hm;obtain⟨xZ,Sk,hm⟩:=ai hm;refine uW [5,8] [2,3,6,7,10,16,17,18] [vP b1,vP b4,vP uv,vI xY,vB (cond jx true (xZ !=0)),vL a6 l_,vI (ln l_),vI v10] [aV (gF JH) 2 10,⟨some (.agg ⟨e4 (gi l_ v10).aM (gL [a6.s v10.toNat 2,a6.s v10.toNat 3])⟩),λwz=>jx=false∧True→V.bn qc 3 (e4 (gi l_ v10).aM (gL [a6.s v10.toNat 2,a6.s v10.toNat 3])) 0 wz,λ_ hS=>λhg=>(hS.bk 2 rfl).cM rfl⟩,eo (gF jx) λ_ hS hg=>Yv (af:=a6.s v10.toNat 2) (aa:=a6.s v10.toNat 3) m _ _ (bF (hg.1) Sk) _ (aw (aw aS (sQ ((hS.im 4 rfl).el dK))) (sP ((hS.im 4 rfl).el dK)))] ?_ (he:=by subst a6Y CF;kernel_rfl);cases hm;exact te;intro hm;refine uI [] hm ?_ ?_;intro hm;obtain⟨FC,a6Z,hm⟩:=ai hm;refine uR [49] [7] [vI FC] [⟨some (.agg ⟨e4 (gi l_ v10).aM (gL [a6.s v10.toNat 2,a6.s v10.toNat 3])⟩),λwz=>V.bn qc 3 (e4 (gi l_ v10).aM (gL [a6.s v10.toNat 2,a6.s v10.toNat 3])) 0 wz,λ_ hS=>(hS.bk 2 rfl).cM rfl⟩,kr λ_ hS=>a6N (af:=a6.s v10.toNat 2) (aa:=a6.s v10.toNat 3) m _ _ a6Z _ (aw (aw aS (sQ ((hS.im 4 rfl).el dK))) (sP ((hS.im 4 rfl).el dK)))] ?_;obtain⟨JI,a71,rf,Sm,hm⟩:=cU hm;obtain⟨JJ,a73,hm⟩:=ai hm;refine uW [5,8] [2,3,6,7,10,16,17,18] [vP b1,vP b4,vP uv,vI FC,vB (cond rf true (JJ !=0)),vL a6 l_,vI (ln l_),vI v10] [aV (gF JI) 2 10,⟨some (.agg ⟨e4 (gi l_ v10).aM (gL [a6.s v10.toNat 2,a6.s v10.toNat 3])⟩),λwz=>rf=false∧True→V.bn qc 3 (e4 (gi l_ v10).aM (gL [a6.s v10.toNat 2,a6.s v10.toNat 3])) 0 wz,λ_ hS=>λhg=>(hS.bk 2 rfl).cM rfl⟩,eo (gF rf) λ_ hS hg=>Se (af:=a6.s v10.toNat 2) (aa:=a6.s v10.toNat 3) m _ _ (bF (hg.1) a73) _ (aw (aw aS (sQ ((hS.im 4 rfl).el dK))) (sP ((hS.im 4 rfl).el dK)))] ?_ (he:=by subst a71 Sm;kernel_rfl);cases hm;exact te;intro hm;refine uI [] hm ?_ ?_;intro hm;obtain⟨JK,a74,FD,a77,hm⟩:=cU hm;obtain⟨A2,Sn,hm⟩:=bd hm;refine uW [5,8,49] [10] [vB A2] [aV (gF JK) 2 10,⟨some (.agg ⟨e4 (gi l_ v10).aM (gL [a6.s v10.toNat 2,a6.s v10.toNat 3])⟩),λwz=>FD=false∧True→V.bn qc 3 (e4 (gi l_ v10).aM (gL [a6.s v10.toNat 2,a6.s v10.toNat 3])) 0 wz,λ_ hS=>λhg=>(hS.bk 2 rfl).cM rfl⟩,⟨some (vB (oR (gi l_ v10).aM)),λwz=>FD=false∧True→jn prog 56 ⟨[.agg ⟨e4 (gi l_ v10).aM (gL [a6.s v10.toNat 2,a6.s v10.toNat 3])⟩]⟩ (vB (oR (gi l_ v10).aM)) wz,λ_ hS=>λhg=>RV (af:=a6.s v10.toNat 2) (aa:=a6.s v10.toNat 3) (gi l_ v10).aM _ (aw (aw aS (sQ ((hS.im 4 rfl).el dK))) (sP ((hS.im 4 rfl).el dK)))⟩] ?_ (he:=by subst a74 a77 Sn;kernel_rfl);cases hm;exact te;intro hm;refine uJ [49] [] hm ?_ ?_;intro hm;refine az (uB 1 [] [2,3,5,6,7,8,10,16,17,18,175] [vP b1,vP b4,vP qc,vP uv,vI 0,vB (decide (0<iL)),vB (cond cE.bad true fj),vL a6 l_,vI (ln l_),vI v10,vA uv 1] [] ?_);refine uL [1] [0,2,3,4] [175] (oS [vI cE.rules,vI (-1),vB cE.bad] rfl rfl) (an ?_);refine uA 15 (vI (ln (gi l_ v10).bX)) [kb 2 10] ?_;obtain⟨NI,a78,NJ,a79,hm⟩:=cU hm;obtain⟨JL,a7a,FE,a7b,hm⟩:=cU hm;obtain⟨uu,So,hm⟩:=bd hm;refine uW [5,8,15] [10] [vB uu] [aV (gF JL) 2 11,⟨some (.agg ⟨e4 (gi l_ v10).aM (gL [a6.s v10.toNat 2,a6.s v10.toNat 3])⟩),λwz=>FE=false∧True→V.bn qc 3 (e4 (gi l_ v10).aM (gL [a6.s v10.toNat 2,a6.s v10.toNat 3])) 0 wz,λ_ hS=>λhg=>(hS.bk 2 rfl).cM rfl⟩,⟨some (vB (oR (gi l_ v10).aM)),λwz=>FE=false∧True→jn prog 56 ⟨[.agg ⟨e4 (gi l_ v10).aM (gL [a6.s v10.toNat 2,a6.s v10.toNat 3])⟩]⟩ (vB (oR (gi l_ v10).aM)) wz,λ_ hS=>λhg=>RV (af:=a6.s v10.toNat 2) (aa:=a6.s v10.toNat 3) (gi l_ v10).aM _ (aw (aw aS (sQ ((hS.im 4 rfl).el dK))) (sP ((hS.im 4 rfl).el dK)))⟩] ?_ (he:=by subst a78 a79 a7a a7b So;kernel_rfl);cases hm;refine al [1,0,2,3,4] ?_;exact te;intro hm;refine uW [5,8] [2,3,6,7,10,16,17,18] [vP b1,vP b4,vP uv,vI 0,vT,vL a6 l_,vI (ln l_),vI v10] [] ?_;cases hm;exact te;refine al [0,1,3,4] (az ?_);obtain⟨CE,a7c,hm⟩:=bd hm;refine uB 8 [6,7] [209,210] [vI CE,vA b4 1] [kb 0 1,kb 1 1] ?_ (he:=by subst a7c;kernel_rfl);refine uL [0] [1,2,3] [209,210] (oS [vI (a8 (v11+a8 (cE.rules+1))),vI CE,vB ep] rfl rfl) (an (al [0,2,3] (dG ?_)));refine uB 6 [10] [2,3,16,17,18,215,216] [vP b1,vP b4,vL a6 l_,vI (ln l_),vI v10,vB (cond ep true kB.2.1),vA b4 2] [kb 0 2] ?_;refine uL [0] [1,2] [215,216] (oS [vI (a8 (v11+a8 (cE.rules+1))),vI CE,vB (cond ep true kB.2.1)] rfl rfl) (an ?_);cases hm;exact te;exact Rc [] hm;intro hm;refine bt ?_;cases hm;exact te;refine al [0,1] (az ?_);refine uB 1 [3] [218] [vG [vI z7.1,vI z7.2.1,vB z7.2.2]] [kE 0 3] ?_;refine uL [1] [0] [218] (oS [vI z7.1,vI z7.2.1,vB z7.2.2] rfl rfl) (an (al [0] (ax ?_)));cases hm;exact aI [] (BP 0 underlying77)
def Sp(m:Nat)(l_:List bJ):Option uf:=y0 m m l_
theorem a7d{a6:Gh}(m)(l_)(r)(hm:Sp m l_=some r)(w)(hL:Rd [eI cb l_ a6] w):Rb 36 [vL a6 l_] (.agg ⟨zw r⟩) w:=dF hL (call36 _) (λw' h=>a6U m m a6 F0 l_ r hm w' h)

def CG(m:Nat)(l_:List bJ):Option Int:=Option.bind (Sp m l_) λy3=>lt (cond y3.bad true (decide (64<y3.rules))) λfm=>cond (cond fm true (decide (16<y3.depth))) (some 8) (some 0)
theorem YD{a6:Gh}(m)(l_)(r)(hm:CG m l_=some r)(w)(hL:Rd [eI cb l_ a6] w):Rb 23 [vL a6 l_] (vI r) w:=by
 rw[CG]at hm;refine c7 hL (call23 _) func23 ntmps23 λM X w=>?_;refine uO [] (aq (az ?_));obtain⟨y3,cC,hm⟩:=ai hm;refine uB 2 [0] [5] [.agg ⟨zw y3⟩] [kr λ_ hS=>a7d (a6:=a6) m _ _ cC _ (aw aS (hS.im 0 rfl))] ?_;refine uM [] [0] [] (oA [vI 0,vI 0,vF]) λb6=>?_;refine uL [0] [1] [5] (oS (zw y3) rfl rfl) (an (al [0] ?_));obtain⟨fm,mi,hm⟩:=bd hm;refine uR [3] [17] [vB (cond fm true (decide (16<y3.depth)))] [kb 0 2,aV (gF y3.bad) 0 0,aV (gF fm) 0 1] ?_ (he:=by subst mi;kernel_rfl);refine al [] (uC hm ?_ ?_);intro hm;cases hm;exact uZ [] [];intro hm;refine ah ?_;cases hm;exact uZ [] []

def JN(m:Nat)(r_:bJ):Option Int:=Option.bind (CG m ([r_]:List bJ)) λdD=>some dD
theorem a7e{cf c8 bB bq cg bV:Gh}(m)(r_)(r)(hm:JN m r_=some r)(w)(hL:Rd [eI bx r_.cK cf,eI dk r_.bE c8,eI ae r_.aM.aA.Value bB,eI aZ r_.aM.J bq,eI (Ty.sl tS) r_.bX cg,eI cb r_.bh bV] w):Rb 12 [.agg ⟨e5 r_ (gL [cf,c8,bB,bq,cg,bV])⟩] (vI r) w:=by
 rw[JN]at hm;refine c7 hL (call12 _) func12 ntmps12 λM X w=>(az ?_);refine uM [] [0,1,2,3,4,5] [0] (oB (e5 r_ (gL [cf,c8,bB,bq,cg,bV])) rfl) λb1=>?_;refine uP 2 [] (an (az ?_));refine uB 1 [1] [3] [.agg ⟨e5 r_ (gL [cf,c8,bB,bq,cg,bV])⟩] [kE 0 12] ?_;refine uM [1,2,3,4,5,6] [0,1,2,3,4,5,6] [3] (oL cb 33 (vG [vU 0,vO,vO,vU 0,vN,vI 0,vN,vO,vF,vO,vO,vO]) [r_] [gL [cf,c8,bB,bq,cg,bV]] (λhd=>aJ.cons (N4 (hd.im 0 rfl) (hd.im 1 rfl) (hd.im 2 rfl) (hd.im 3 rfl) (hd.im 4 rfl) (hd.im 5 rfl)) aJ.nil) rfl) λg8=>?_;obtain⟨dD,iU,hm⟩:=ai hm;refine uB 4 [4] [2] [vI dD] [kr λ_ hS=>YD (a6:=g8) m _ _ iU _ (aw aS (hS.dX 0 rfl))] (an (al [] (ax ?_)));cases hm;exact aI [] aR

def JO(e_:jK):Bool:=lt (cond (decide (0≤e_.cz)) (decide (e_.cz≤1000000000)) false) λx6=>x6
theorem a7f(e_:jK):Rt 13 [vG [vI e_.cz]] (vB (JO e_)):=by
 generalize hm:JO e_=r;rw[JO]at hm;refine cA (call13 _) func13 ntmps13 λM X w=>(az ?_);refine uM [] [] [0] (oB [vI e_.cz] rfl) λb1=>?_;refine uP 2 [] (an ?_);obtain⟨x6,iC,hm⟩:=bd hm;refine uR [1] [2] [vB x6] [kb 0 0,aV (gT (decide (0≤e_.cz))) 0 0] ?_ (he:=by subst iC;kernel_rfl);refine al [] (ax ?_);subst hm;exact aI [] aR

def FG(i:Int)(u0:List aj):Option Bool:=au (0≤i∧i<ln u0)<|some ((gi u0 i).ay.a7==13)
theorem YE{gf:Nat}{px:Gh}(i)(u0)(r)(hm:FG i u0=some r)(w)(hL:Rd [aU.ro gf [vL px u0],eI ae u0 px] w):Rb 116 [vI i,vP gf] (vB r) w:=by
 rw[FG]at hm;refine c7 hL (call116 _) func116 ntmps116 λM X w=>?_;refine uO [] ?_;obtain⟨mM,hm⟩:=bO hm;refine uR [0,1] [3] [vB ((gi u0 i).ay.a7==13)] [ko 0 0,ki 1 mM,kj 1 0 mM] (al [] (ax ?_));cases hm;exact aI [] aR

def NK(s:List aj):Option (List aj):=au (ln ([]:List aj)+ln s≤137438953472)<|lt (([]:List aj)++s) λNL=>some NL
theorem a7g{bi:Gh}(s)(r)(hm:NK s=some r):Dm 160 [vL bi s] [eI ae s bi] (λ(bp:Gh)=>vL bp r) (λbp=>[eO 104 ae r bp]):=by
 rw[NK]at hm;refine jG (call160 _) func160 ntmps160 λM X w=>?_;refine uO [] (aq ?_);intro _ _ H2 hS;rcases bi with _|⟨_|ad,gc,gs⟩;obtain rfl:s=[]:=bC.nl (hS.im 0 rfl) rfl;replace hm:(some ([]:List aj))=some r:=hm;refine aQ H2 hS (uR [] [0,4] [.slice Gh.nil.a ([]:List aj).length Gh.nil.c,vT] [] ?_);intro _ _ H4 hS;refine yV H4 rfl (λ_=>?_) (λhc=>by cases hc);refine aQ H4 hS (uR [0,4] [2] [vO] [] (al [] (ax ?_)));cases hm;refine eE 104 ae ?_;exact dh Gh.nil [0] aR;obtain rfl:s=[]:=bC.nl (hS.im 0 rfl) rfl;replace hm:(some ([]:List aj))=some r:=hm;refine aQ H2 hS (uR [] [0,4] [.slice (Gh.mk none gc gs).a ([]:List aj).length (Gh.mk none gc gs).c,vT] [] ?_);intro _ _ H9 hS;refine yV H9 rfl (λ_=>?_) (λhc=>by cases hc);refine aQ H9 hS (uR [0,4] [2] [vO] [] (al [] (ax ?_)));cases hm;refine eE 104 ae ?_;exact dh Gh.nil [0] aR
 skip
 refine aQ H2 hS (uR [] [0,4] [.slice (Gh.mk (some ad) gc gs).a s.length (Gh.mk (some ad) gc gs).c,vF] [] ?_);intro _ _ ux hS;refine yV ux rfl (λhc=>by cases hc) (λ_=>?_);refine aQ ux hS (ah (az (uM [] [0] [4] (λ_ _ ux hd=>WS (T:=ae) (E:=104) hd (by kernel_rfl) (by kernel_rfl)) λg15=>?_)));refine uB 2 [0] [5,6] [vK g15 0,.slice (Gh.mk (some ad) gc gs).a s.length (Gh.mk (some ad) gc gs).c] [] ?_;obtain⟨gY,NL,a7h,hm⟩:=bY hm;refine uM [0,1] [1] [5,6] (λ_ _ wo hd=>WV (T:=ae) (zv:=vG [vU 0,vN,vI 0,vN,vF,vO]) (g1:=g15) (g2:=Gh.mk (some ad) gc gs) (l1:=([]:List aj)) (l2:=s) NL a7h.symm wo hd rfl rfl rfl rfl rfl rfl rfl (by kernel_rfl) (by kernel_rfl) rfl rfl gY) λFH=>?_;refine uB 4 [7] [2] [vL FH NL] [] (an (al [0] (ax ?_)));cases hm;exact dh FH [0] aR

def a7i(cX:(List aj)→Option (List aj)):Prop:=∀(aN:Gh)(M:Av)(v_:List aj)(r:List aj),cX v_=some r→∀w,S0 M [eI ae v_ aN] w→Calls prog 117 ⟨[vL aN v_]⟩ w (λe w'=>∃v,e=.returned v∧∃(bp:Gh),v=vL bp r∧SH M (aH [eI ae v_ aN]) w [eO 104 ae r bp] w')
def FI(m:Nat)(y5:List aj)(YF:(List aj)→Option (List aj)):Nat→List aj→Int→Option (List aj)
 |0,_,_=>none
 |kk+1,bQ,bf=>cond (decide (bf<ln y5)) (au (0≤bf∧bf<ln bQ)<|Option.bind (YF (gi bQ bf).J) λlN=>lt (pP bQ bf (aj.mk (gi bQ bf).ay lN)) λnH=>FI m y5 YF kk nH (a8 (bf+1))) (some bQ)
def A4(m:Nat):Nat→List aj→Option (List aj)
 |0,_=>none
 |k+1,v_=>Option.bind (NK v_) λy5=>Option.bind (FI m y5 (A4 m k) m y5 0) λ(z12:List aj)=>some z12
theorem a7j(m:Nat):∀(k:Nat),a7i (A4 m k):=by
 intro k
 induction k with
 |zero=>intro aN M v_ r hm;exact eJ hm
 |succ k ih=>
  intro aN M v_ r hm w hS;rw[A4]at hm;have aK:SH M (aH [eI ae v_ aN]) w [eI ae v_ aN] w:=hS;generalize hX:aH [eI ae v_ aN]=X at aK⊢;clear hS hX;have hS:=aK;clear aK;refine fk func117 rfl ntmps117 rfl λ_ H=>?_;refine aQ H hS (jq [0] [.slice aN.a v_.length aN.c] [] (az ?_));refine uB 1 [0] [4] [.slice aN.a v_.length aN.c] [] ?_;obtain⟨y5,tc,hm⟩:=ai hm;refine uQ [0] [0] [4] (a7g (bi:=aN) _ _ tc) λg6=>?_;refine uB 3 [5] [0] [.slice g6.a y5.length g6.c] [] (an (al [0] ?_));obtain⟨z12,hz,hm⟩:=ai hm;refine gb [] [0] (λ(kZ:Gh)=>[.slice kZ.a z12.length kZ.c]) (λkZ=>[eO 104 ae z12 kZ]) ?_ ?_;replace hm:=hz;refine uR [] [7,8] [vI (ln y5),vI 0] [] (aE ?_);refine mF [] [0,8] (λbQ bf g16=>[.slice g16.a bQ.length g16.c,vI bf]) (λbQ _ g16=>[eO 104 ae bQ g16]) g6 hm (λkk bQ bf g16 hm=>?_);rw[FI]at hm;refine uR [] [0,7,8,9] [.slice g16.a bQ.length g16.c,vI (ln y5),vI bf,vB (decide (bf<ln y5))] [] (aq ?_);refine uC hm ?_ ?_;intro hm;refine ah (aq (aE (uR [9] [3] [vI bf] [] (dG ?_))));obtain⟨iY,hm⟩:=bO hm;refine uB 7 [3] [11,12,17] [.slice g16.a bQ.length g16.c,vI bf,.slice (g16.s bf.toNat 0).a (gi bQ bf).J.length (g16.s bf.toNat 0).c] [kI 0 iY,kJ 0 5 iY] ?_;intro _ _ oZ hS;replace hS:=hS.ik (lZ ((hS.ow 0 rfl).el iY));obtain⟨lN,C9,hm⟩:=ai hm;refine aQ oZ hS (uM [0] [0,1] [17] (λ_ _ oZ hd=>iJ oZ rfl rfl (⟨call117 _,ih (g16.s bf.toNat 0) _ _ _ C9 _ hd⟩:kO _ _ _ _ _)) λmQ=>?_);refine uB 10 [11,12] [18,20] [.slice mQ.a lN.length mQ.c,.pointer (some ⟨ab g16.a,ao g16.a+bf.toNat*6+5,none⟩)] [kI 2 iY] ?_;refine BM [0,1,2] ?_;intro _ _ zW hS;have hd:=hS.hand [2,0] [0,1] rfl rfl;refine sH [0,7,8] (fS [0,7,8] [.slice g16.a bQ.length g16.c,vI (ln y5),vI bf]) zW rfl rfl rfl (QC (T:=ae) (g:=g16) (q:=bQ) (ix:=bf) (off:=5) (aj.mk (gi bQ bf).ay lN) (gL [mQ]) zW hd rfl rfl rfl rfl (by kernel_rfl) rfl rfl iY rfl (IG (hd.im 1 rfl)) rfl) rfl λ_ _ qi hq=>?_;obtain⟨_,hq⟩:=hq;obtain⟨Sq,hq⟩:=hq;obtain⟨nH,A5,hm⟩:=bd hm;rw[←A5]at hq;have hn:bQ.length=nH.length:=by rw[A5,EI]
  first|rw[hn]at qi|skip
  first|rw[hn]at hS|skip
  clear hn;replace hS:=hS.join [2,0] [0,1] rfl rfl hq;refine aQ qi hS (an (al [0] ?_));refine BL [0,7,8] [.slice (Gh.mk g16.a g16.c Sq).a nH.length (Gh.mk g16.a g16.c Sq).c,vI (ln y5),vI (a8 (bf+1))] [] ?_;exact EX (Gh.mk g16.a g16.c Sq) hm;intro hm;refine bt ?_;cases hm;exact tg g16;intro kZ;refine uR [0] [2] [.slice kZ.a z12.length kZ.c] [] (ax ?_);cases hm;exact dh kZ [0] aR
def NM(m:Nat)(v_:List aj):Option (List aj):=A4 m m v_
theorem a7k{aN:Gh}(m)(v_)(r)(hm:NM m v_=some r)(M:Av)(w:World)(hS:S0 M [eI ae v_ aN] w):kO prog 117 ⟨[vL aN v_]⟩ w (λv w'=>∃(bp:Gh),v=vL bp r∧SH M (aH [eI ae v_ aN]) w [eO 104 ae r bp] w'):=⟨call117 _,a7j m m aN M v_ r hm w hS⟩

def FJ(m:Nat)(v_:List aj):Nat→Int→Option Int
 |0,_=>none
 |kk+1,bH=>Option.bind (cond (decide (bH<ln v_)) (FG bH v_) (some default)) λhZ=>cond (cond (decide (bH<ln v_)) hZ false) (FJ m v_ kk (a8 (bH+1))) (some bH)
def CH(m:Nat)(v_:List aj)(cY:Int):Nat→Int→Option Int
 |0,_=>none
 |kk+1,v28=>Option.bind (cond (decide (cY<v28)) (FG (a8 (v28-1)) v_) (some default)) λeg=>cond (cond (decide (cY<v28)) eg false) (CH m v_ cY kk (a8 (v28-1))) (some v28)
def JP(m:Nat)(v_:List aj):Option ((List aj)×Int):=Option.bind (zK m v_) λy6=>cond (y6 !=0) (some (([]:List aj),y6)) (Option.bind (FJ m v_ m 0) λ(cY:Int)=>Option.bind (CH m v_ cY m (ln v_)) λ(jM:Int)=>au (0≤cY∧cY≤jM∧jM≤ln v_)<|lt (eY v_ cY jM) λSr=>Option.bind (NM m Sr) λj9=>some (j9,0))
theorem a7l{aN:Gh}(m)(v_)(r)(hm:JP m v_=some r):Dm 63 [vL aN v_] [eI ae v_ aN] (λ(bp:Gh)=>vW [vL bp r.1,vI r.2]) (λbp=>[eO 104 ae r.1 bp]):=by
 rw[JP]at hm;refine jG (call63 _) func63 ntmps63 λM X w=>(az ?_);refine uM [] [0] [0] (oB [vL aN v_] rfl) λb1=>?_;refine uP 3 [] (an (aq ?_));obtain⟨y6,eW,hm⟩:=ai hm;refine uA 4 (vI y6) [kb 0 0,kr λ_ hS=>Nl (aN:=aN) m _ _ eW _ (aw aS (hS.im 1 rfl))] ?_;refine uI [] hm ?_ ?_;intro hm;refine uR [1,4] [2,3] [vO,vI y6] [] (al [] (ax ?_));cases hm;refine eE 104 ae ?_;exact dh Gh.nil [0] dy;intro hm;refine ah (uR [4] [5] [.func (.func 116) ⟨[]⟩ ⟨[vP b1]⟩] [] ?_);refine pp [1,5,6,7] [vP b1,.func (.func 116) ⟨[]⟩ ⟨[vP b1]⟩,vI 0,vI (ln v_)] [kb 0 0] ?_;obtain⟨cY,hz,hm⟩:=ai hm;refine uK [] [6] [vI cY] [eB b1 [vL aN v_],eI ae v_ aN] ?_ ?_;replace hm:=hz;refine aE (dH [] [6] (λbH=>[vI bH]) (λ_=>[eB b1 [vL aN v_],eI ae v_ aN]) hm (λkk bH hm=>?_));rw[FJ]at hm;refine aq ?_;obtain⟨hZ,qf,hm⟩:=ai hm;refine uI [eo (gT (decide (bH<ln v_))) λ_ hS hg=>YE (gf:=b1) (px:=aN) _ _ _ (bT (hg.1) qf) _ (np (aw aS (hS.im 1 rfl)) (hS.bk 0 rfl))] hm ?_ ?_;intro hm;exact ah (aE (dI [] hm));intro hm;refine bt ?_;cases hm;exact te;obtain⟨jM,hz,hm⟩:=ai hm;refine uK [5] [7] [vI jM] [eB b1 [vL aN v_],eI ae v_ aN] ?_ ?_;replace hm:=hz;refine aE (dH [] [7] (λv28=>[vI v28]) (λ_=>[eB b1 [vL aN v_],eI ae v_ aN]) hm (λkk v28 hm=>?_));rw[CH]at hm;refine aq ?_;obtain⟨eg,re,hm⟩:=ai hm;refine uI [eo (gT (decide (cY<v28))) λ_ hS hg=>YE (gf:=b1) (px:=aN) _ _ _ (bT (hg.1) re) _ (np (aw aS (hS.im 1 rfl)) (hS.bk 0 rfl))] hm ?_ ?_;intro hm;exact ah (aE (dI [] hm));intro hm;refine bt ?_;cases hm;exact te;refine az (uB 4 [1,6,7] [37,38,39,40] [vL aN v_,vI cY,vI jM,vI jM] [kb 0 0] ?_);obtain⟨y2,Sr,a7m,hm⟩:=bY hm;refine eP [1] [0,1] [] [] (λ_ _ ui hd=>a3y (T:=ae) (E:=104) (g:=aN) (q:=v_) cY jM ui hd (hd.im 0 rfl) rfl rfl rfl rfl rfl rfl rfl (by kernel_rfl) (by kernel_rfl) y2) λsU=>?_;rw[←a7m];obtain⟨j9,vM,hm⟩:=ai hm;refine uQ [0] [0,1,2,3] [41] (a7k (aN:=Gh.mk sU.a Sr.length sU.s) m _ _ vM) λkC=>?_;refine uB 8 [42] [2,3] [vL kC j9,vI 0] [] (an (al [0] (ax ?_)));cases hm;exact dh kC [0] dy

def a7n(cX:aP→Option (List cy)):Prop:=∀(af:Gh)(aa:Gh)(M:Av)(c_:aP)(r:List cy),cX c_=some r→∀w,S0 M [eI ae c_.aA.Value af,eI aZ c_.J aa] w→Calls prog 38 ⟨[.agg ⟨e4 c_ (gL [af,aa])⟩]⟩ w (λe w'=>∃v,e=.returned v∧∃(bp:Gh),v=vL bp r∧SH M (aH [eI ae c_.aA.Value af,eI aZ c_.J aa]) w [eO 26 dk r bp] w')
def CI(m:Nat)(c_:aP)(YG:aP→Option (List cy)):Nat→List cy→Int→Option (List cy)
 |0,_,_=>none
 |kk+1,v40,j0=>cond (decide (j0<ln c_.J)) (au (0≤j0∧j0<ln c_.J)<|Option.bind (YG (gi c_.J j0)) λuy=>au (ln v40+ln uy≤137438953472)<|lt (v40++uy) λCJ=>CI m c_ YG kk CJ (a8 (j0+1))) (some v40)
def A6(m:Nat):Nat→aP→Option (List cy)
 |0,_=>none
 |k+1,c_=>cond (c_.a7==7) (Option.bind (JP m c_.aA.Value) λeF=>some ([cy.mk c_.aA.aO eF.1 c_.aA.js]:List cy)) (Option.bind (CI m c_ (A6 m k) m ([]:List cy) 0) λ(eH:List cy)=>some eH)
theorem a7o(m:Nat):∀(k:Nat),a7n (A6 m k):=by
 intro k
 induction k with
 |zero=>intro af aa M c_ r hm;exact eJ hm
 |succ k ih=>
  intro af aa M c_ r hm w hS;rw[A6]at hm;have aK:SH M (aH [eI ae c_.aA.Value af,eI aZ c_.J aa]) w [eI ae c_.aA.Value af,eI aZ c_.J aa] w:=hS;generalize hX:aH [eI ae c_.aA.Value af,eI aZ c_.J aa]=X at aK⊢;clear hS hX;have hS:=aK;clear aK;refine fk func38 rfl ntmps38 rfl λ_ H=>?_;refine aQ H hS (az (eP [] [0,1] [] [] (oB (e4 c_ (gL [af,aa])) rfl) λb1=>?_));refine uP 2 [] (an (aq ?_));refine uI [kb 0 0] hm ?_ ?_;intro hm;refine az (uB 2 [1] [11] [.agg ⟨e8 c_.aA (gL [af])⟩] [⟨some (.agg ⟨e8 c_.aA (gL [af])⟩),λwz=>V.bn b1 3 (e8 c_.aA (gL [af])) 0 wz,λ_ hS=>(hS.bk 0 rfl).cM rfl⟩] ?_);refine uM [] [0,1,2] [] (oA [vN,vO,vF]) λYH=>?_;refine uL [0] [1,2,3] [11] (oS (e8 c_.aA (gL [af])) rfl rfl) (an (al [0,2] (az ?_)));refine uB 2 [] [14] [vL af c_.aA.Value] [kb 0 1] ?_;obtain⟨eF,oJ,hm⟩:=ai hm;refine uQ [1] [0,1] [14] (a7l (aN:=af) m _ _ oJ) λg18=>?_;refine uB 7 [15] [16,18] [vL g18 eF.1,vA YH 1] [] ?_;refine nu [1] [0,2] [3] [vP YH] (oS [vS c_.aA.aO,vL g18 eF.1,vB c_.aA.js] rfl rfl) (an (al [0,1] (az ?_)));refine uB 1 [3] [19] [vG [vS c_.aA.aO,vL g18 eF.1,vB c_.aA.js]] [kE 0 3] ?_;refine BM [1,0] ?_;refine uM [0] [0,1] [19] (oL dk 26 (vG [vN,vO,vF]) [cy.mk c_.aA.aO eF.1 c_.aA.js] [gL [g18]] (λhd=>aJ.cons (N3 (hd.im 0 rfl)) aJ.nil) rfl) λsf=>?_;refine uB 3 [20] [2] [vK sf 1] [] (an (al [0] (ax ?_)));cases hm;exact dh sf [0] aR;intro hm;refine ah (uA 4 vO [] ?_);obtain⟨eH,hz,hm⟩:=ai hm;refine gb [1] [4] (λ(rh:Gh)=>[vL rh eH]) (λrh=>[eO 26 dk eH rh,eB b1 (e4 c_ (gL [af,aa])),eI ae c_.aA.Value af,eI aZ c_.J aa]) ?_ ?_;replace hm:=hz;refine uR [1] [22,23,24] [vL aa c_.J,vI (ln c_.J),vI 0] [kb 0 6] (aE ?_);refine eE 26 dk ?_;refine mF [] [4,24] (λv40 j0 kZ=>[vL kZ v40,vI j0]) (λv40 _ kZ=>[eO 26 dk v40 kZ,eB b1 (e4 c_ (gL [af,aa])),eI ae c_.aA.Value af,eI aZ c_.J aa]) Gh.nil hm (λkk v40 j0 kZ hm=>?_);rw[CI]at hm;refine uA 25 (vB (decide (j0<ln c_.J))) [] (aq ?_);refine uC hm ?_ ?_;intro hm;refine ah (aq (aE (az ?_)));obtain⟨qj,hm⟩:=bO hm;refine uB 2 [25] [27] [.agg ⟨e4 (gi c_.J j0) (aa.s j0.toNat)⟩] [ki 3 qj,⟨some (.agg ⟨e4 (gi c_.J j0) (aa.s j0.toNat)⟩),λwz=>V.bn (ab aa.a) (ao aa.a+j0.toNat*7) (e4 (gi c_.J j0) (aa.s j0.toNat)) 0 wz,λ_ hS=>(hS.im 3 rfl).cS qj 0 rfl⟩] ?_;refine eP [] [0,1,2,3] [4,22,23,24,27] [vL kZ v40,vL aa c_.J,vI (ln c_.J),vI j0,.agg ⟨e4 (gi c_.J j0) (aa.s j0.toNat)⟩] (oA [vU 0,vN,vI 0,vN,vO,vF,vO]) λb48=>?_;refine uL [0] [1,2,3,4] [27] (oS (e4 (gi c_.J j0) (aa.s j0.toNat)) rfl rfl) (an (dG ?_));refine uB 2 [4,6] [28,29] [vL kZ v40,.agg ⟨e4 (gi c_.J j0) (aa.s j0.toNat)⟩] [kE 0 7] ?_;intro _ _ CK hS;replace hS:=hS.ik (jJ ((hS.im 4 rfl).el qj));replace hS:=hS.ik (j5 ((hS.im 5 rfl).el qj));obtain⟨uy,Ss,hm⟩:=ai hm;refine aQ CK hS (uM [1,0] [0,1,2,3,4,5,6] [29] (λ_ _ CK hd=>iJ CK rfl rfl (⟨call38 _,ih (aa.s j0.toNat 0) (aa.s j0.toNat 1) _ _ _ Ss _ hd⟩:kO _ _ _ _ _)) λFK=>?_);obtain⟨St,CJ,Su,hm⟩:=bY hm;refine uM [4,0] [1,2,3,5,6,7] [28,30] (oP dk (vG [vN,vO,vF]) kZ FK Su St rfl rfl) λnI=>?_;refine uB 5 [31] [4] [vL nI CJ] [] (an (al [0,5,6,7] ?_));exact rL [] nI hm;intro hm;refine bt ?_;cases hm;exact tg kZ;intro rh;refine al [0] ?_;refine uR [4] [2] [vL rh eH] [] (ax ?_);cases hm;exact dh rh [0] aR
def JQ(m:Nat)(c_:aP):Option (List cy):=A6 m m c_
theorem YI{af aa:Gh}(m)(c_)(r)(hm:JQ m c_=some r)(M:Av)(w:World)(hS:S0 M [eI ae c_.aA.Value af,eI aZ c_.J aa] w):kO prog 38 ⟨[.agg ⟨e4 c_ (gL [af,aa])⟩]⟩ w (λv w'=>∃(bp:Gh),v=vL bp r∧SH M (aH [eI ae c_.aA.Value af,eI aZ c_.J aa]) w [eO 26 dk r bp] w'):=⟨call38 _,a7o m m af aa M c_ r hm w hS⟩

def JR(m:Nat)(c_:aP):Option ((List cy)×Int):=Option.bind (A1 m c_) λy6=>cond (y6 !=0) (some (([]:List cy),y6)) (Option.bind (JQ m c_) λbm=>some (bm,0))
theorem a7p{af aa:Gh}(m)(c_)(r)(hm:JR m c_=some r):Dm 24 [.agg ⟨e4 c_ (gL [af,aa])⟩] [eI ae c_.aA.Value af,eI aZ c_.J aa] (λ(bp:Gh)=>vW [vL bp r.1,vI r.2]) (λbp=>[eO 26 dk r.1 bp]):=by
 rw[JR]at hm;refine jG (call24 _) func24 ntmps24 λM X w=>(az ?_);refine uM [] [0,1] [0] (oB (e4 c_ (gL [af,aa])) rfl) λb1=>?_;refine uP 3 [] (an (aq ?_));obtain⟨y6,eW,hm⟩:=ai hm;refine uA 4 (vI y6) [kE 0 7,kr λ_ hS=>Se (af:=af) (aa:=aa) m _ _ eW _ (aw (aw aS (hS.im 2 rfl)) (hS.im 1 rfl))] ?_;refine uI [] hm ?_ ?_;intro hm;refine uR [1,4] [2,3] [vO,vI y6] [] (al [] (ax ?_));cases hm;refine eE 26 dk ?_;exact dh Gh.nil [0] dy;intro hm;refine ah (az (uB 1 [1,4] [10] [.agg ⟨e4 c_ (gL [af,aa])⟩] [kE 0 7] ?_));obtain⟨bm,jQ,hm⟩:=ai hm;refine uQ [1,2] [0,1,2] [10] (YI (af:=af) (aa:=aa) m _ _ jQ) λg17=>?_;refine uB 4 [11] [2,3] [vL g17 bm,vI 0] [] (an (al [0] (ax ?_)));cases hm;exact dh g17 [0] dy

structure ey where
  aO:ag
  Value:List aj
  a7q:ag
instance:Inhabited ey:=⟨⟨default,default,default⟩⟩
def ia:Ty ey where
  z:=3
  aT:=λx g=>[vS x.aO,.slice (g 0).a x.Value.length (g 0).c,vS x.a7q]
  cx:=λM w x g=>bC ae M w x.Value (g 0)∧True
  len:=λ_ _=>rfl
  one:=λ_ _=>rfl
  kp:=λh k hX=>⟨h.1.kp k hX,trivial⟩
  cT:=λh hM=>⟨h.1.cT hM,trivial⟩
  fresh:=λh=>⟨h.1.fresh,trivial⟩
theorem agA{M:Av}{w:World}{x:ey}{g:Nat→Gh}(h:ia.cx M w x g):bC ae M w x.Value (g 0):=(show bC ae M w x.Value (g 0)∧True from h).1
theorem Sv{M:Av}{w:World}{x:ey}{g:Nat→Gh}(h0:bC ae M w x.Value (g 0)):ia.cx M w x g:=show bC ae M w x.Value (g 0)∧True from⟨h0,trivial⟩
def ya:List ag:=XZ
theorem a7r(r:List ag)(hm:ya=r):Dm 120 [] [] (λ(bp:Gh)=>vL bp r) (λbp=>[eO 9 tS r bp]):=by
 rw[ya]at hm;refine jG (call120 _) func120 ntmps120 λM X w=>?_;refine uO [] (az ?_);refine uM [] [] [] (oL tS 9 vN XZ [gL [],gL [],gL [],gL []] (λ_=>aJ.cons trivial (aJ.cons trivial (aJ.cons trivial (aJ.cons trivial aJ.nil)))) rfl) λg3=>?_;refine uB 2 [1] [0] [vK g3 4] [] (an (ax ?_));subst hm;exact dh g3 [0] aR

def JS(m:Nat)(bI:ag):Nat→List ag→Int→Option (List ag)
 |0,_,_=>none
 |kk+1,py,eQ=>cond (decide (eQ<4)) (au (0≤eQ∧eQ<ln zm)<|lt (gi zm eQ) λjh=>au (ln bI+ln [45]≤9223372036854775807)<|au (ln (bI++[45])+ln jh≤9223372036854775807)<|au (ln py+ln ([(bI++[45])++jh]:List ag)≤137438953472)<|lt (py++([(bI++[45])++jh]:List ag)) λSw=>JS m bI kk Sw (a8 (eQ+1))) (some py)
def A7(m:Nat)(bI:ag):Option (List ag):=lt ya λy3=>Option.bind (sY 64 y3 bI) λy8=>cond (!y8) (some ([]:List ag)) (lt (!(bI==[109,97,114,103,105,110])) λeZ=>cond eZ (au (ln bI+ln [45,99,111,108,111,114]≤9223372036854775807)<|some ([bI++[45,99,111,108,111,114]]:List ag)) (Option.bind (JS m bI m ([]:List ag) 0) λ(z28:List ag)=>some z28))
theorem Sx(m)(bI)(r)(hm:A7 m bI=some r):Dm 66 [vS bI] [] (λ(bp:Gh)=>vL bp r) (λbp=>[eO 9 tS r bp]):=by
 rw[A7]at hm;refine jG (call66 _) func66 ntmps66 λM X w=>?_;refine uO [] (aq (aE (az ?_)));obtain⟨y3,cC,hm⟩:=bd hm;refine uQ [] [] [] (a7r _ cC.symm) λg4=>?_;obtain⟨y8,kw,hm⟩:=ai hm;refine uB 5 [7] [6] [vB (!y8)] [kr λ_ hS=>Nz (bi:=g4) 64 _ _ _ kw _ (aw aS (hS.dX 0 rfl))] (an (al [] ?_));refine uC hm ?_ ?_;intro hm;refine uR [0,6] [2] [vO] [] (ax ?_);cases hm;refine eE 9 tS ?_;exact dh Gh.nil [0] aR;intro hm;obtain⟨eZ,ma,hm⟩:=bd hm;refine uJ [6] [] hm ?_ ?_ (he:=by subst ma;kernel_rfl);intro hm;refine az ?_;obtain⟨dK,hm⟩:=bO hm;refine uB 2 [0] [15] [vS (bI++[45,99,111,108,111,114])] [kh dK] ?_;refine uM [] [] [15] (oL tS 9 vN [bI++[45,99,111,108,111,114]] [gL []] (λ_=>aJ.cons trivial aJ.nil) rfl) λg20=>?_;refine uB 4 [16] [2] [vK g20 1] [] (an (ax ?_));cases hm;exact dh g20 [0] aR;intro hm;refine ah (uA 3 vO [] ?_);obtain⟨z28,hz,hm⟩:=ai hm;refine gb [0] [3] (λ(mo:Gh)=>[vL mo z28]) (λmo=>[eO 9 tS z28 mo]) ?_ ?_;replace hm:=hz;refine az (uM [] [] [] (oL tS 9 vN zm [gL [],gL [],gL [],gL []] (λ_=>aJ.cons trivial (aJ.cons trivial (aJ.cons trivial (aJ.cons trivial aJ.nil)))) rfl) λfA=>?_);refine uB 3 [] [0,3,17,18,19] [vS bI,vO,vK fA 4,vI 4,vI 0] [] (an (aE ?_));refine eE 9 tS ?_;refine mF [] [3,19] (λpy eQ wq=>[vL wq py,vI eQ]) (λpy _ wq=>[eO 9 tS py wq,eO 9 tS zm fA]) Gh.nil hm (λkk py eQ wq hm=>?_);rw[JS]at hm;refine uA 20 (vB (decide (eQ<4))) [] (aq ?_);refine uC hm ?_ ?_;intro hm;refine ah (aq (aE ?_));obtain⟨FL,jh,xL,hm⟩:=bY hm;refine uR [20] [5] [vS jh] [kI 1 FL,kJ 1 0 FL] ?_ (he:=by subst xL;kernel_rfl);refine dG ?_;obtain⟨qj,CL,hm⟩:=km hm;refine uB 5 [3,5] [23,27] [vL wq py,vS ((bI++[45])++jh)] [kh qj,kh CL] ?_;refine uM [] [0,1] [27] (oL tS 9 vN [(bI++[45])++jh] [gL []] (λ_=>aJ.cons trivial aJ.nil) rfl) λJT=>?_;obtain⟨NN,Sw,a7s,hm⟩:=bY hm;refine uM [1,0] [2] [23,28] (oP tS vN wq JT a7s NN rfl rfl) λNO=>?_;refine uB 8 [29] [0,3,17,18,19] [vS bI,vL NO Sw,vK fA 4,vI 4,vI eQ] [] (an (al [0,2] ?_));exact rL [] NO hm;intro hm;refine bt ?_;cases hm;refine al [0] ?_;exact tg wq;intro mo;refine uR [3] [2] [vL mo z28] [] (ax ?_);cases hm;exact dh mo [0] aR

def FM(bI:ag):Option Bool:=Option.bind (strings_HasPrefix bI [45,45]) λy3=>lt (cond (cond y3 (decide (2<ln bI)) false) (decide (ln bI≤64)) false) λx4=>some x4
theorem YJ(bI)(r)(hm:FM bI=some r):Rt 68 [vS bI] (vB r):=by
 rw[FM]at hm;refine cA (call68 _) func68 ntmps68 λM X w=>?_;refine uO [] ?_;obtain⟨y3,cC,x4,mg,hm⟩:=gK hm;refine uR [0] [2] [vB x4] [kc (Np _ _ _ cC)] ?_ (he:=by subst mg;kernel_rfl);refine ax ?_;cases hm;exact aI [] aR

structure be where
  iM:Int
  iN:Int
  iO:Int
  iP:Int
instance:Inhabited be:=⟨⟨default,default,default,default⟩⟩
def JU:Ty be where
  z:=4
  aT:=λx g=>[vU x.iM,vU x.iN,vU x.iO,vU x.iP]
  cx:=λ_ _ _ _=>True
  len:=λ_ _=>rfl
  one:=λ_ _=>rfl
  kp:=λ_ _ _=>trivial
  cT:=λ_ _=>trivial
  fresh:=λ_=>trivial
def dQ(x:be):List Value:=JU.aT x (gL [])
structure aW where
  a7:Int
  oh:ag
  bj:Int
  gB:be
instance:Inhabited aW:=⟨⟨default,default,default,default⟩⟩
def ft:Ty aW where
  z:=7
  aT:=λx g=>[vU x.a7,vS x.oh,vI x.bj,vU x.gB.iM,vU x.gB.iN,vU x.gB.iO,vU x.gB.iP]
  cx:=λ_ _ _ _=>True
  len:=λ_ _=>rfl
  one:=λ_ _=>rfl
  kp:=λ_ _ _=>trivial
  cT:=λ_ _=>trivial
  fresh:=λ_=>trivial
def bP(x:aW):List Value:=ft.aT x (gL [])
def FN(s:ag):aW:=(aW.mk 1 s 0 (be.mk 0 0 0 0))
theorem Sy(s:ag):Rt 193 [vS s] (.agg ⟨bP (FN s)⟩):=by
 generalize hm:FN s=r;rw[FN]at hm;refine cA (call193 _) func193 ntmps193 λM X w=>(az ?_);refine uM [] [] [] (oA (tC 0 [] 0)) λb1=>an (az ?_);refine uB 2 [0] [2,4] [vP b1,vG (tC 1 s 0)] [] ?_;refine uL [0] [] [4] (oS (tC 1 s 0) rfl rfl) (an (ax ?_));subst hm;exact aI [] (BP 0 underlying165)

structure da where
  aO:ag
  FO:Bool
  CM:aW
  dA:List ag
  dt:List Int
  CN:Bool
instance:Inhabited da:=⟨⟨default,default,default,default,default,default⟩⟩
def iD:Ty da where
  z:=12
  aT:=λx g=>[vS x.aO,vB x.FO,vU x.CM.a7,vS x.CM.oh,vI x.CM.bj,vU x.CM.gB.iM,vU x.CM.gB.iN,vU x.CM.gB.iO,vU x.CM.gB.iP,.slice (g 0).a x.dA.length (g 0).c,.slice (g 1).a x.dt.length (g 1).c,vB x.CN]
  cx:=λM w x g=>bC tS M w x.dA (g 0)∧bC (tI .u8) M w x.dt (g 1)∧True
  len:=λ_ _=>rfl
  one:=λ_ _=>rfl
  kp:=λh k hX=>⟨h.1.kp k hX,h.2.1.kp k hX,trivial⟩
  cT:=λh hM=>⟨h.1.cT hM,h.2.1.cT hM,trivial⟩
  fresh:=λh=>⟨h.1.fresh,h.2.1.fresh,trivial⟩
def iu(x:da)(g:Nat→Gh):List Value:=iD.aT x g
theorem NP{M:Av}{w:World}{x:da}{g:Nat→Gh}(h:iD.cx M w x g):bC tS M w x.dA (g 0):=(show bC tS M w x.dA (g 0)∧bC (tI .u8) M w x.dt (g 1)∧True from h).1
theorem NQ{M:Av}{w:World}{x:da}{g:Nat→Gh}(h:iD.cx M w x g):bC (tI .u8) M w x.dt (g 1):=(show bC tS M w x.dA (g 0)∧bC (tI .u8) M w x.dt (g 1)∧True from h).2.1
theorem iE{M:Av}{w:World}{x:da}{g:Nat→Gh}(h0:bC tS M w x.dA (g 0))(h1:bC (tI .u8) M w x.dt (g 1)):iD.cx M w x g:=show bC tS M w x.dA (g 0)∧bC (tI .u8) M w x.dt (g 1)∧True from⟨h0,h1,trivial⟩
def CO(bI:ag)(fW:Bool)(first:aW):da:=(da.mk bI fW first ([]:List ag) ([7,8]:List Int) false)
theorem a7t(M:Av)(bI)(fW)(first)(r)(hm:CO bI fW first=r)(w:World)(hS:S0 M [] w):Calls prog 194 ⟨[vS bI,vB fW,.agg ⟨bP first⟩]⟩ w (λe w'=>∃v,e=.returned v∧∃(bp:Gh)(p4:Gh),v=.agg ⟨iu r (gL [bp,p4])⟩∧SH M (aH []) w [eO 9 tS r.dA bp,eO 5 (tI .u8) r.dt p4] w'):=by
 rw[CO]at hm;have aK:SH M (aH []) w [] w:=hS;generalize hX:aH []=X at aK⊢;clear hS hX;have hS:=aK;clear aK;refine fk func194 rfl ntmps194 rfl λ_ H=>?_;refine aQ H hS (az (eP [] [] [0,1] [vS bI,vB fW] (oB (bP first) rfl) λb1=>?_));refine uM [] [0] [] (oA [vN,vF,vU 0,vN,vI 0,vU 0,vU 0,vU 0,vU 0,vO,vO,vF]) λb4=>an (az ?_);refine uB 3 [0,1,5] [6,7,8,9] [vP b4,vS bI,vB fW,.agg ⟨bP first⟩] [kE 1 7] ?_;refine uM [] [0,1] [] (oL (tI .u8) 5 (vU 0) [7,8] [gL [],gL []] (λ_=>aJ.cons trivial (aJ.cons trivial aJ.nil)) rfl) λg9=>?_;refine uB 5 [7,8,9,10] [11] [vG (vS bI::vB fW::bP first++[vO,vK g9 2,vF])] [] ?_;refine uL [1] [0,2] [11] (oS (vS bI::vB fW::bP first++[vO,vK g9 2,vF]) rfl rfl) (an (al [0,1] (ax ?_)));subst hm;refine eE 9 tS ?_;exact λ_ _ og hS=>Ih og rfl (Ii rfl (hS.bk 1 rfl) underlying194 rfl (by kernel_rfl)) ⟨_,rfl,Gh.nil,g9,rfl,hS.aY [0,2] rfl⟩
theorem NR(bI)(fW)(first)(r)(hm:CO bI fW first=r)(M:Av)(w:World)(hS:S0 M [] w):kO prog 194 ⟨[vS bI,vB fW,.agg ⟨bP first⟩]⟩ w (λv w'=>∃(bp:Gh)(p4:Gh),v=.agg ⟨iu r (gL [bp,p4])⟩∧SH M (aH []) w [eO 9 tS r.dA bp,eO 5 (tI .u8) r.dt p4] w'):=⟨call194 _,a7t M bI fW first r hm w hS⟩

abbrev dL:aU:=eI (tI .u8) BT (Gh.mk (some ⟨1,0,none⟩) 256 λ_ _=>.nil)
structure YK where
  start:Int
  a7u:Int
instance:Inhabited YK:=⟨⟨default,default⟩⟩
def agB:Ty YK where
  z:=2
  aT:=λx g=>[vI x.start,vI x.a7u]
  cx:=λ_ _ _ _=>True
  len:=λ_ _=>rfl
  one:=λ_ _=>rfl
  kp:=λ_ _ _=>trivial
  cT:=λ_ _=>trivial
  fresh:=λ_=>trivial
def Sz(m:Nat)(s:ag):Nat→Int→Int→Int→Int→Option (Int×Int)
 |0,_,_,_,_=>none
 |kk+1,v12,ep,aC,bQ=>cond (decide (bQ<ln s)) (au (0≤bQ∧bQ<ln s)<|au (0≤bg s bQ∧bg s bQ<(256:Int))<|lt (a8 (gi BT (bg s bQ))) λkX=>lt (kf .and .i64 ep (kf .xor .i64 (-1) kX)) λgU=>Sz m s kk (a8 (v12+gU)) kX (kf .or .u8 aC (bg s bQ)) (a8 (bQ+1))) (some (v12,aC))
def SA(m:Nat)(s:ag):Nat→Int→Option Int
 |0,_=>none
 |kk+1,iZ=>au (decide (iZ<ln s)=true→0≤iZ∧iZ<ln s)<|au (decide (iZ<ln s)=true→0≤bg s iZ∧bg s iZ<(256:Int))<|lt (cond (decide (iZ<ln s)) (gi BT (bg s iZ) !=0) false) λsc=>cond sc (SA m s kk (a8 (iZ+1))) (some iZ)
def SB(m:Nat)(s:ag):Nat→Int→Option Int
 |0,_=>none
 |kk+1,j1=>au (decide (j1<ln s)=true→0≤j1∧j1<ln s)<|au (decide (j1<ln s)=true→0≤bg s j1∧bg s j1<(256:Int))<|lt (cond (decide (j1<ln s)) (gi BT (bg s j1) !=0) false) λjx=>cond jx (SB m s kk (a8 (j1+1))) (some j1)
def NS(m:Nat)(s:ag):Nat→List ag→Int→Int→Int→Option (Int×Int×(List ag))
 |0,_,_,_,_=>none
 |kk+1,td,v70,pz,v72=>cond (decide (v72<ln s)) (au (0≤v72∧v72<ln s)<|au (0≤bg s v72∧bg s v72<(256:Int))<|lt (gi BT (bg s v72)==0) λYL=>cond YL (NS m s kk td v70 pz (a8 (v72+1))) (au (0≤pz∧pz≤v72∧v72≤ln s)<|au (0≤v70∧v70<ln td)<|lt (pP td v70 (sub s pz v72)) λFP=>Option.bind (SB m s m (a8 (v72+1))) λ(NT:Int)=>NS m s kk FP (a8 (v70+1)) NT NT)) (some (v70,pz,td))
def strings_Fields(m:Nat)(s:ag):Option (List ag):=Option.bind (Sz m s m 0 1 0 0) λ(z9:Int×Int)=>cond (decide (128≤z9.2)) (none) (au (0≤z9.1∧z9.1≤z9.1∧z9.1≤137438953472)<|lt (List.replicate (z9.1).toNat ([]:ag)) λJV=>Option.bind (SA m s m 0) λ(yb:Int)=>Option.bind (NS m s m JV 0 yb yb) λ(fD:Int×Int×(List ag))=>Option.bind (cond (decide (fD.2.1<ln s)) (au (0≤fD.2.1∧fD.2.1≤ln s)<|au (0≤fD.1∧fD.1<ln fD.2.2)<|lt (pP fD.2.2 fD.1 (sub s fD.2.1 (ln s))) λSC=>some SC) (some fD.2.2)) λ(JW:List ag)=>some JW)
theorem YM(m)(s)(r)(hm:strings_Fields m s=some r):Dm 221 [vS s] [dL] (λ(bp:Gh)=>.slice bp.a r.length bp.c) (λbp=>[eO 9 tS r bp]):=by
 rw[strings_Fields]at hm;refine jG (call221 _) func221 ntmps221 λM X w=>?_;refine uO [] ?_;refine uA 3 (vI 0) [] ?_;refine uA 4 (vI 1) [] ?_;refine uA 5 (vU 0) [] ?_;obtain⟨z9,hz,hm⟩:=ai hm;refine uK [4] [3,5] [vI z9.1,vU z9.2] [dL] ?_ ?_;replace hm:=hz;refine uA 6 (vI 0) [] (aE ?_);refine N0 [] [3,4,5,6] (λv12 ep aC bQ=>[vI v12,vI ep,vU aC,vI bQ]) (λ_ _ _ _=>[dL]) hm (λkk v12 ep aC bQ hm=>?_);rw[Sz]at hm;refine aq (uI [] hm ?_ ?_);intro hm;refine ah (aq (aE ?_));obtain⟨oY,hm⟩:=bO hm;refine uR [] [0,3,4,5,6,7] [vS s,vI v12,vI ep,vU aC,vI bQ,vU (bg s bQ)] [kh oY] ?_;refine uA 5 (vU (kf .or .u8 aC (bg s bQ))) [] ?_;obtain⟨gn,kX,xQ,hm⟩:=bY hm;refine uR [7] [8] [vI kX] [kh gn,kj 0 0 gn] ?_ (he:=by subst xQ;kernel_rfl);obtain⟨gU,pU,hm⟩:=bd hm;refine uR [4] [3] [vI (a8 (v12+gU))] [] ?_ (he:=by subst pU;kernel_rfl);refine uW [8] [4] [vI kX] [] ?_;exact Rc [] hm;intro hm;refine bt ?_;cases hm;exact te;refine aq (XL [5] [] hm ?_);intro hm;refine ah (az (uB 1 [3] [40] [vI z9.1] [] ?_));obtain⟨A8,JV,a7v,hm⟩:=bY hm;refine eP [] [0] [0] [vS s] (λ_ _ Jj hd=>X0 (T:=tS) (E:=9) (zv:=vN) ([]:ag) Jj hd rfl rfl (by kernel_rfl) (by kernel_rfl) rfl rfl (λ_ _=>trivial) A8) λgp=>?_;rw[←a7v];refine uB 3 [41] [9] [.slice gp.a JV.length gp.c] [] (an ?_);refine uA 10 (vI 0) [] ?_;refine uO [] ?_;refine uA 12 (vI 0) [] ?_;obtain⟨yb,hz,hm⟩:=ai hm;refine uK [] [12] [vI yb] [eO 9 tS JV gp,dL] ?_ ?_;replace hm:=hz;refine aE (dH [] [12] (λiZ=>[vI iZ]) (λ_=>[eO 9 tS JV gp,dL]) hm (λkk iZ hm=>?_));rw[SA]at hm;refine aq ?_;obtain⟨SD,JX,hm⟩:=km hm;obtain⟨sc,JM,hm⟩:=bd hm;refine uI [j4 (gT (decide (iZ<ln s))) λhg=>SD hg.1,j4 (gT (decide (iZ<ln s))) λhg=>JX hg.1,jF (gT (decide (iZ<ln s))) 1 0 λhg=>JX hg.1] hm ?_ ?_ (he:=by subst JM;kernel_rfl);intro hm;exact ah (aE (dI [] hm));intro hm;refine bt ?_;cases hm;exact te;refine uA 11 (vI yb) [] ?_;obtain⟨fD,hz,hm⟩:=ai hm;refine gb [12] [9,10,11] (λ(sg:Gh)=>[.slice sg.a fD.2.2.length sg.c,vI fD.1,vI fD.2.1]) (λsg=>[eO 9 tS fD.2.2 sg,dL]) ?_ ?_;replace hm:=hz;refine aE (a48 [] [0,9,10,11,12] (λtd v70 pz v72 iv=>[vS s,.slice iv.a td.length iv.c,vI v70,vI pz,vI v72]) (λtd _ _ _ iv=>[eO 9 tS td iv,dL]) gp hm (λkk td v70 pz v72 iv hm=>?_));rw[NS]at hm;refine aq (uI [] hm ?_ ?_);intro hm;refine ah (aE (aq ?_));obtain⟨SE,NU,hm⟩:=km hm;obtain⟨YL,a7w,hm⟩:=bd hm;refine uI [kh SE,kh NU,kj 1 0 NU] hm ?_ ?_ (he:=by subst a7w;kernel_rfl);intro hm;refine uA 12 (vI (a8 (v72+1))) [] ?_;refine bt ?_;exact a4a iv hm;intro hm;refine ah (az ?_);obtain⟨a7x,NV,hm⟩:=km hm;refine uB 7 [11] [74,75] [vS (sub s pz v72),.pointer (some ⟨ab iv.a,ao iv.a+v70.toNat*1,none⟩)] [kh a7x,kI 0 NV] ?_;intro _ _ SG hS;have hd:=hS.hand [0] [1] rfl rfl;refine sH [0,9,10,12] (fS [0,9,10,12] [vS s,.slice iv.a td.length iv.c,vI v70,vI v72]) SG rfl rfl rfl (QC (T:=tS) (g:=iv) (q:=td) (ix:=v70) (off:=0) (sub s pz v72) (gL []) SG hd rfl rfl rfl rfl (by kernel_rfl) rfl rfl NV rfl trivial rfl) rfl λ_ _ YN hq=>?_;obtain⟨_,hq⟩:=hq;obtain⟨JY,hq⟩:=hq;obtain⟨FP,YO,hm⟩:=bd hm;rw[←YO]at hq;have hn:td.length=FP.length:=by rw[YO,EI]
 first|rw[hn]at YN|skip
 first|rw[hn]at hS|skip
 clear hn;replace hS:=hS.join [0] [1] rfl rfl hq;refine aQ YN hS (an (jq [0,9,10,12] [vS s,.slice (Gh.mk iv.a iv.c JY).a FP.length (Gh.mk iv.a iv.c JY).c,vI (a8 (v70+1)),vI v72] [] ?_));refine uA 12 (vI (a8 (v72+1))) [] ?_;obtain⟨NT,hz,hm⟩:=ai hm;refine uK [] [12] [vI NT] [eO 9 tS FP (Gh.mk iv.a iv.c JY),dL] ?_ ?_;replace hm:=hz;refine aE (dH [] [12] (λj1=>[vI j1]) (λ_=>[eO 9 tS FP (Gh.mk iv.a iv.c JY),dL]) hm (λkk j1 hm=>?_));rw[SB]at hm;refine aq ?_;obtain⟨a7y,CP,hm⟩:=km hm;obtain⟨jx,CF,hm⟩:=bd hm;refine uI [j4 (gT (decide (j1<ln s))) λhg=>a7y hg.1,j4 (gT (decide (j1<ln s))) λhg=>CP hg.1,jF (gT (decide (j1<ln s))) 1 0 λhg=>CP hg.1] hm ?_ ?_ (he:=by subst CF;kernel_rfl);intro hm;exact ah (aE (dI [] hm));intro hm;refine bt ?_;cases hm;exact te;exact a4b [] (Gh.mk iv.a iv.c JY) hm;intro hm;refine bt ?_;cases hm;exact tg iv;intro sg;obtain⟨JW,hz,hm⟩:=ai hm;refine gb [0,10,11] [9] (λ(A9:Gh)=>[.slice A9.a JW.length A9.c]) (λA9=>[eO 9 tS JW A9,dL]) ?_ ?_;replace hm:=hz;refine uI [] hm ?_ ?_;intro hm;refine dG ?_;obtain⟨a7z,YP,hm⟩:=km hm;refine uB 6 [0,10,11] [103,104] [vS (sub s fD.2.1 (ln s)),.pointer (some ⟨ab sg.a,ao sg.a+(fD.1).toNat*1,none⟩)] [kh a7z,kI 0 YP] ?_;intro _ _ YQ hS;have hd:=hS.hand [0] [1] rfl rfl;refine sH [9] [(9,[],.slice sg.a fD.2.2.length sg.c)] YQ rfl rfl rfl (QC (T:=tS) (g:=sg) (q:=fD.2.2) (ix:=fD.1) (off:=0) (sub s fD.2.1 (ln s)) (gL []) YQ hd rfl rfl rfl rfl (by kernel_rfl) rfl rfl YP rfl trivial rfl) rfl λ_ _ NW hq=>?_;obtain⟨_,hq⟩:=hq;obtain⟨a7A,hq⟩:=hq;obtain⟨SC,YR,hm⟩:=bd hm;rw[←YR]at hq;have hn:fD.2.2.length=SC.length:=by rw[YR,EI]
 first|rw[hn]at NW|skip
 first|rw[hn]at hS|skip
 clear hn;replace hS:=hS.join [0] [1] rfl rfl hq;refine aQ NW hS (an ?_);cases hm;exact λ_ _ NW hS=>⟨Gh.mk sg.a sg.c a7A,aD.bc (ks:=[9]) NW (by kernel_rfl),hS⟩;intro hm;refine ah ?_;cases hm;exact tg sg;intro A9;refine uR [9] [2] [.slice A9.a JW.length A9.c] [] (ax ?_);cases hm;exact dh A9 [0] aR

def FQ(m:Nat)(bI:ag)(fW:Bool)(first:ag)(lR:ag):Option da:=lt (FN first) λy4=>Option.bind (strings_Fields m lR) λy7=>some (da.mk bI fW y4 y7 ([]:List Int) false)
theorem a7B(M:Av)(m)(bI)(fW)(first)(lR)(r)(hm:FQ m bI fW first lR=some r)(w:World)(hS:S0 M [dL] w):Calls prog 195 ⟨[vS bI,vB fW,vS first,vS lR]⟩ w (λe w'=>∃v,e=.returned v∧∃(bp:Gh)(p4:Gh),v=.agg ⟨iu r (gL [bp,p4])⟩∧SH M (aH [dL]) w [eO 9 tS r.dA bp,eO 5 (tI .u8) r.dt p4] w'):=by
 rw[FQ]at hm;have aK:SH M (aH [dL]) w [dL] w:=hS;generalize hX:aH [dL]=X at aK⊢;clear hS hX;have hS:=aK;clear aK;refine fk func195 rfl ntmps195 rfl λ_ H=>?_;refine aQ H hS (az (eP [] [0] [0,1,2,3] [vS bI,vB fW,vS first,vS lR] (oA [vN,vF,vU 0,vN,vI 0,vU 0,vU 0,vU 0,vU 0,vO,vO,vF]) λb1=>an (az ?_)));obtain⟨y4,lL,hm⟩:=bd hm;refine uB 5 [0,1,2,3] [8,9,10,12,13] [vP b1,vS bI,vB fW,.agg ⟨bP y4⟩,vS lR] [⟨some (.agg ⟨bP y4⟩),rB 193 [vS first] (.agg ⟨bP y4⟩),λ_ _=>(by rw[lL];exact(Sy first).b)⟩] ?_ (he:=by subst lL;kernel_rfl);obtain⟨y7,rT,hm⟩:=ai hm;refine uQ [1] [0,1] [13] (YM m _ _ rT) λg8=>?_;refine uB 7 [9,10,12,14] [15] [vG (vS bI::vB fW::bP y4++[vL g8 y7,vO,vF])] [] ?_;refine uL [1] [0,2] [15] (oS (vS bI::vB fW::bP y4++[vL g8 y7,vO,vF]) rfl rfl) (an (ax ?_));cases hm;refine eE 5 (tI .u8) ?_;exact λ_ _ rS hS=>Ih rS rfl (Ii rfl (hS.bk 1 rfl) underlying194 rfl (by kernel_rfl)) ⟨_,rfl,g8,Gh.nil,rfl,hS.aY [2,0] rfl⟩
theorem SI(m)(bI)(fW)(first)(lR)(r)(hm:FQ m bI fW first lR=some r)(M:Av)(w:World)(hS:S0 M [dL] w):kO prog 195 ⟨[vS bI,vB fW,vS first,vS lR]⟩ w (λv w'=>∃(bp:Gh)(p4:Gh),v=.agg ⟨iu r (gL [bp,p4])⟩∧SH M (aH [dL]) w [eO 9 tS r.dA bp,eO 5 (tI .u8) r.dt p4] w'):=⟨call195 _,a7B M m bI fW first lR r hm w hS⟩

def Aa(m:Nat)(bI:ag)(fW:Bool)(first:aW)(lR:ag)(qk:Bool)(more:List Int):Option da:=Option.bind (strings_Fields m lR) λy8=>au (ln nw+ln more≤137438953472)<|lt (nw++more) λl8=>some (da.mk bI fW first y8 l8 qk)
theorem a7C{mq:Gh}(M:Av)(m)(bI)(fW)(first)(lR)(qk)(more)(r)(hm:Aa m bI fW first lR qk more=some r)(w:World)(hS:S0 M [eI (tI .u8) more mq,dL] w):Calls prog 196 ⟨[vS bI,vB fW,.agg ⟨bP first⟩,vS lR,vB qk,vL mq more]⟩ w (λe w'=>∃v,e=.returned v∧∃(bp:Gh)(p4:Gh),v=.agg ⟨iu r (gL [bp,p4])⟩∧SH M (aH [eI (tI .u8) more mq,dL]) w [eO 9 tS r.dA bp,eO 5 (tI .u8) r.dt p4] w'):=by
 rw[Aa]at hm;have aK:SH M (aH [eI (tI .u8) more mq,dL]) w [eI (tI .u8) more mq,dL] w:=hS;generalize hX:aH [eI (tI .u8) more mq,dL]=X at aK⊢;clear hS hX;have hS:=aK;clear aK;refine fk func196 rfl ntmps196 rfl λ_ H=>?_;refine aQ H hS (az (eP [] [0,1] [0,1,3,4,5] [vS bI,vB fW,vS lR,vB qk,vL mq more] (oB (bP first) rfl) λb1=>?_));refine uM [] [0,1,2] [] (oA [vN,vF,vU 0,vN,vI 0,vU 0,vU 0,vU 0,vU 0,vO,vO,vF]) λb4=>(an ?_);obtain⟨y8,kw,cd,hm⟩:=BS hm;obtain⟨l8,JZ,hm⟩:=bd hm;intro _ _ H6 hS;refine tX (base:=fS [0,1,3,4,5,8,12] [vS bI,vB fW,vS lR,vB qk,vL mq more,vP b1,vP b4]) (L:=[eB b4 [vN,vF,vU 0,vN,vI 0,vU 0,vU 0,vU 0,vU 0,vO,vO,vF],eB b1 (bP first),eI (tI .u8) more mq,dL]) 11 4 (λib=>[vS bI,vB fW,.agg ⟨bP first⟩,vS lR,.slice (ib 4 0).a y8.length (ib 4 0).c,vK (ib 5 0) 3,vL mq more,.slice (ib 7 0).a l8.length (ib 7 0).c,vB qk,vG (vS bI::vB fW::bP first++[.slice (ib 4 0).a y8.length (ib 4 0).c,.slice (ib 7 0).a l8.length (ib 7 0).c,vB qk]),undef]) (λib=>[[],[],[],[],[eO 9 tS y8 (ib 4 0)],[eO 5 (tI .u8) nw (ib 5 0)],[],[eO 5 (tI .u8) l8 (ib 7 0)],[],[],[eB b4 (vS bI::vB fW::bP first++[.slice (ib 4 0).a y8.length (ib 4 0).c,.slice (ib 7 0).a l8.length (ib 7 0).c,vB qk])]]) [[],[],[12],[],[14],[],[],[5,13],[],[4,7],[4,7,11]] [[],[],[],[],[],[],[],[5],[],[],[11]] [[0],[1],[2],[3],[3,4],[5],[6],[5,6,7],[8],[0,1,2,3,4,5,6,7,8,9],[0,1,2,3,4,5,6,7,8,9,10]] [] (aD.bc (ks:=[0,1,3,4,5,8,12]) H6 (by kernel_rfl)) (λ_ _ h=>by cases h) (by kernel_rfl) hS (by kernel_rfl) rfl rfl (by kernel_rfl) (by kernel_rfl) (by kernel_rfl) (po (by kernel_rfl) _ _) ?a7D λ_ _ ib wu hv hS=>?agC
 case a7D=>
  refine⟨bD,bD,se (λ_ _=>[⟨some (.agg ⟨bP first⟩),λwz=>V.bn b1 0 (bP first) 0 wz,λ_ hS=>(hS.bk 0 rfl).cM rfl⟩]),bD,?_,?_,bD,?_,bD,bD,?_,trivial⟩;intro o ho a w ib M Hb hv hO aK;obtain rfl:=cR ho;have H:=(Hb).add (hv 3 (by decide) (by decide) 16 rfl);have hS:=aK;have hd:=hS.hand [0] [0] rfl rfl;refine br.mono (iJ H rfl rfl (YM m _ _ kw _ _ hd)) ?_;rintro v w2 hq;obtain⟨g9,rfl,hq⟩:=hq;replace hS:=hS.join [0] [0] rfl rfl hq;exact⟨gL [g9],λ_ _=>rfl,hS.aY [0,1] rfl⟩;intro o ho a w ib M Hb hv hO aK;obtain rfl:=cR ho;have H:=Hb;have hS:=aK;have hd:=hS.hand [] [] rfl rfl;refine br.mono (oM (tI .u8) 5 (vU 0) nw [gL [],gL [],gL []] H hd rfl (aJ.cons trivial (aJ.cons trivial (aJ.cons trivial aJ.nil)))) ?_;rintro v w2 hq;obtain⟨g11,rfl,hq⟩:=hq;replace hS:=hS.join [] [] rfl rfl hq;exact⟨gL [g11],λ_ _=>rfl,hS.aY [0] rfl⟩;intro o ho a w ib M Hb hv hO aK;obtain rfl:=cR ho;have H:=((Hb).add (hv 5 (by decide) (by decide) 18 rfl)).add (hv 6 (by decide) (by decide) 19 rfl);have hS:=aK;have hd:=hS.hand [0,1] [1] rfl rfl;refine br.mono (WV (T:=tI .u8) (zv:=vU 0) (g1:=ib 5 0) (g2:=mq) (l1:=nw) (l2:=more) l8 JZ.symm H hd rfl rfl rfl rfl rfl rfl rfl (by kernel_rfl) (by kernel_rfl) rfl rfl cd) ?_;rintro v w2 hq;obtain⟨g15,rfl,hq⟩:=hq;replace hS:=hS.join [0,1] [1] rfl rfl hq;exact⟨gL [g15],λ_ _=>rfl,hS.aY [0,1] rfl⟩;intro o ho a w ib M Hb hv hO aK;obtain rfl:=cR ho;have H:=(Hb).add (hv 9 (by decide) (by decide) 22 rfl);have hS:=aK;have hd:=hS.hand [2] [0,1] rfl rfl;refine br.mono (BB (vS bI::vB fW::bP first++[.slice (ib 4 0).a y8.length (ib 4 0).c,.slice (ib 7 0).a l8.length (ib 7 0).c,vB qk]) H hd rfl rfl (by kernel_rfl) rfl rfl rfl) ?_;rintro v w2 hq;replace hS:=hS.join [2] [0,1] rfl rfl hq;exact⟨gL [],(λ_ h=>by cases h),hS.aY [0,1,2] rfl⟩
 have CQ:Fr 23 [(12,[],vP b4)] _:=aD.bc (ks:=[12]) wu (by kernel_rfl);replace hS:SH M _ w [eO 9 tS y8 (ib 4 0),eO 5 (tI .u8) l8 (ib 7 0),eB b4 (vS bI::vB fW::bP first++[.slice (ib 4 0).a y8.length (ib 4 0).c,.slice (ib 7 0).a l8.length (ib 7 0).c,vB qk]),eB b1 (bP first),eI (tI .u8) more mq,dL] _:=hS;clear hv wu;generalize ib 4 0=g19 at CQ hS;generalize ib 7 0=g20 at CQ hS;replace hS:=hS.aY [0,1,2,5] rfl;refine aQ CQ hS (ax ?_);cases hm;exact λ_ _ CQ hS=>Ih CQ rfl (Ii rfl (hS.bk 2 rfl) underlying194 rfl (by kernel_rfl)) ⟨_,rfl,g19,g20,rfl,hS.aY [0,1] rfl⟩
theorem K0{mq:Gh}(m)(bI)(fW)(first)(lR)(qk)(more)(r)(hm:Aa m bI fW first lR qk more=some r)(M:Av)(w:World)(hS:S0 M [eI (tI .u8) more mq,dL] w):kO prog 196 ⟨[vS bI,vB fW,.agg ⟨bP first⟩,vS lR,vB qk,vL mq more]⟩ w (λv w'=>∃(bp:Gh)(p4:Gh),v=.agg ⟨iu r (gL [bp,p4])⟩∧SH M (aH [eI (tI .u8) more mq,dL]) w [eO 9 tS r.dA bp,eO 5 (tI .u8) r.dt p4] w'):=⟨call196 _,a7C M m bI fW first lR qk more r hm w hS⟩

def SJ(m:Nat):Nat→List da→Int→Option (List da)
 |0,_,_=>none
 |kk+1,uz,tf=>cond (decide (tf<4)) (au (0≤tf∧tf<ln zm)<|lt (gi zm tf) λp5=>au (ln [109,97,114,103,105,110,45]+ln p5≤9223372036854775807)<|Option.bind (Aa m ([109,97,114,103,105,110,45]++p5) false (aW.mk 2 [] 0 (be.mk 0 0 0 0)) [97,117,116,111] false []) λNX=>au (ln uz+ln ([NX]:List da)≤137438953472)<|lt (uz++([NX]:List da)) λyc=>SJ m kk yc (a8 (tf+1))) (some uz)
def CR(m:Nat):Option (List da):=lt (FN [97,117,116,111]) λy3=>lt (CO [99,111,108,111,114] true (aW.mk 7 [] 0 (be.mk 0 0 0 255))) λeF=>lt (CO [98,97,99,107,103,114,111,117,110,100,45,99,111,108,111,114] false (aW.mk 7 [] 0 (be.mk 0 0 0 0))) λiw=>lt (CO [98,111,114,100,101,114,45,99,111,108,111,114] false (aW.mk 8 [] 0 (be.mk 0 0 0 0))) λiV=>lt (CO [111,117,116,108,105,110,101,45,99,111,108,111,114] false (aW.mk 8 [] 0 (be.mk 0 0 0 0))) λeG=>Option.bind (FQ m [100,105,115,112,108,97,121] false [105,110,108,105,110,101] [98,108,111,99,107,32,102,108,101,120,32,105,110,108,105,110,101,32,105,110,108,105,110,101,45,98,108,111,99,107,32,110,111,110,101]) λic=>Option.bind (FQ m [118,105,115,105,98,105,108,105,116,121] true [118,105,115,105,98,108,101] [99,111,108,108,97,112,115,101,32,104,105,100,100,101,110,32,118,105,115,105,98,108,101]) λfj=>Option.bind (Aa m [119,105,100,116,104] false y3 [97,117,116,111] true []) λmT=>Option.bind (Aa m [104,101,105,103,104,116] false y3 [97,117,116,111] true []) λmm=>Option.bind (SJ m m ([eF,iw,iV,eG,ic,fj,mT,mm]:List da) 0) λ(yd:List da)=>Option.bind (Aa m [102,111,110,116,45,115,105,122,101] true (aW.mk 2 [] 16000 (be.mk 0 0 0 0)) [] true []) λri=>lt (FN [110,111,114,109,97,108]) λK1=>Option.bind (Aa m [108,105,110,101,45,104,101,105,103,104,116] true K1 [110,111,114,109,97,108] true ([5]:List Int)) λrj=>Option.bind (FQ m [116,101,120,116,45,97,108,105,103,110] true [108,101,102,116] [99,101,110,116,101,114,32,106,117,115,116,105,102,121,32,108,101,102,116,32,114,105,103,104,116]) λrk=>au (ln yd+ln ([ri,rj,rk,da.mk [111,112,97,99,105,116,121] false (aW.mk 5 [] 1000 (be.mk 0 0 0 0)) [] ([5]:List Int) false,da.mk [122,45,105,110,100,101,120] false y3 fw ([6]:List Int) false,da.mk [111,114,100,101,114] false (aW.mk 6 [] 0 (be.mk 0 0 0 0)) [] ([6]:List Int) false]:List da)≤137438953472)<|lt (yd++([ri,rj,rk,da.mk [111,112,97,99,105,116,121] false (aW.mk 5 [] 1000 (be.mk 0 0 0 0)) [] ([5]:List Int) false,da.mk [122,45,105,110,100,101,120] false y3 fw ([6]:List Int) false,da.mk [111,114,100,101,114] false (aW.mk 6 [] 0 (be.mk 0 0 0 0)) [] ([6]:List Int) false]:List da)) λAb=>some Ab
theorem SK(m)(r)(hm:CR m=some r):Dm 161 [] [dL] (λ(bp:Gh)=>vL bp r) (λbp=>[eO 194 iD r bp]):=by
 rw[CR]at hm;refine jG (call161 _) func161 ntmps161 λM X w=>?_;refine uO [] (az ?_);obtain⟨y3,cC,hm⟩:=bd hm;refine uB 2 [] [6,7] [.agg ⟨bP y3⟩,vG (tC 2 [] 0)] [⟨some (.agg ⟨bP y3⟩),rB 193 [vS [97,117,116,111]] (.agg ⟨bP y3⟩),λ_ _=>(by rw[cC];exact(Sy [97,117,116,111]).b)⟩] ?_ (he:=by subst cC;kernel_rfl);refine uM [] [0] [] (oA (tC 0 [] 0)) λb6=>?_;refine uM [] [0,1] [] (oA (tC 0 [] 0)) λb9=>?_;refine uL [1] [0,2] [6] (oS (bP y3) rfl rfl) ?_;refine uL [1] [0,2] [7] (oS (tC 2 [] 0) rfl rfl) (an ?_);obtain⟨eF,oJ,iw,CS,hm⟩:=cU hm;obtain⟨iV,ud,eG,s5,hm⟩:=cU hm;obtain⟨ic,CT,fj,xz,hm⟩:=kg hm;obtain⟨mT,K2,mm,Jp,hm⟩:=kg hm;intro _ _ rS hS;refine tX (base:=fS [1,2] [vP b6,vP b9]) (L:=[eB b9 (tC 2 [] 0),eB b6 (bP y3),dL]) 17 3 (λcm=>[vG [vU 0,vU 0,vU 0,vU 255],vG [vU 7,vN,vI 0,vU 0,vU 0,vU 0,vU 255],.agg ⟨iu eF (cm 2)⟩,vG (tC 7 [] 0),.agg ⟨iu iw (cm 4)⟩,vG (tC 8 [] 0),.agg ⟨iu iV (cm 6)⟩,vG (tC 8 [] 0),.agg ⟨iu eG (cm 8)⟩,.agg ⟨iu ic (cm 9)⟩,.agg ⟨iu fj (cm 10)⟩,.agg ⟨bP y3⟩,.agg ⟨iu mT (cm 12)⟩,.agg ⟨bP y3⟩,.agg ⟨iu mm (cm 14)⟩,vK (cm 15 0) 8,vK (cm 15 0) 8]) (λcm=>[[],[],[eO 9 tS eF.dA (cm 2 0),eO 5 (tI .u8) eF.dt (cm 2 1)],[],[eO 9 tS iw.dA (cm 4 0),eO 5 (tI .u8) iw.dt (cm 4 1)],[],[eO 9 tS iV.dA (cm 6 0),eO 5 (tI .u8) iV.dt (cm 6 1)],[],[eO 9 tS eG.dA (cm 8 0),eO 5 (tI .u8) eG.dt (cm 8 1)],[eO 9 tS ic.dA (cm 9 0),eO 5 (tI .u8) ic.dt (cm 9 1)],[eO 9 tS fj.dA (cm 10 0),eO 5 (tI .u8) fj.dt (cm 10 1)],[],[eO 9 tS mT.dA (cm 12 0),eO 5 (tI .u8) mT.dt (cm 12 1),eI (tI .u8) ([]:List Int) (.nil)],[],[eO 9 tS mm.dA (cm 14 0),eO 5 (tI .u8) mm.dt (cm 14 1),eI (tI .u8) ([]:List Int) (.nil)],[eO 194 iD ([eF,iw,iV,eG,ic,fj,mT,mm]:List da) (cm 15 0),eI (tI .u8) mm.dt (cm 14 1),eI tS mm.dA (cm 14 0),eI (tI .u8) mT.dt (cm 12 1),eI tS mT.dA (cm 12 0),eI (tI .u8) fj.dt (cm 10 1),eI tS fj.dA (cm 10 0),eI (tI .u8) ic.dt (cm 9 1),eI tS ic.dA (cm 9 0),eI (tI .u8) eG.dt (cm 8 1),eI tS eG.dA (cm 8 0),eI (tI .u8) iV.dt (cm 6 1),eI tS iV.dA (cm 6 0),eI (tI .u8) iw.dt (cm 4 1),eI tS iw.dA (cm 4 0),eI (tI .u8) eF.dt (cm 2 1),eI tS eF.dA (cm 2 0),eI (tI .u8) ([]:List Int) (.nil),eI (tI .u8) ([]:List Int) (.nil)],[]]) [[],[],[],[],[],[],[],[],[],[19],[19],[18],[19],[18],[19],[2,4,6,8,9,10,12,14],[15]] [[],[],[],[],[],[],[],[],[],[],[],[],[],[],[],[2,4,6,8,9,10,12,14],[]] [[0],[0,1],[0,1,2],[3],[3,4],[5],[5,6],[7],[7,8],[9],[10],[11],[11,12],[13],[13,14],[0,1,2,3,4,5,6,7,8,9,10,11,12,13,14,15],[0,1,2,3,4,5,6,7,8,9,10,11,12,13,14,15,16]] [] (aD.bc (ks:=[1,2]) rS (by kernel_rfl)) (λ_ _ h=>by cases h) (by kernel_rfl) hS (by kernel_rfl) rfl rfl (by kernel_rfl) (by kernel_rfl) (by kernel_rfl) (po (by kernel_rfl) _ _) ?a7E λ_ _ cm YS hv hS=>?agD
 case a7E=>
  refine⟨bD,bD,?_,bD,?_,bD,?_,bD,?_,?_,?_,se (λ_ _=>[⟨some (.agg ⟨bP y3⟩),λwz=>V.bn b6 0 (bP y3) 0 wz,λ_ hS=>(hS.bk 0 rfl).cM rfl⟩]),?_,se (λ_ _=>[⟨some (.agg ⟨bP y3⟩),λwz=>V.bn b6 0 (bP y3) 0 wz,λ_ hS=>(hS.bk 0 rfl).cM rfl⟩]),?_,?_,bD,trivial⟩;intro o ho a w cm M Hb hv hO aK;obtain rfl:=cR ho;have H:=(Hb).add (hv 1 (by decide) (by decide) 9 rfl);have hS:=aK;have hd:=hS.hand [] [] rfl rfl;refine br.mono (iJ H rfl rfl (NR _ _ _ _ oJ.symm _ _ hd)) ?_;rintro v w2 hq;obtain⟨g18,g20,rfl,hq⟩:=hq;replace hS:=hS.join [] [] rfl rfl hq;exact⟨gL [g18,g20],λ_ _=>rfl,hS.aY [0,1] rfl⟩;intro o ho a w cm M Hb hv hO aK;obtain rfl:=cR ho;have H:=(Hb).add (hv 3 (by decide) (by decide) 11 rfl);have hS:=aK;have hd:=hS.hand [] [] rfl rfl;refine br.mono (iJ H rfl rfl (NR _ _ _ _ CS.symm _ _ hd)) ?_;rintro v w2 hq;obtain⟨g23,FH,rfl,hq⟩:=hq;replace hS:=hS.join [] [] rfl rfl hq;exact⟨gL [g23,FH],λ_ _=>rfl,hS.aY [0,1] rfl⟩;intro o ho a w cm M Hb hv hO aK;obtain rfl:=cR ho;have H:=(Hb).add (hv 5 (by decide) (by decide) 13 rfl);have hS:=aK;have hd:=hS.hand [] [] rfl rfl;refine br.mono (iJ H rfl rfl (NR _ _ _ _ ud.symm _ _ hd)) ?_;rintro v w2 hq;obtain⟨sf,mj,rfl,hq⟩:=hq;replace hS:=hS.join [] [] rfl rfl hq;exact⟨gL [sf,mj],λ_ _=>rfl,hS.aY [0,1] rfl⟩;intro o ho a w cm M Hb hv hO aK;obtain rfl:=cR ho;have H:=(Hb).add (hv 7 (by decide) (by decide) 15 rfl);have hS:=aK;have hd:=hS.hand [] [] rfl rfl;refine br.mono (iJ H rfl rfl (NR _ _ _ _ s5.symm _ _ hd)) ?_;rintro v w2 hq;obtain⟨ye,si,rfl,hq⟩:=hq;replace hS:=hS.join [] [] rfl rfl hq;exact⟨gL [ye,si],λ_ _=>rfl,hS.aY [0,1] rfl⟩;intro o ho a w cm M Hb hv hO aK;obtain rfl:=cR ho;have H:=Hb;have hS:=aK;have hd:=hS.hand [0] [0] rfl rfl;refine br.mono (iJ H rfl rfl (SI m _ _ _ _ _ CT _ _ hd)) ?_;rintro v w2 hq;obtain⟨CU,FR,rfl,hq⟩:=hq;replace hS:=hS.join [0] [0] rfl rfl hq;exact⟨gL [CU,FR],λ_ _=>rfl,hS.aY [0,1,2] rfl⟩;intro o ho a w cm M Hb hv hO aK;obtain rfl:=cR ho;have H:=Hb;have hS:=aK;have hd:=hS.hand [0] [0] rfl rfl;refine br.mono (iJ H rfl rfl (SI m _ _ _ _ _ xz _ _ hd)) ?_;rintro v w2 hq;obtain⟨g43,kC,rfl,hq⟩:=hq;replace hS:=hS.join [0] [0] rfl rfl hq;exact⟨gL [g43,kC],λ_ _=>rfl,hS.aY [0,1,2] rfl⟩;intro o ho a w cm M Hb hv hO aK;obtain rfl:=cR ho;have H:=(Hb).add (hv 11 (by decide) (by decide) 19 rfl);have hS:=aK;replace hS:=hS.MI 5 (tI .u8);replace hS:=SH.eK (hS.aY [0,1] rfl);have hd:=hS.hand [0,1] [0,1] rfl rfl;refine br.mono (iJ H rfl rfl (K0 (mq:=Gh.nil) m _ _ _ _ _ _ _ K2 _ _ hd)) ?_;rintro v w2 hq;obtain⟨JT,K3,rfl,hq⟩:=hq;replace hS:=hS.join [0,1] [0,1] rfl rfl hq;exact⟨gL [JT,K3],λ_ _=>rfl,hS.aY [0,1,2,3] rfl⟩;intro o ho a w cm M Hb hv hO aK;obtain rfl:=cR ho;have H:=(Hb).add (hv 13 (by decide) (by decide) 21 rfl);have hS:=aK;replace hS:=hS.MI 5 (tI .u8);replace hS:=SH.eK (hS.aY [0,1] rfl);have hd:=hS.hand [0,1] [0,1] rfl rfl;refine br.mono (iJ H rfl rfl (K0 (mq:=Gh.nil) m _ _ _ _ _ _ _ Jp _ _ hd)) ?_;rintro v w2 hq;obtain⟨NY,NO,rfl,hq⟩:=hq;replace hS:=hS.join [0,1] [0,1] rfl rfl hq;exact⟨gL [NY,NO],λ_ _=>rfl,hS.aY [0,1,2,3] rfl⟩;intro o ho a w cm M Hb hv hO aK;obtain rfl:=cR ho;have H:=((((((((Hb).add (hv 2 (by decide) (by decide) 10 rfl)).add (hv 4 (by decide) (by decide) 12 rfl)).add (hv 6 (by decide) (by decide) 14 rfl)).add (hv 8 (by decide) (by decide) 16 rfl)).add (hv 9 (by decide) (by decide) 17 rfl)).add (hv 10 (by decide) (by decide) 18 rfl)).add (hv 12 (by decide) (by decide) 20 rfl)).add (hv 14 (by decide) (by decide) 22 rfl);have hS:=aK;replace hS:=SH.eK (hS.aY [0,1,2,3,4,5,6,7,8,9,10,11,12,13,14,15,16,17] rfl);replace hS:=SH.eK (hS.aY [1,0,2,3,4,5,6,7,8,9,10,11,12,13,14,15,16,17] rfl);replace hS:=SH.eK (hS.aY [2,0,1,3,4,5,6,7,8,9,10,11,12,13,14,15,16,17] rfl);replace hS:=SH.eK (hS.aY [3,0,1,2,4,5,6,7,8,9,10,11,12,13,14,15,16,17] rfl);replace hS:=SH.eK (hS.aY [4,0,1,2,3,5,6,7,8,9,10,11,12,13,14,15,16,17] rfl);replace hS:=SH.eK (hS.aY [5,0,1,2,3,4,6,7,8,9,10,11,12,13,14,15,16,17] rfl);replace hS:=SH.eK (hS.aY [6,0,1,2,3,4,5,7,8,9,10,11,12,13,14,15,16,17] rfl);replace hS:=SH.eK (hS.aY [7,0,1,2,3,4,5,6,8,9,10,11,12,13,14,15,16,17] rfl);replace hS:=SH.eK (hS.aY [8,0,1,2,3,4,5,6,7,9,10,11,12,13,14,15,16,17] rfl);replace hS:=SH.eK (hS.aY [9,0,1,2,3,4,5,6,7,8,10,11,12,13,14,15,16,17] rfl);replace hS:=SH.eK (hS.aY [10,0,1,2,3,4,5,6,7,8,9,11,12,13,14,15,16,17] rfl);replace hS:=SH.eK (hS.aY [11,0,1,2,3,4,5,6,7,8,9,10,12,13,14,15,16,17] rfl);replace hS:=SH.eK (hS.aY [12,0,1,2,3,4,5,6,7,8,9,10,11,13,14,15,16,17] rfl);replace hS:=SH.eK (hS.aY [13,0,1,2,3,4,5,6,7,8,9,10,11,12,14,15,16,17] rfl);replace hS:=SH.eK (hS.aY [15,0,1,2,3,4,5,6,7,8,9,10,11,12,13,14,16,17] rfl);replace hS:=SH.eK (hS.aY [16,0,1,2,3,4,5,6,7,8,9,10,11,12,13,14,15,17] rfl);have hd:=hS.hand [15,14,13,12,11,10,9,8,7,6,5,4,3,2,1,0] [0,1,2,3,4,5,6,7,8,9,10,11,12,13,14,15,16,17] rfl rfl;refine br.mono (oM iD 194 (vG [vN,vF,vU 0,vN,vI 0,vU 0,vU 0,vU 0,vU 0,vO,vO,vF]) [eF,iw,iV,eG,ic,fj,mT,mm] [gL [cm 2 0,cm 2 1],gL [cm 4 0,cm 4 1],gL [cm 6 0,cm 6 1],gL [cm 8 0,cm 8 1],gL [cm 9 0,cm 9 1],gL [cm 10 0,cm 10 1],gL [cm 12 0,cm 12 1],gL [cm 14 0,cm 14 1]] H hd rfl (aJ.cons (iE (hd.im 0 rfl) (hd.im 1 rfl)) (aJ.cons (iE (hd.im 2 rfl) (hd.im 3 rfl)) (aJ.cons (iE (hd.im 4 rfl) (hd.im 5 rfl)) (aJ.cons (iE (hd.im 6 rfl) (hd.im 7 rfl)) (aJ.cons (iE (hd.im 8 rfl) (hd.im 9 rfl)) (aJ.cons (iE (hd.im 10 rfl) (hd.im 11 rfl)) (aJ.cons (iE (hd.im 12 rfl) (hd.im 13 rfl)) (aJ.cons (iE (hd.im 14 rfl) (hd.im 15 rfl)) aJ.nil))))))))) ?_;rintro v w2 hq;obtain⟨l9,rfl,hq⟩:=hq;replace hS:=hS.join [15,14,13,12,11,10,9,8,7,6,5,4,3,2,1,0] [0,1,2,3,4,5,6,7,8,9,10,11,12,13,14,15,16,17] rfl rfl hq;exact⟨gL [l9],λ_ _=>rfl,hS.aY [0,1,2,3,4,5,6,7,8,9,10,11,12,13,14,15,16,17,18] rfl⟩
 have oi:Fr 57 (fS [3,1,2] [vK (cm 15 0) 8,vP b6,vP b9]) _:=aD.add (aD.bc (ks:=[1,2]) YS (by kernel_rfl)) (hv 16 3 rfl);replace hS:SH M _ w [eO 194 iD ([eF,iw,iV,eG,ic,fj,mT,mm]:List da) (cm 15 0),eI (tI .u8) mm.dt (cm 14 1),eI tS mm.dA (cm 14 0),eI (tI .u8) mT.dt (cm 12 1),eI tS mT.dA (cm 12 0),eI (tI .u8) fj.dt (cm 10 1),eI tS fj.dA (cm 10 0),eI (tI .u8) ic.dt (cm 9 1),eI tS ic.dA (cm 9 0),eI (tI .u8) eG.dt (cm 8 1),eI tS eG.dA (cm 8 0),eI (tI .u8) iV.dt (cm 6 1),eI tS iV.dA (cm 6 0),eI (tI .u8) iw.dt (cm 4 1),eI tS iw.dA (cm 4 0),eI (tI .u8) eF.dt (cm 2 1),eI tS eF.dA (cm 2 0),eI (tI .u8) ([]:List Int) (.nil),eI (tI .u8) ([]:List Int) (.nil),eB b9 (tC 2 [] 0),eB b6 (bP y3),dL] _:=hS;clear hv YS;generalize cm 15 0=mo at oi hS;generalize cm 14 1=NZ at oi hS;generalize cm 14 0=nI at oi hS;generalize cm 12 1=Ac at oi hS;generalize cm 12 0=vX at oi hS;generalize cm 10 1=iv at oi hS;generalize cm 10 0=FT at oi hS;generalize cm 9 1=O0 at oi hS;generalize cm 9 0=YT at oi hS;generalize cm 8 1=rh at oi hS;generalize cm 8 0=g74 at oi hS;generalize cm 6 1=SL at oi hS;generalize cm 6 0=g76 at oi hS;generalize cm 4 1=YU at oi hS;generalize cm 4 0=SM at oi hS;generalize cm 2 1=Ad at oi hS;generalize cm 2 0=SN at oi hS;replace hS:=hS.aY [0,19,20,21] rfl;obtain⟨yd,hz,hm⟩:=ai hm;refine aQ oi hS (gb [2] [3] (λ(Ae:Gh)=>[vL Ae yd]) (λAe=>[eO 194 iD yd Ae,eB b9 (tC 2 [] 0),eB b6 (bP y3),dL]) ?_ ?_);replace hm:=hz;refine az (eP [] [0,1,2,3] [1,2,3] [vP b6,vP b9,vK mo 8] (oL tS 9 vN zm [gL [],gL [],gL [],gL []] (λ_=>aJ.cons trivial (aJ.cons trivial (aJ.cons trivial (aJ.cons trivial aJ.nil)))) rfl) λql=>?_);refine uB 3 [] [24,25,26] [vK ql 4,vI 4,vI 0] [] (an (aE ?_));refine mF [] [3,26] (λuz tf lc=>[vL lc uz,vI tf]) (λuz _ lc=>[eO 9 tS zm ql,eO 194 iD uz lc,eB b9 (tC 2 [] 0),eB b6 (bP y3),dL]) mo hm (λkk uz tf lc hm=>?_);rw[SJ]at hm;refine uA 27 (vB (decide (tf<4))) [] (aq ?_);refine uC hm ?_ ?_;intro hm;refine ah (aq (aE ?_));obtain⟨K4,p5,SO,hm⟩:=bY hm;refine uR [27] [5] [vS p5] [kI 0 K4,kJ 0 0 K4] ?_ (he:=by subst SO;kernel_rfl);refine dG ?_;obtain⟨CP,hm⟩:=bO hm;refine uB 4 [3,5] [30,32,33] [vL lc uz,vS ([109,97,114,103,105,110,45]++p5),vG (tC 2 [] 0)] [kh CP,⟨some (vG (tC 2 [] 0)),rN b9 0 (tC 2 [] 0),λ_ hS=>(hS.bk 2 rfl).cM rfl⟩] ?_;refine eE 5 (tI .u8) ?_;refine BM [0,1,2,3,4,5] ?_;obtain⟨NX,a7F,hm⟩:=ai hm;intro _ _ YV hS;have hd:=hS.hand [0,5] [0,1,2,3,4,5] rfl rfl;refine tQ [34,1,2,24,25,26,30] (fS [1,2,24,25,26,30] [vP b6,vP b9,vK ql 4,vI 4,vI tf,vL lc uz]) YV rfl rfl rfl rfl (iJ YV rfl rfl (K0 (mq:=Gh.nil) m _ _ _ _ _ _ _ a7F _ _ hd)) (λ_=>rfl) λ_ _ v a7G hq=>?_;obtain⟨O1,a7H,rfl,hq⟩:=hq;replace hS:=hS.join [0,5] [0,1,2,3,4,5] rfl rfl hq;replace hS:=SH.eK (hS.aY [0,1,2,3,4,5,6,7] rfl);replace hS:=SH.eK (hS.aY [1,0,2,3,4,5,6,7] rfl);refine aQ a7G hS (eP [1,0] [0,1,2,3,4,5,6,7] [1,2,24,25,26,30] [vP b6,vP b9,vK ql 4,vI 4,vI tf,vL lc uz] (oL iD 194 (vG [vN,vF,vU 0,vN,vI 0,vU 0,vU 0,vU 0,vU 0,vO,vO,vF]) [NX] [gL [O1,a7H]] (λhd=>aJ.cons (iE (hd.im 0 rfl) (hd.im 1 rfl)) aJ.nil) rfl) λSP=>?_);obtain⟨th,yc,SQ,hm⟩:=bY hm;refine uM [5,0] [1,2,3,4,6,7,8] [30,35] (oP iD (vG [vN,vF,vU 0,vN,vI 0,vU 0,vU 0,vU 0,vU 0,vO,vO,vF]) lc SP SQ th rfl rfl) λK5=>?_;refine uB 8 [36] [3] [vL K5 yc] [] (an (al [0,5,6,7,8] ?_));refine uV 26 (vI (a8 (tf+1))) [] (al [1,0,2,3,4] ?_);exact EX K5 hm;intro hm;refine bt ?_;cases hm;refine al [1,2,3,4] ?_;exact tg lc;intro Ae;refine al [0,2,3] ?_;obtain⟨ri,a7I,K1,YW,hm⟩:=gK hm;obtain⟨rj,a7J,rk,a7K,hm⟩:=kg hm;obtain⟨a7L,Ab,a7M,hm⟩:=bY hm;intro _ _ H hS;refine tX (base:=fS [1,3] [vP b6,vL Ae yd]) (L:=[eO 194 iD yd Ae,eB b6 (bP y3),dL]) 20 3 (λbN=>[vL Ae yd,vG (tC 2 [] 16000),.agg ⟨iu ri (bN 2)⟩,.agg ⟨bP K1⟩,vK (bN 4 0) 1,.agg ⟨iu rj (bN 5)⟩,.agg ⟨iu rk (bN 6)⟩,vG (tC 5 [] 1000),vK (bN 8 0) 1,vG [vS [111,112,97,99,105,116,121],vF,vU 5,vN,vI 1000,vU 0,vU 0,vU 0,vU 0,vO,vK (bN 8 0) 1,vF],.agg ⟨bP y3⟩,vK (bN 11 0) 1,vK (bN 12 0) 1,vG (vS [122,45,105,110,100,101,120]::vF::bP y3++[vK (bN 11 0) 1,vK (bN 12 0) 1,vF]),vG (tC 6 [] 0),vK (bN 15 0) 1,vG [vS [111,114,100,101,114],vF,vU 6,vN,vI 0,vU 0,vU 0,vU 0,vU 0,vO,vK (bN 15 0) 1,vF],vK (bN 17 0) 6,.slice (bN 18 0).a Ab.length (bN 18 0).c,.slice (bN 18 0).a Ab.length (bN 18 0).c]) (λbN=>[[],[],[eO 9 tS ri.dA (bN 2 0),eO 5 (tI .u8) ri.dt (bN 2 1),eI (tI .u8) ([]:List Int) (.nil)],[],[eO 5 (tI .u8) ([5]:List Int) (bN 4 0)],[eO 9 tS rj.dA (bN 5 0),eO 5 (tI .u8) rj.dt (bN 5 1),eI (tI .u8) ([5]:List Int) (bN 4 0)],[eO 9 tS rk.dA (bN 6 0),eO 5 (tI .u8) rk.dt (bN 6 1)],[],[eO 5 (tI .u8) ([5]:List Int) (bN 8 0)],[],[],[eO 9 tS fw (bN 11 0)],[eO 5 (tI .u8) ([6]:List Int) (bN 12 0)],[],[],[eO 5 (tI .u8) ([6]:List Int) (bN 15 0)],[],[eO 194 iD ([ri,rj,rk,da.mk [111,112,97,99,105,116,121] false (aW.mk 5 [] 1000 (be.mk 0 0 0 0)) [] ([5]:List Int) false,da.mk [122,45,105,110,100,101,120] false y3 fw ([6]:List Int) false,da.mk [111,114,100,101,114] false (aW.mk 6 [] 0 (be.mk 0 0 0 0)) [] ([6]:List Int) false]:List da) (bN 17 0),eI (tI .u8) ([6]:List Int) (bN 15 0),eI (tI .u8) ([6]:List Int) (bN 12 0),eI tS fw (bN 11 0),eI (tI .u8) ([5]:List Int) (bN 8 0),eI (tI .u8) rk.dt (bN 6 1),eI tS rk.dA (bN 6 0),eI (tI .u8) rj.dt (bN 5 1),eI tS rj.dA (bN 5 0),eI (tI .u8) ri.dt (bN 2 1),eI tS ri.dA (bN 2 0),eI (tI .u8) ([]:List Int) (.nil),eI (tI .u8) ([5]:List Int) (bN 4 0)],[eO 194 iD Ab (bN 18 0)],[]]) [[],[],[22],[],[],[4,22],[22],[],[],[8],[21],[],[],[11,12],[],[],[15],[2,5,6,8,11,12,15],[17,20],[18]] [[],[],[],[],[],[4],[],[],[],[],[],[],[],[],[],[],[],[2,5,6,8,11,12,15],[20],[]] [[0],[1],[1,2],[3],[4],[3,4,5],[6],[7],[8],[7,8,9],[10],[11],[12],[10,11,12,13],[14],[15],[14,15,16],[1,2,3,4,5,6,7,8,9,10,11,12,13,14,15,16,17],[0,1,2,3,4,5,6,7,8,9,10,11,12,13,14,15,16,17,18],[0,1,2,3,4,5,6,7,8,9,10,11,12,13,14,15,16,17,18,19]] [] (aD.bc (ks:=[1,3]) H (by kernel_rfl)) (λ_ _ h=>by cases h) (by kernel_rfl) hS (by kernel_rfl) rfl rfl (by kernel_rfl) (by kernel_rfl) (by kernel_rfl) (po (by kernel_rfl) _ _) ?SR λ_ _ bN YX hv hS=>?a7N
 case SR=>
  refine⟨bD,bD,?_,se (λ_ _=>[⟨some (.agg ⟨bP K1⟩),rB 193 [vS [110,111,114,109,97,108]] (.agg ⟨bP K1⟩),λ_ _=>(by rw[YW];exact(Sy [110,111,114,109,97,108]).b)⟩]) (he:=by intros;subst YW;kernel_rfl),?_,?_,?_,bD,?_,bD,se (λ_ _=>[⟨some (.agg ⟨bP y3⟩),λwz=>V.bn b6 0 (bP y3) 0 wz,λ_ hS=>(hS.bk 0 rfl).cM rfl⟩]),?_,?_,bD,bD,?_,bD,?_,?_,bD,trivial⟩;intro o ho a w bN M Hb hv hO aK;obtain rfl:=cR ho;have H:=(Hb).add (hv 1 (by decide) (by decide) 39 rfl);have hS:=aK;replace hS:=hS.MI 5 (tI .u8);replace hS:=SH.eK (hS.aY [0,1] rfl);have hd:=hS.hand [0,1] [0,1] rfl rfl;refine br.mono (iJ H rfl rfl (K0 (mq:=Gh.nil) m _ _ _ _ _ _ _ a7I _ _ hd)) ?_;rintro v w2 hq;obtain⟨SS,SU,rfl,hq⟩:=hq;replace hS:=hS.join [0,1] [0,1] rfl rfl hq;exact⟨gL [SS,SU],λ_ _=>rfl,hS.aY [0,1,2,3] rfl⟩;intro o ho a w bN M Hb hv hO aK;obtain rfl:=cR ho;have H:=Hb;have hS:=aK;have hd:=hS.hand [] [] rfl rfl;refine br.mono (oM (tI .u8) 5 (vU 0) [5] [gL []] H hd rfl (aJ.cons trivial aJ.nil)) ?_;rintro v w2 hq;obtain⟨a7O,rfl,hq⟩:=hq;replace hS:=hS.join [] [] rfl rfl hq;exact⟨gL [a7O],λ_ _=>rfl,hS.aY [0] rfl⟩;intro o ho a w bN M Hb hv hO aK;obtain rfl:=cR ho;have H:=((Hb).add (hv 3 (by decide) (by decide) 41 rfl)).add (hv 4 (by decide) (by decide) 42 rfl);have hS:=aK;replace hS:=SH.eK (hS.aY [0,1] rfl);have hd:=hS.hand [0,1] [0,1] rfl rfl;refine br.mono (iJ H rfl rfl (K0 (mq:=bN 4 0) m _ _ _ _ _ _ _ a7J _ _ hd)) ?_;rintro v w2 hq;obtain⟨FV,a7P,rfl,hq⟩:=hq;replace hS:=hS.join [0,1] [0,1] rfl rfl hq;exact⟨gL [FV,a7P],λ_ _=>rfl,hS.aY [0,1,2,3] rfl⟩;intro o ho a w bN M Hb hv hO aK;obtain rfl:=cR ho;have H:=Hb;have hS:=aK;have hd:=hS.hand [0] [0] rfl rfl;refine br.mono (iJ H rfl rfl (SI m _ _ _ _ _ a7K _ _ hd)) ?_;rintro v w2 hq;obtain⟨YY,SV,rfl,hq⟩:=hq;replace hS:=hS.join [0] [0] rfl rfl hq;exact⟨gL [YY,SV],λ_ _=>rfl,hS.aY [0,1,2] rfl⟩;intro o ho a w bN M Hb hv hO aK;obtain rfl:=cR ho;have H:=Hb;have hS:=aK;have hd:=hS.hand [] [] rfl rfl;refine br.mono (oM (tI .u8) 5 (vU 0) [5] [gL []] H hd rfl (aJ.cons trivial aJ.nil)) ?_;rintro v w2 hq;obtain⟨O2,rfl,hq⟩:=hq;replace hS:=hS.join [] [] rfl rfl hq;exact⟨gL [O2],λ_ _=>rfl,hS.aY [0] rfl⟩;intro o ho a w bN M Hb hv hO aK;obtain rfl:=cR ho;have H:=Hb;have hS:=aK;have hd:=hS.hand [] [] rfl rfl;refine br.mono (oM tS 9 vN fw [gL []] H hd rfl (aJ.cons trivial aJ.nil)) ?_;rintro v w2 hq;obtain⟨wv,rfl,hq⟩:=hq;replace hS:=hS.join [] [] rfl rfl hq;exact⟨gL [wv],λ_ _=>rfl,hS.aY [0] rfl⟩;intro o ho a w bN M Hb hv hO aK;obtain rfl:=cR ho;have H:=Hb;have hS:=aK;have hd:=hS.hand [] [] rfl rfl;refine br.mono (oM (tI .u8) 5 (vU 0) [6] [gL []] H hd rfl (aJ.cons trivial aJ.nil)) ?_;rintro v w2 hq;obtain⟨a7Q,rfl,hq⟩:=hq;replace hS:=hS.join [] [] rfl rfl hq;exact⟨gL [a7Q],λ_ _=>rfl,hS.aY [0] rfl⟩;intro o ho a w bN M Hb hv hO aK;obtain rfl:=cR ho;have H:=Hb;have hS:=aK;have hd:=hS.hand [] [] rfl rfl;refine br.mono (oM (tI .u8) 5 (vU 0) [6] [gL []] H hd rfl (aJ.cons trivial aJ.nil)) ?_;rintro v w2 hq;obtain⟨FW,rfl,hq⟩:=hq;replace hS:=hS.join [] [] rfl rfl hq;exact⟨gL [FW],λ_ _=>rfl,hS.aY [0] rfl⟩;intro o ho a w bN M Hb hv hO aK;obtain rfl:=cR ho;have H:=((((((Hb).add (hv 2 (by decide) (by decide) 40 rfl)).add (hv 5 (by decide) (by decide) 43 rfl)).add (hv 6 (by decide) (by decide) 44 rfl)).add (hv 9 (by decide) (by decide) 47 rfl)).add (hv 13 (by decide) (by decide) 51 rfl)).add (hv 16 (by decide) (by decide) 54 rfl);have hS:=aK;replace hS:=SH.eK (hS.aY [0,1,2,3,4,5,6,7,8,9,10,11] rfl);replace hS:=SH.eK (hS.aY [1,0,2,3,4,5,6,7,8,9,10,11] rfl);replace hS:=SH.eK (hS.aY [3,0,1,2,4,5,6,7,8,9,10,11] rfl);replace hS:=SH.eK (hS.aY [4,0,1,2,3,5,6,7,8,9,10,11] rfl);replace hS:=SH.eK (hS.aY [6,0,1,2,3,4,5,7,8,9,10,11] rfl);replace hS:=SH.eK (hS.aY [7,0,1,2,3,4,5,6,8,9,10,11] rfl);replace hS:=SH.eK (hS.aY [8,0,1,2,3,4,5,6,7,9,10,11] rfl);replace hS:=SH.eK (hS.aY [9,0,1,2,3,4,5,6,7,8,10,11] rfl);replace hS:=SH.eK (hS.aY [10,0,1,2,3,4,5,6,7,8,9,11] rfl);replace hS:=SH.eK (hS.aY [11,0,1,2,3,4,5,6,7,8,9,10] rfl);have hd:=hS.hand [9,8,7,6,5,4,3,2,1,0] [0,1,2,3,4,5,6,7,8,9,10,11] rfl rfl;refine br.mono (oM iD 194 (vG [vN,vF,vU 0,vN,vI 0,vU 0,vU 0,vU 0,vU 0,vO,vO,vF]) [ri,rj,rk,da.mk [111,112,97,99,105,116,121] false (aW.mk 5 [] 1000 (be.mk 0 0 0 0)) [] ([5]:List Int) false,da.mk [122,45,105,110,100,101,120] false y3 fw ([6]:List Int) false,da.mk [111,114,100,101,114] false (aW.mk 6 [] 0 (be.mk 0 0 0 0)) [] ([6]:List Int) false] [gL [bN 2 0,bN 2 1],gL [bN 5 0,bN 5 1],gL [bN 6 0,bN 6 1],gL [Gh.nil,bN 8 0],gL [bN 11 0,bN 12 0],gL [Gh.nil,bN 15 0]] H hd rfl (aJ.cons (iE (hd.im 0 rfl) (hd.im 1 rfl)) (aJ.cons (iE (hd.im 2 rfl) (hd.im 3 rfl)) (aJ.cons (iE (hd.im 4 rfl) (hd.im 5 rfl)) (aJ.cons (iE bC.nil (hd.im 6 rfl)) (aJ.cons (iE (hd.im 7 rfl) (hd.im 8 rfl)) (aJ.cons (iE bC.nil (hd.im 9 rfl)) aJ.nil))))))) ?_;rintro v w2 hq;obtain⟨Af,rfl,hq⟩:=hq;replace hS:=hS.join [9,8,7,6,5,4,3,2,1,0] [0,1,2,3,4,5,6,7,8,9,10,11] rfl rfl hq;exact⟨gL [Af],λ_ _=>rfl,hS.aY [0,1,2,3,4,5,6,7,8,9,10,11,12] rfl⟩;intro o ho a w bN M Hb hv hO aK;obtain rfl:=cR ho;have H:=((Hb).add (hv 0 (by decide) (by decide) 38 rfl)).add (hv 17 (by decide) (by decide) 55 rfl);have hS:=aK;have hd:=hS.hand [13,0] [1,2,3,4,5,6,7,8,9,10,11,12] rfl rfl;refine br.mono (BD (T:=iD) (zv:=vG [vN,vF,vU 0,vN,vI 0,vU 0,vU 0,vU 0,vU 0,vO,vO,vF]) (g1:=Ae) (g2:=bN 17 0) (l1:=yd) (l2:=([ri,rj,rk,da.mk [111,112,97,99,105,116,121] false (aW.mk 5 [] 1000 (be.mk 0 0 0 0)) [] ([5]:List Int) false,da.mk [122,45,105,110,100,101,120] false y3 fw ([6]:List Int) false,da.mk [111,114,100,101,114] false (aW.mk 6 [] 0 (be.mk 0 0 0 0)) [] ([6]:List Int) false]:List da)) Ab a7M.symm H hd rfl rfl rfl rfl rfl rfl rfl (by kernel_rfl) (by kernel_rfl) rfl rfl a7L) ?_;rintro v w2 hq;obtain⟨a7R,rfl,hq⟩:=hq;replace hS:=hS.join [13,0] [1,2,3,4,5,6,7,8,9,10,11,12] rfl rfl hq;exact⟨gL [a7R],λ_ _=>rfl,hS.aY [0,1,2,3,4,5,6,7,8,9,10,11,12,13] rfl⟩
 have rl:Fr 57 [(0,[],.slice (bN 18 0).a Ab.length (bN 18 0).c)] _:=aD.add (aD.bc (ks:=[]) YX (by kernel_rfl)) (hv 19 0 rfl);replace hS:SH M _ w [eO 194 iD ([ri,rj,rk,da.mk [111,112,97,99,105,116,121] false (aW.mk 5 [] 1000 (be.mk 0 0 0 0)) [] ([5]:List Int) false,da.mk [122,45,105,110,100,101,120] false y3 fw ([6]:List Int) false,da.mk [111,114,100,101,114] false (aW.mk 6 [] 0 (be.mk 0 0 0 0)) [] ([6]:List Int) false]:List da) (bN 17 0),eI (tI .u8) ([6]:List Int) (bN 15 0),eI (tI .u8) ([6]:List Int) (bN 12 0),eI tS fw (bN 11 0),eI (tI .u8) ([5]:List Int) (bN 8 0),eI (tI .u8) rk.dt (bN 6 1),eI tS rk.dA (bN 6 0),eI (tI .u8) rj.dt (bN 5 1),eI tS rj.dA (bN 5 0),eI (tI .u8) ri.dt (bN 2 1),eI tS ri.dA (bN 2 0),eI (tI .u8) ([]:List Int) (.nil),eI (tI .u8) ([5]:List Int) (bN 4 0),eO 194 iD Ab (bN 18 0),eB b6 (bP y3),dL] _:=hS;clear hv YX;generalize bN 18 0=a7S at rl hS;generalize bN 17 0=YZ at rl hS;generalize bN 15 0=agE at rl hS;generalize bN 12 0=agF at rl hS;generalize bN 11 0=agG at rl hS;generalize bN 8 0=SW at rl hS;generalize bN 6 1=agH at rl hS;generalize bN 6 0=agI at rl hS;generalize bN 5 1=agJ at rl hS;generalize bN 5 0=SX at rl hS;generalize bN 2 1=agK at rl hS;generalize bN 2 0=agL at rl hS;generalize bN 4 0=agM at rl hS;replace hS:=hS.aY [13,15] rfl;refine aQ rl hS (ax ?_);cases hm;exact dh a7S [0] aR

def O3(p:da)(u0:ag):Bool:=p.aO==u0
theorem a7T{O4 O5:Gh}{gf:Nat}(p:da)(u0:ag)(w)(hL:Rd [eI tS p.dA O4,eI (tI .u8) p.dt O5,aU.ro gf [vS u0]] w):Rb 164 [.agg ⟨iu p (gL [O4,O5])⟩,vP gf] (vB (O3 p u0)) w:=by
 generalize hm:O3 p u0=r;rw[O3]at hm;refine c7 hL (call164 _) func164 ntmps164 λM X w=>(az ?_);refine uM [] [0,1,2] [0] (oB (iu p (gL [O4,O5])) rfl) λb1=>?_;refine uP 2 [] (an ?_);refine uR [1,2] [3] [vB (p.aO==u0)] [kb 0 0,ko 3 0] (al [] (ax ?_));subst hm;exact aI [] aR

def K6(m:Nat)(s:List da)(wx:ag):Nat→Int→Option (Sum Int Unit)
 |0,_=>none
 |kk+1,v6=>cond (decide (v6<ln s)) (au (0≤v6∧v6<ln s)<|cond (O3 (gi s v6) wx) (some (.inl v6)) (K6 m s wx kk (a8 (v6+1)))) (some (.inr ()))
def O6(m:Nat)(s:List da)(wx:ag):Option Int:=Option.bind (K6 m s wx m 0) λ(z3:Sum Int Unit)=>bK z3 λcO=>some (-1)
theorem a7U{bi:Gh}{j8:Nat}(m)(s)(wx)(r)(hm:O6 m s wx=some r)(w)(hL:Rd [eI iD s bi,aU.ro j8 [vS wx]] w):Rb 163 [vL bi s,.func (.func 164) ⟨[]⟩ ⟨[vP j8]⟩] (vI r) w:=by
 rw[O6]at hm;refine c7 hL (call163 _) func163 ntmps163 λM X w=>?_;refine uO [] ?_;obtain⟨z3,hz,dJ⟩:=ai hm;intro _ _ H2 hS;refine df (λa' w'=>∃cO:Unit,z3=Sum.inr cO∧Fr 19 [] a'∧SH M X w [eI iD s bi,aU.ro j8 [vS wx]] w') ?_ ?_;replace hm:=hz;refine aQ H2 hS (uR [] [7,8] [vI (ln s),vI 0] [] (aE ?_));refine dH [] [8] (λv6=>[vI v6]) (λ_=>[eI iD s bi,aU.ro j8 [vS wx]]) hm (λkk v6 hm=>?_);rw[K6]at hm;refine uA 9 (vB (decide (v6<ln s))) [] (aq ?_);refine uC hm ?_ ?_;intro hm;refine ah (aq (aE (uR [9] [5] [vI v6] [] ?_)));obtain⟨ef,hm⟩:=bO hm;refine uI [ki 0 ef,⟨some (.agg ⟨iu (gi s v6) (bi.s v6.toNat)⟩),λwz=>V.bn (ab bi.a) (ao bi.a+v6.toNat*12) (iu (gi s v6) (bi.s v6.toNat)) 0 wz,λ_ hS=>(hS.im 0 rfl).cS ef 0 rfl⟩,kr λ_ hS=>a7T (O4:=bi.s v6.toNat 0) (O5:=bi.s v6.toNat 1) (gf:=j8) (gi s v6) wx _ (aw (aw (np aS (hS.ro 1 rfl)) (NQ ((hS.im 0 rfl).el ef))) (NP ((hS.im 0 rfl).el ef)))] hm ?_ ?_;intro hm;cases hm;have hm:=dJ;cases hm;exact uZ [] [];intro hm;exact ah (dI [] hm);intro hm;refine bt ?_;cases hm;exact λ_ _ H8 hS=>⟨_,rfl,aD.bc (ks:=[]) H8 (by kernel_rfl),hS⟩;rintro _ _ ⟨cO,hz,H,hS⟩;subst hz;replace hm:=cG dJ;replace hS:SH M _ w [] _:=hS.aY [] rfl;refine aQ H hS ?_;cases hm;exact uZ [] []

def FX(m:Nat)(bI:ag):Option (Int×Int):=Option.bind (CR m) λy6=>Option.bind (O6 m y6 bI) λgq=>cond (decide (gq<0)) (some (0,6)) (some (gq,0))
theorem Z0(m)(bI)(r)(hm:FX m bI=some r)(w)(hL:Rd [dL] w):Rb 123 [vS bI] (vW [vI r.1,vI r.2]) w:=by
 rw[FX]at hm;refine c7 hL (call123 _) func123 ntmps123 λM X w=>(az ?_);refine uM [] [0] [0] (oB [vS bI] rfl) λb1=>?_;refine uP 3 [] (an (az ?_));obtain⟨y6,eW,hm⟩:=ai hm;refine uQ [1] [0,1] [] (SK m _ eW) λg7=>?_;obtain⟨gq,yf,hm⟩:=ai hm;refine uB 4 [1,5] [4] [vI gq] [kr λ_ hS=>a7U (bi:=g7) (j8:=b1) m _ _ _ yf _ (aw (np aS (hS.bk 1 rfl)) (hS.dX 0 rfl))] (an (al [2] (aq ?_)));refine uI [] hm ?_ ?_;intro hm;cases hm;exact uY [] [];intro hm;refine ah ?_;cases hm;exact uY [] []

def FY(m:Nat)(bI:ag):Option (Bool×Int):=Option.bind (FM bI) λy3=>cond y3 (some (true,0)) (Option.bind (FX 64 bI) λy8=>cond (y8.2 !=0) (some (false,y8.2)) (Option.bind (CR m) λdC=>au (0≤y8.1∧y8.1<ln dC)<|some ((gi dC y8.1).FO,0)))
end Go.Proofs.YtnjmihahnjohoaaGreatDoor
