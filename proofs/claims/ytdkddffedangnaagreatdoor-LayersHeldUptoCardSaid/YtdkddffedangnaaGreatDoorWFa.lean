/-
  What the Go functions compute, as Lean functions, and that a call returns just that. Printed by a program.
-/
import Derived.Test.YtdkddffedangnaaGreatDoorRows
import Derived.Test.YtdkddffedangnaaGreatDoorX
import Derived.Test.YtdkddffedangnaaGreatDoorQ2
set_option linter.unusedVariables false
set_option maxRecDepth 20000
set_option maxHeartbeats 4000000
namespace Go.Proofs.YtdkddffedangnaaGreatDoor
open Go.V Go.RowKit Go.Proofs.Tryz

abbrev tC(k:Int)(w:a7)(n:Int):List Value:=[.int .u8 k,.string ⟨⟨w⟩⟩,.int .i64 n,.int .u8 0,.int .u8 0,.int .u8 0,.int .u8 0]
abbrev Rd(L:List aB)(w:World):Prop:=S0 F0 L w∧aD L=[]
abbrev Rb(f:FuncId)(l:List Value)(v:Value)(w:World):Prop:=lG prog f ⟨l⟩ v w
abbrev Rt(f:FuncId)(l:List Value)(v:Value):Prop:=Bv prog f ⟨l⟩ v
abbrev Dm{γ:Type}(f:FuncId)(l:List Value)(L:List aB)(F:γ→Value)(E:γ→List aB):Prop:=P0 prog f ⟨l⟩ L F E
abbrev vS(l:a7):Value:=.string ⟨⟨l⟩⟩
abbrev vN:Value:=.string ⟨⟨[]⟩⟩
abbrev vI(n:Int):Value:=.int .i64 n
abbrev vU(n:Int):Value:=.int .u8 n
abbrev vT:Value:=.bool true
abbrev vF:Value:=.bool false
abbrev vP(b:Nat):Value:=.pointer (some ⟨b,0,none⟩)
abbrev vA(b o:Nat):Value:=.pointer (some ⟨b,o,none⟩)
abbrev vQ:Value:=.pointer none
abbrev vO:Value:=.slice none 0 0
abbrev vB(b:Bool):Value:=.bool b
abbrev vG(l:List Value):Value:=.agg ⟨l⟩
abbrev vW(l:List Value):Value:=.tuple ⟨l⟩
abbrev vJ(n:Int):Value:=.int .i32 n
abbrev vL{α:Type}(g:Gh)(l:List α):Value:=.slice g.a l.length g.c
abbrev eT:aB:=aB.iD 0 (Lib.pow10Tab.map λz=>Value.int .u64 z)
abbrev Hq{α β:Type}(g h:Gh)(l:List α)(r:List β):Prop:=g.a=h.a∧g.c=h.c∧l.length=r.length
theorem je{α β:Type}{g g':Gh}{v:List α}{v':List β}(h:Hq g' g v' v):vL g v=vL g' v':=by unfold vL;rw[h.1,h.2.1,h.2.2]
abbrev eO{α:Type}(E:TypeId)(T:Ty α)(l:List α)(g:Gh):aB:=.own E T l g
abbrev eI{α:Type}(T:Ty α)(l:List α)(g:Gh):aB:=.im T l g
abbrev eB(b:Nat)(cs:List Value):aB:=.my b cs
def fS:List Nat→List Value→SF
 |k::ks,v::vs=>(k,[],v)::fS ks vs
 |_,_=>[]
abbrev vK(g:Gh)(n:Nat):Value:=.slice g.a n g.c
abbrev yR:List a7:=[[97,117,116,111]]
abbrev BN:List Int:=[2,3,4,0]
abbrev BO:List a7:=[[116,111,112],[114,105,103,104,116],[98,111,116,116,111,109],[108,101,102,116]]
abbrev BP:List Int:=[0,0,1]
abbrev KI:List Int:=[2,3,4]
abbrev kL5:List a7:=[[],[97,110,100],[111,114],[110,111,116],[111,110,108,121]]
abbrev kL6:List a7:=[[109,97,114,103,105,110],[98,111,114,100,101,114],[111,117,116,108,105,110,101],[98,97,99,107,103,114,111,117,110,100]]
abbrev kL7:List a7:=[[105,110,105,116,105,97,108],[105,110,104,101,114,105,116],[117,110,115,101,116],[114,101,118,101,114,116]]
abbrev kL8:List a7:=[[98],[97,47,120],[97]]
abbrev rB(f:FuncId)(l:List Value)(v:Value):World→Prop:=λwz=>lG prog f ⟨l⟩ v wz
abbrev rN(b o:Nat)(l:List Value):World→Prop:=λwz=>V.bH b o l 0 wz
abbrev rA(b o:Nat)(v:Value):World→Prop:=λwz=>V.c9 ⟨b,o,none⟩ v wz
theorem eL{α β γ:Type}{e:α}{g:α→β}{f:α→β→γ}{r:γ}(h:lt e (λx=>lt (g x) (f x))=r):∃x,x=e∧∃y,y=g x∧f x y=r:=⟨e,rfl,_,rfl,h⟩
theorem pb{α β γ:Type}{e:α}{g:α→Option β}{f:α→β→Option γ}{r:γ}(h:lt e (λx=>(g x).bind (f x))=some r):∃x,x=e∧∃y,g x=some y∧f x y=some r:=⟨e,rfl,a8 h⟩
theorem kO{α γ:Type}{e:α}{p:α→Prop}[∀x,Decidable (p x)]{f:α→Option γ}{r:γ}(h:lt e (λx=>az (p x) (f x))=some r):∃x,x=e∧p x∧f x=some r:=⟨e,rfl,bY h⟩
theorem jq{α β γ:Type}{e:Option α}{g:α→β}{f:α→β→Option γ}{r:γ}(h:e.bind (λx=>lt (g x) (f x))=some r):∃x,e=some x∧∃y,y=g x∧f x y=some r:=(a8 h).imp λ_ h=>⟨h.1,bc h.2⟩
theorem pA{α β γ:Type}{e:Option α}{g:α→Option β}{f:α→β→Option γ}{r:γ}(h:e.bind (λx=>(g x).bind (f x))=some r):∃x,e=some x∧∃y,g x=some y∧f x y=some r:=(a8 h).imp λ_ h=>⟨h.1,a8 h.2⟩
theorem BQ{α γ:Type}{e:Option α}{p:α→Prop}[∀x,Decidable (p x)]{f:α→Option γ}{r:γ}(h:e.bind (λx=>az (p x) (f x))=some r):∃x,e=some x∧p x∧f x=some r:=(a8 h).imp λ_ h=>⟨h.1,bY h.2⟩
theorem cE{β γ:Type}{p:Prop}[Decidable p]{g:β}{f:β→Option γ}{r:γ}(h:az p (lt g f)=some r):p∧∃y,y=g∧f y=some r:=⟨(bY h).1,bc (bY h).2⟩
theorem kP{β γ:Type}{p:Prop}[Decidable p]{g:Option β}{f:β→Option γ}{r:γ}(h:az p (g.bind f)=some r):p∧∃y,g=some y∧f y=some r:=⟨(bY h).1,a8 (bY h).2⟩
theorem eS{γ:Type}{p q:Prop}[Decidable p][Decidable q]{f:Option γ}{r:γ}(h:az p (az q f)=some r):p∧q∧f=some r:=⟨(bY h).1,bY (bY h).2⟩
def alO:List Int:=[0,1,28,2,29,14,24,3,30,22,20,15,25,17,4,8,31,27,13,23,21,19,16,7,26,12,18,6,11,5,10,9]
def alP:List Int:=[0,1,56,2,57,49,28,3,61,58,42,50,38,29,17,4,62,47,59,36,45,43,51,22,53,39,33,30,24,18,12,5,63,55,48,27,60,41,37,16,46,35,44,21,52,32,23,11,54,26,40,15,34,20,31,10,25,14,19,9,13,8,7,6]
def Eo:List Int:=[0,0,0,0,0,0,0,0,0,1,1,1,1,1,0,0,0,0,0,0,0,0,0,0,0,0,0,0,0,0,0,0,1,0,0,0,0,0,0,0,0,0,0,0,0,0,0,0,0,0,0,0,0,0,0,0,0,0,0,0,0,0,0,0,0,0,0,0,0,0,0,0,0,0,0,0,0,0,0,0,0,0,0,0,0,0,0,0,0,0,0,0,0,0,0,0,0,0,0,0,0,0,0,0,0,0,0,0,0,0,0,0,0,0,0,0,0,0,0,0,0,0,0,0,0,0,0,0,0,0,0,0,0,0,0,0,0,0,0,0,0,0,0,0,0,0,0,0,0,0,0,0,0,0,0,0,0,0,0,0,0,0,0,0,0,0,0,0,0,0,0,0,0,0,0,0,0,0,0,0,0,0,0,0,0,0,0,0,0,0,0,0,0,0,0,0,0,0,0,0,0,0,0,0,0,0,0,0,0,0,0,0,0,0,0,0,0,0,0,0,0,0,0,0,0,0,0,0,0,0,0,0,0,0,0,0,0,0,0,0,0,0,0,0,0,0,0,0,0,0,0,0,0,0,0,0]
structure yS where
  A:Int
  B:Int
instance:Inhabited yS:=⟨⟨default,default⟩⟩
def a8y:Ty yS where
  z:=2
  enc:=λx g=>[vI x.A,vI x.B]
  bP:=λ_ _ _ _=>True
  len:=λ_ _=>rfl
  one:=λ_ _=>rfl
  kp:=λ_ _ _=>trivial
  bW:=λ_ _=>trivial
  fresh:=λ_=>trivial
mutual
inductive bw where
  |mk (xx:Int) (bn:List gE) (gj:List Int)
inductive gE where
  |mk (Tag:a7) (bE:List fc)
inductive fc where
  |mk (af:Int) (bm:a7) (Op:Int) (Value:a7) (uE:Bool) (iS:yS) (Of:Bool) (aa:List bw)
end
def bw.xx:bw→Int
 | .mk x _ _=>x
def bw.bn:bw→List gE
 | .mk _ x _=>x
def bw.gj:bw→List Int
 | .mk _ _ x=>x
def gE.Tag:gE→a7
 | .mk x _=>x
def gE.bE:gE→List fc
 | .mk _ x=>x
def fc.af:fc→Int
 | .mk x _ _ _ _ _ _ _=>x
def fc.bm:fc→a7
 | .mk _ x _ _ _ _ _ _=>x
def fc.Op:fc→Int
 | .mk _ _ x _ _ _ _ _=>x
def fc.Value:fc→a7
 | .mk _ _ _ x _ _ _ _=>x
def fc.uE:fc→Bool
 | .mk _ _ _ _ x _ _ _=>x
def fc.iS:fc→yS
 | .mk _ _ _ _ _ x _ _=>x
def fc.Of:fc→Bool
 | .mk _ _ _ _ _ _ x _=>x
def fc.aa:fc→List bw
 | .mk _ _ _ _ _ _ _ x=>x
instance:Inhabited bw:=⟨.mk default default default⟩
instance:Inhabited gE:=⟨.mk default default⟩
instance:Inhabited fc:=⟨.mk default default default default default default default default⟩
def U4(x:bw)(g:Nat→Gh):List Value:=[vU x.xx,.slice (g 0).a x.bn.length (g 0).c,.slice (g 1).a x.gj.length (g 1).c]
def e0(x:bw)(g:Nat→Gh):List Value:=U4 x g
def a1l(x:gE)(g:Nat→Gh):List Value:=[vS x.Tag,.slice (g 0).a x.bE.length (g 0).c]
def U5(x:fc)(g:Nat→Gh):List Value:=[vU x.af,vS x.bm,vU x.Op,vS x.Value,vB x.uE,vI x.iS.A,vI x.iS.B,vB x.Of,.slice (g 0).a x.aa.length (g 0).c]
def e2(x:fc)(g:Nat→Gh):List Value:=U5 x g
mutual
inductive lZ (M:Av) (w:World):bw→(Nat→Gh)→Prop
  |mk (x:bw) (g:Nat→Gh) (h0:pw 2 a1l M w x.bn (g 0)) (h1:∀i (h:i<x.bn.length),mE M w x.bn[i] ((g 0).s i)) (h2:aM (tI .u8) M w x.gj (g 1)):lZ M w x g
inductive mE (M:Av) (w:World):gE→(Nat→Gh)→Prop
  |mk (x:gE) (g:Nat→Gh) (h0:pw 9 U5 M w x.bE (g 0)) (h1:∀i (h:i<x.bE.length),mF M w x.bE[i] ((g 0).s i)):mE M w x g
inductive mF (M:Av) (w:World):fc→(Nat→Gh)→Prop
  |mk (x:fc) (g:Nat→Gh) (h0:pw 3 U4 M w x.aa (g 0)) (h1:∀i (h:i<x.aa.length),lZ M w x.aa[i] ((g 0).s i)):mF M w x g
end
theorem a8z{M:Av}{w w':World}{X:List Nat}{x:bw}{g:Nat→Gh}(h:lZ M w x g)(k:Kp X w w')(hX:∀b∈X,M b):lZ M w' x g:=
  lZ.rec (motive_1:=λx g _=>lZ M w' x g) (motive_2:=λx g _=>mE M w' x g) (motive_3:=λx g _=>mF M w' x g) (λx g h0 _ h2 er=>.mk x g (h0.kp k hX) er (h2.kp k hX)) (λx g h0 _ er=>.mk x g (h0.kp k hX) er) (λx g h0 _ er=>.mk x g (h0.kp k hX) er) h
theorem a8A{M:Av}{w w':World}{X:List Nat}{x:gE}{g:Nat→Gh}(h:mE M w x g)(k:Kp X w w')(hX:∀b∈X,M b):mE M w' x g:=
  mE.rec (motive_1:=λx g _=>lZ M w' x g) (motive_2:=λx g _=>mE M w' x g) (motive_3:=λx g _=>mF M w' x g) (λx g h0 _ h2 er=>.mk x g (h0.kp k hX) er (h2.kp k hX)) (λx g h0 _ er=>.mk x g (h0.kp k hX) er) (λx g h0 _ er=>.mk x g (h0.kp k hX) er) h
theorem a8B{M:Av}{w w':World}{X:List Nat}{x:fc}{g:Nat→Gh}(h:mF M w x g)(k:Kp X w w')(hX:∀b∈X,M b):mF M w' x g:=
  mF.rec (motive_1:=λx g _=>lZ M w' x g) (motive_2:=λx g _=>mE M w' x g) (motive_3:=λx g _=>mF M w' x g) (λx g h0 _ h2 er=>.mk x g (h0.kp k hX) er (h2.kp k hX)) (λx g h0 _ er=>.mk x g (h0.kp k hX) er) (λx g h0 _ er=>.mk x g (h0.kp k hX) er) h
theorem a8C{M M':Av}{w:World}{x:bw}{g:Nat→Gh}(h:lZ M w x g)(hM:∀b,M' b→M b):lZ M' w x g:=
  lZ.rec (motive_1:=λx g _=>lZ M' w x g) (motive_2:=λx g _=>mE M' w x g) (motive_3:=λx g _=>mF M' w x g) (λx g h0 _ h2 er=>.mk x g (h0.bW hM) er (h2.bW hM)) (λx g h0 _ er=>.mk x g (h0.bW hM) er) (λx g h0 _ er=>.mk x g (h0.bW hM) er) h
theorem a8D{M M':Av}{w:World}{x:gE}{g:Nat→Gh}(h:mE M w x g)(hM:∀b,M' b→M b):mE M' w x g:=
  mE.rec (motive_1:=λx g _=>lZ M' w x g) (motive_2:=λx g _=>mE M' w x g) (motive_3:=λx g _=>mF M' w x g) (λx g h0 _ h2 er=>.mk x g (h0.bW hM) er (h2.bW hM)) (λx g h0 _ er=>.mk x g (h0.bW hM) er) (λx g h0 _ er=>.mk x g (h0.bW hM) er) h
theorem a8E{M M':Av}{w:World}{x:fc}{g:Nat→Gh}(h:mF M w x g)(hM:∀b,M' b→M b):mF M' w x g:=
  mF.rec (motive_1:=λx g _=>lZ M' w x g) (motive_2:=λx g _=>mE M' w x g) (motive_3:=λx g _=>mF M' w x g) (λx g h0 _ h2 er=>.mk x g (h0.bW hM) er (h2.bW hM)) (λx g h0 _ er=>.mk x g (h0.bW hM) er) (λx g h0 _ er=>.mk x g (h0.bW hM) er) h
theorem a8F{M:Av}{w:World}{x:bw}{g:Nat→Gh}(h:lZ M w x g):lZ (λb=>M b∨w.heap.size≤b) w x g:=
  lZ.rec (motive_1:=λx g _=>lZ (λb=>M b∨w.heap.size≤b) w x g) (motive_2:=λx g _=>mE (λb=>M b∨w.heap.size≤b) w x g) (motive_3:=λx g _=>mF (λb=>M b∨w.heap.size≤b) w x g) (λx g h0 _ h2 er=>.mk x g h0.fresh er h2.fresh) (λx g h0 _ er=>.mk x g h0.fresh er) (λx g h0 _ er=>.mk x g h0.fresh er) h
theorem a8G{M:Av}{w:World}{x:gE}{g:Nat→Gh}(h:mE M w x g):mE (λb=>M b∨w.heap.size≤b) w x g:=
  mE.rec (motive_1:=λx g _=>lZ (λb=>M b∨w.heap.size≤b) w x g) (motive_2:=λx g _=>mE (λb=>M b∨w.heap.size≤b) w x g) (motive_3:=λx g _=>mF (λb=>M b∨w.heap.size≤b) w x g) (λx g h0 _ h2 er=>.mk x g h0.fresh er h2.fresh) (λx g h0 _ er=>.mk x g h0.fresh er) (λx g h0 _ er=>.mk x g h0.fresh er) h
theorem a8H{M:Av}{w:World}{x:fc}{g:Nat→Gh}(h:mF M w x g):mF (λb=>M b∨w.heap.size≤b) w x g:=
  mF.rec (motive_1:=λx g _=>lZ (λb=>M b∨w.heap.size≤b) w x g) (motive_2:=λx g _=>mE (λb=>M b∨w.heap.size≤b) w x g) (motive_3:=λx g _=>mF (λb=>M b∨w.heap.size≤b) w x g) (λx g h0 _ h2 er=>.mk x g h0.fresh er h2.fresh) (λx g h0 _ er=>.mk x g h0.fresh er) (λx g h0 _ er=>.mk x g h0.fresh er) h
def bG:Ty bw where
  z:=3
  enc:=U4
  bP:=lZ
  len:=λ_ _=>rfl
  one:=λ_ _=>rfl
  kp:=λh k hX=>a8z h k hX
  bW:=λh hM=>a8C h hM
  fresh:=λh=>a8F h
def jJ:Ty gE where
  z:=2
  enc:=a1l
  bP:=mE
  len:=λ_ _=>rfl
  one:=λ_ _=>rfl
  kp:=λh k hX=>a8A h k hX
  bW:=λh hM=>a8D h hM
  fresh:=λh=>a8G h
def ox:Ty fc where
  z:=9
  enc:=U5
  bP:=mF
  len:=λ_ _=>rfl
  one:=λ_ _=>rfl
  kp:=λh k hX=>a8B h k hX
  bW:=λh hM=>a8E h hM
  fresh:=λh=>a8H h
theorem ld{M:Av}{w:World}{x:bw}{g:Nat→Gh}(h:bG.bP M w x g):aM jJ M w x.bn (g 0):=by
  have h:lZ M w x g:=h;cases h with
  |mk _ _ h0 h1 h2=>exact⟨h0,h1⟩
theorem P9{M:Av}{w:World}{x:bw}{g:Nat→Gh}(h:bG.bP M w x g):aM (tI .u8) M w x.gj (g 1):=by
  have h:lZ M w x g:=h;cases h with
  |mk _ _ h0 h1 h2=>exact h2
theorem a1m{M:Av}{w:World}{x:bw}{g:Nat→Gh}(k0:aM jJ M w x.bn (g 0))(k1:aM (tI .u8) M w x.gj (g 1)):bG.bP M w x g:=(lZ.mk x g k0.1 k0.2 k1:lZ M w x g)
theorem rc{M:Av}{w:World}{x:gE}{g:Nat→Gh}(h:jJ.bP M w x g):aM ox M w x.bE (g 0):=by
  have h:mE M w x g:=h;cases h with
  |mk _ _ h0 h1=>exact⟨h0,h1⟩
theorem a1n{M:Av}{w:World}{x:gE}{g:Nat→Gh}(k0:aM ox M w x.bE (g 0)):jJ.bP M w x g:=(mE.mk x g k0.1 k0.2:mE M w x g)
theorem BR{M:Av}{w:World}{x:fc}{g:Nat→Gh}(h:ox.bP M w x g):aM bG M w x.aa (g 0):=by
  have h:mF M w x g:=h;cases h with
  |mk _ _ h0 h1=>exact⟨h0,h1⟩
theorem a8I{M:Av}{w:World}{x:fc}{g:Nat→Gh}(k0:aM bG M w x.aa (g 0)):ox.bP M w x g:=(mF.mk x g k0.1 k0.2:mF M w x g)
structure cC where
  af:Int
  di:a7
  cN:Int
  Unit:a7
  ma:Bool
instance:Inhabited cC:=⟨⟨default,default,default,default,default⟩⟩
def eU:Ty cC where
  z:=5
  enc:=λx g=>[vU x.af,vS x.di,vI x.cN,vS x.Unit,vB x.ma]
  bP:=λ_ _ _ _=>True
  len:=λ_ _=>rfl
  one:=λ_ _=>rfl
  kp:=λ_ _ _=>trivial
  bW:=λ_ _=>trivial
  fresh:=λ_=>trivial
def e7(x:cC):List Value:=eU.enc x (gL [])
inductive aq where
  |mk (aT:cC) (aa:List aq)
def aq.aT:aq→cC
 | .mk x _=>x
def aq.aa:aq→List aq
 | .mk _ x=>x
instance:Inhabited aq:=⟨.mk default default⟩
def U6(x:aq)(g:Nat→Gh):List Value:=[vU x.aT.af,vS x.aT.di,vI x.aT.cN,vS x.aT.Unit,vB x.aT.ma,.slice (g 0).a x.aa.length (g 0).c]
def e3(x:aq)(g:Nat→Gh):List Value:=U6 x g
inductive wm (M:Av) (w:World):aq→(Nat→Gh)→Prop
  |mk (x:aq) (g:Nat→Gh) (h0:pw 6 U6 M w x.aa (g 0)) (h1:∀i (h:i<x.aa.length),wm M w x.aa[i] ((g 0).s i)):wm M w x g
theorem a8J{M:Av}{w w':World}{X:List Nat}{x:aq}{g:Nat→Gh}(h:wm M w x g)(k:Kp X w w')(hX:∀b∈X,M b):wm M w' x g:=by
  induction h with
  |mk x g h0 _h1 er=>exact .mk x g (h0.kp k hX) er
theorem a8K{M M':Av}{w:World}{x:aq}{g:Nat→Gh}(h:wm M w x g)(hM:∀b,M' b→M b):wm M' w x g:=by
  induction h with
  |mk x g h0 _h1 er=>exact .mk x g (h0.bW hM) er
theorem a8L{M:Av}{w:World}{x:aq}{g:Nat→Gh}(h:wm M w x g):wm (λb=>M b∨w.heap.size≤b) w x g:=by
  induction h with
  |mk x g h0 _h1 er=>exact .mk x g h0.fresh er
def ae:Ty aq where
  z:=6
  enc:=U6
  bP:=wm
  len:=λ_ _=>rfl
  one:=λ_ _=>rfl
  kp:=λh k hX=>a8J h k hX
  bW:=λh hM=>a8K h hM
  fresh:=λh=>a8L h
theorem re{M:Av}{w:World}{x:aq}{g:Nat→Gh}(h:ae.bP M w x g):aM ae M w x.aa (g 0):=by
  have h:wm M w x g:=h;cases h with
  |mk _ _ h0 h1=>exact⟨h0,h1⟩
theorem KJ{M:Av}{w:World}{x:aq}{g:Nat→Gh}(k0:aM ae M w x.aa (g 0)):ae.bP M w x g:=(wm.mk x g k0.1 k0.2:wm M w x g)
structure cR where
  bm:a7
  Value:List aq
  jr:Bool
instance:Inhabited cR:=⟨⟨default,default,default⟩⟩
def dA:Ty cR where
  z:=3
  enc:=λx g=>[vS x.bm,.slice (g 0).a x.Value.length (g 0).c,vB x.jr]
  bP:=λM w x g=>aM ae M w x.Value (g 0)∧True
  len:=λ_ _=>rfl
  one:=λ_ _=>rfl
  kp:=λh k hX=>⟨h.1.kp k hX,trivial⟩
  bW:=λh hM=>⟨h.1.bW hM,trivial⟩
  fresh:=λh=>⟨h.1.fresh,trivial⟩
def e8(x:cR)(g:Nat→Gh):List Value:=dA.enc x g
theorem BS{M:Av}{w:World}{x:cR}{g:Nat→Gh}(h:dA.bP M w x g):aM ae M w x.Value (g 0):=(show aM ae M w x.Value (g 0)∧True from h).1
theorem U7{M:Av}{w:World}{x:cR}{g:Nat→Gh}(h0:aM ae M w x.Value (g 0)):dA.bP M w x g:=show aM ae M w x.Value (g 0)∧True from⟨h0,trivial⟩
inductive bq where
  |mk (af:Int) (bm:a7) (cN:Int) (aQ:cR) (aa:List bq)
def bq.af:bq→Int
 | .mk x _ _ _ _=>x
def bq.bm:bq→a7
 | .mk _ x _ _ _=>x
def bq.cN:bq→Int
 | .mk _ _ x _ _=>x
def bq.aQ:bq→cR
 | .mk _ _ _ x _=>x
def bq.aa:bq→List bq
 | .mk _ _ _ _ x=>x
instance:Inhabited bq:=⟨.mk default default default default default⟩
def U8(x:bq)(g:Nat→Gh):List Value:=[vU x.af,vS x.bm,vI x.cN,vS x.aQ.bm,.slice (g 0).a x.aQ.Value.length (g 0).c,vB x.aQ.jr,.slice (g 1).a x.aa.length (g 1).c]
def e4(x:bq)(g:Nat→Gh):List Value:=U8 x g
inductive uF (M:Av) (w:World):bq→(Nat→Gh)→Prop
  |mk (x:bq) (g:Nat→Gh) (h0:aM ae M w x.aQ.Value (g 0)) (h1:pw 7 U8 M w x.aa (g 1)) (h2:∀i (h:i<x.aa.length),uF M w x.aa[i] ((g 1).s i)):uF M w x g
theorem a8M{M:Av}{w w':World}{X:List Nat}{x:bq}{g:Nat→Gh}(h:uF M w x g)(k:Kp X w w')(hX:∀b∈X,M b):uF M w' x g:=by
  induction h with
  |mk x g h0 h1 _h2 Ep=>exact .mk x g (h0.kp k hX) (h1.kp k hX) Ep
theorem a8N{M M':Av}{w:World}{x:bq}{g:Nat→Gh}(h:uF M w x g)(hM:∀b,M' b→M b):uF M' w x g:=by
  induction h with
  |mk x g h0 h1 _h2 Ep=>exact .mk x g (h0.bW hM) (h1.bW hM) Ep
theorem a8O{M:Av}{w:World}{x:bq}{g:Nat→Gh}(h:uF M w x g):uF (λb=>M b∨w.heap.size≤b) w x g:=by
  induction h with
  |mk x g h0 h1 _h2 Ep=>exact .mk x g h0.fresh h1.fresh Ep
def bu:Ty bq where
  z:=7
  enc:=U8
  bP:=uF
  len:=λ_ _=>rfl
  one:=λ_ _=>rfl
  kp:=λh k hX=>a8M h k hX
  bW:=λh hM=>a8N h hM
  fresh:=λh=>a8O h
theorem s7{M:Av}{w:World}{x:bq}{g:Nat→Gh}(h:bu.bP M w x g):aM ae M w x.aQ.Value (g 0):=by
  have h:uF M w x g:=h;cases h with
  |mk _ _ h0 h1 h2=>exact h0
theorem s9{M:Av}{w:World}{x:bq}{g:Nat→Gh}(h:bu.bP M w x g):aM bu M w x.aa (g 1):=by
  have h:uF M w x g:=h;cases h with
  |mk _ _ h0 h1 h2=>exact⟨h1,h2⟩
theorem U9{M:Av}{w:World}{x:bq}{g:Nat→Gh}(k0:aM ae M w x.aQ.Value (g 0))(k1:aM bu M w x.aa (g 1)):bu.bP M w x g:=(uF.mk x g k0 k1.1 k1.2:uF M w x g)
inductive bp where
  |mk (af:Int) (dE:List bw) (cW:List cR) (aS:bq) (bK:List (List a7)) (br:List bp)
def bp.af:bp→Int
 | .mk x _ _ _ _ _=>x
def bp.dE:bp→List bw
 | .mk _ x _ _ _ _=>x
def bp.cW:bp→List cR
 | .mk _ _ x _ _ _=>x
def bp.aS:bp→bq
 | .mk _ _ _ x _ _=>x
def bp.bK:bp→List (List a7)
 | .mk _ _ _ _ x _=>x
def bp.br:bp→List bp
 | .mk _ _ _ _ _ x=>x
instance:Inhabited bp:=⟨.mk default default default default default default⟩
def Ua(x:bp)(g:Nat→Gh):List Value:=[vU x.af,.slice (g 0).a x.dE.length (g 0).c,.slice (g 1).a x.cW.length (g 1).c,vU x.aS.af,vS x.aS.bm,vI x.aS.cN,vS x.aS.aQ.bm,.slice (g 2).a x.aS.aQ.Value.length (g 2).c,vB x.aS.aQ.jr,.slice (g 3).a x.aS.aa.length (g 3).c,.slice (g 4).a x.bK.length (g 4).c,.slice (g 5).a x.br.length (g 5).c]
def e5(x:bp)(g:Nat→Gh):List Value:=Ua x g
inductive qy (M:Av) (w:World):bp→(Nat→Gh)→Prop
  |mk (x:bp) (g:Nat→Gh) (h0:aM bG M w x.dE (g 0)) (h1:aM dA M w x.cW (g 1)) (h2:aM ae M w x.aS.aQ.Value (g 2)) (h3:aM bu M w x.aS.aa (g 3)) (h4:aM (Ty.sl tS) M w x.bK (g 4)) (h5:pw 12 Ua M w x.br (g 5)) (h6:∀i (h:i<x.br.length),qy M w x.br[i] ((g 5).s i)):qy M w x g
theorem a8P{M:Av}{w w':World}{X:List Nat}{x:bp}{g:Nat→Gh}(h:qy M w x g)(k:Kp X w w')(hX:∀b∈X,M b):qy M w' x g:=by
  induction h with
  |mk x g h0 h1 h2 h3 h4 h5 _h6 KK=>exact .mk x g (h0.kp k hX) (h1.kp k hX) (h2.kp k hX) (h3.kp k hX) (h4.kp k hX) (h5.kp k hX) KK
theorem a8Q{M M':Av}{w:World}{x:bp}{g:Nat→Gh}(h:qy M w x g)(hM:∀b,M' b→M b):qy M' w x g:=by
  induction h with
  |mk x g h0 h1 h2 h3 h4 h5 _h6 KK=>exact .mk x g (h0.bW hM) (h1.bW hM) (h2.bW hM) (h3.bW hM) (h4.bW hM) (h5.bW hM) KK
theorem a8R{M:Av}{w:World}{x:bp}{g:Nat→Gh}(h:qy M w x g):qy (λb=>M b∨w.heap.size≤b) w x g:=by
  induction h with
  |mk x g h0 h1 h2 h3 h4 h5 _h6 KK=>exact .mk x g h0.fresh h1.fresh h2.fresh h3.fresh h4.fresh h5.fresh KK
def bJ:Ty bp where
  z:=12
  enc:=Ua
  bP:=qy
  len:=λ_ _=>rfl
  one:=λ_ _=>rfl
  kp:=λh k hX=>a8P h k hX
  bW:=λh hM=>a8Q h hM
  fresh:=λh=>a8R h
theorem Er{M:Av}{w:World}{x:bp}{g:Nat→Gh}(h:bJ.bP M w x g):aM bG M w x.dE (g 0):=by
  have h:qy M w x g:=h;cases h with
  |mk _ _ h0 h1 h2 h3 h4 h5 h6=>exact h0
theorem Ac{M:Av}{w:World}{x:bp}{g:Nat→Gh}(h:bJ.bP M w x g):aM dA M w x.cW (g 1):=by
  have h:qy M w x g:=h;cases h with
  |mk _ _ h0 h1 h2 h3 h4 h5 h6=>exact h1
theorem wo{M:Av}{w:World}{x:bp}{g:Nat→Gh}(h:bJ.bP M w x g):aM ae M w x.aS.aQ.Value (g 2):=by
  have h:qy M w x g:=h;cases h with
  |mk _ _ h0 h1 h2 h3 h4 h5 h6=>exact h2
theorem wq{M:Av}{w:World}{x:bp}{g:Nat→Gh}(h:bJ.bP M w x g):aM bu M w x.aS.aa (g 3):=by
  have h:qy M w x g:=h;cases h with
  |mk _ _ h0 h1 h2 h3 h4 h5 h6=>exact h3
theorem uG{M:Av}{w:World}{x:bp}{g:Nat→Gh}(h:bJ.bP M w x g):aM (Ty.sl tS) M w x.bK (g 4):=by
  have h:qy M w x g:=h;cases h with
  |mk _ _ h0 h1 h2 h3 h4 h5 h6=>exact h4
theorem BT{M:Av}{w:World}{x:bp}{g:Nat→Gh}(h:bJ.bP M w x g):aM bJ M w x.br (g 5):=by
  have h:qy M w x g:=h;cases h with
  |mk _ _ h0 h1 h2 h3 h4 h5 h6=>exact⟨h5,h6⟩
theorem Ub{M:Av}{w:World}{x:bp}{g:Nat→Gh}(k0:aM bG M w x.dE (g 0))(k1:aM dA M w x.cW (g 1))(k2:aM ae M w x.aS.aQ.Value (g 2))(k3:aM bu M w x.aS.aa (g 3))(k4:aM (Ty.sl tS) M w x.bK (g 4))(k5:aM bJ M w x.br (g 5)):bJ.bP M w x g:=(qy.mk x g k0 k1 k2 k3 k4 k5.1 k5.2:qy M w x g)
structure tE where
  br:List bp
instance:Inhabited tE:=⟨⟨default⟩⟩
def Uc:Ty tE where
  z:=1
  enc:=λx g=>[.slice (g 0).a x.br.length (g 0).c]
  bP:=λM w x g=>aM bJ M w x.br (g 0)∧True
  len:=λ_ _=>rfl
  one:=λ_ _=>rfl
  kp:=λh k hX=>⟨h.1.kp k hX,trivial⟩
  bW:=λh hM=>⟨h.1.bW hM,trivial⟩
  fresh:=λh=>⟨h.1.fresh,trivial⟩
theorem a8S{M:Av}{w:World}{x:tE}{g:Nat→Gh}(h:Uc.bP M w x g):aM bJ M w x.br (g 0):=(show aM bJ M w x.br (g 0)∧True from h).1
theorem a8T{M:Av}{w:World}{x:tE}{g:Nat→Gh}(h0:aM bJ M w x.br (g 0)):Uc.bP M w x g:=show aM bJ M w x.br (g 0)∧True from⟨h0,trivial⟩
structure fJ where
  gN:Int
  ed:tE
instance:Inhabited fJ:=⟨⟨default,default⟩⟩
def gr:Ty fJ where
  z:=2
  enc:=λx g=>[vU x.gN,.slice (g 0).a x.ed.br.length (g 0).c]
  bP:=λM w x g=>aM bJ M w x.ed.br (g 0)∧True
  len:=λ_ _=>rfl
  one:=λ_ _=>rfl
  kp:=λh k hX=>⟨h.1.kp k hX,trivial⟩
  bW:=λh hM=>⟨h.1.bW hM,trivial⟩
  fresh:=λh=>⟨h.1.fresh,trivial⟩
theorem Es{M:Av}{w:World}{x:fJ}{g:Nat→Gh}(h:gr.bP M w x g):aM bJ M w x.ed.br (g 0):=(show aM bJ M w x.ed.br (g 0)∧True from h).1
theorem a1o{M:Av}{w:World}{x:fJ}{g:Nat→Gh}(h0:aM bJ M w x.ed.br (g 0)):gr.bP M w x g:=show aM bJ M w x.ed.br (g 0)∧True from⟨h0,trivial⟩
structure js where
  cY:Int
instance:Inhabited js:=⟨⟨default⟩⟩
def a1p:Ty js where
  z:=1
  enc:=λx g=>[vI x.cY]
  bP:=λ_ _ _ _=>True
  len:=λ_ _=>rfl
  one:=λ_ _=>rfl
  kp:=λ_ _ _=>trivial
  bW:=λ_ _=>trivial
  fresh:=λ_=>trivial
def Ud(m:Nat)(s:a7):Nat→a7→Int→Option a7
 |0,_,_=>none
 |kk+1,v8,v9=>cond (decide (v9<ln s)) (Option.bind (az (0≤v9∧v9<ln s)<|lt (cond (bU s v9==10) (decide (0<v9)) false) λsa=>az (sa=true→0≤J (v9-1)∧J (v9-1)<ln s)<|lt (cond sa (bU s (J (v9-1))==13) false) λmc=>cond mc (some v8) (lt (cond (bU s v9==13) true (bU s v9==12)) λme=>cond me (none) (cond (bU s v9==0) (none) (az (ln v8+ln (iL ([bU s v9]:List Int))≤9223372036854775807)<|some (v8++(iL ([bU s v9]:List Int))))))) λ(z12:a7)=>Ud m s kk z12 (J (v9+1))) (some v8)
def Ue(m:Nat)(s:a7):Option a7:=Option.bind (Ud m s m [] 0) λ(z5:a7)=>some z5
theorem a8U(m)(s)(r)(hm:Ue m s=some r):Rt 175 [vS s] (vS r):=by
 rw[Ue]at hm;refine dy (call175 _) func175 ntmps175 λM X w=>?_;refine uO [] (uA 3 vN [] ?_);obtain⟨z5,hz,hm⟩:=a8 hm;refine uK [0] [3] [vS z5] [] ?_ ?_;refine uA 4 (vI 0) [] (aC (jd [] [3,4] (λv8 v9=>[vS v8,vI v9]) (λ_ _=>[]) hz (λkk v8 v9 hm=>?_)));rw[Ud]at hm;refine ah (uI [] hm ?_ ?_);refine λhm=>ag ?_;obtain⟨z12,hz,hm⟩:=a8 hm;refine uK [] [3] [vS z12] [] ?_ ?_;refine aC ?_;obtain⟨bX,hm⟩:=bY hz;refine uA 5 (vU (bU s v9)) [kh bX] (ah ?_);obtain⟨sa,Et,dR,hm⟩:=kO hm;obtain⟨mc,xy,hm⟩:=bc hm;refine uI [p8 (gT sa) λhg=>dR hg.1] hm ?_ ?_ (he:=by subst Et xy;kernel_rfl);refine λhm=>bl ?_;cases hm;exact te;refine λhm=>ag (ah ?_);obtain⟨me,Eu,hm⟩:=bc hm;refine gZ [] hm (λhm=>ag (gZ [] hm (λhm=>dC (uB 2 [3,5] [0,4,40,41] [vS s,vI v9,vS v8,vU (bU s v9)] [] (uM [] [] [41] (oL (tI .u8) 5 (vU 0) [bU s v9] [gL []] (λ_=>ba.cons trivial ba.nil) rfl) λrf=>?_))))) (he:=by subst Eu;kernel_rfl);obtain⟨Ev,hm⟩:=bY hm;intro _ _ Ad hS;refine SV 3 6 [vS (iL ([bU s v9]:List Int))] [0,3,4] (fS [0,3,4] [vS s,vS (v8++(iL ([bU s v9]:List Int))),vI v9]) [λwz=>∀w',Below wz.heap.size wz w'→(convert 115 9 (vK rf 1)).run prog w'=.ok (vS (iL ([bU s v9]:List Int))) w',λ_=>ln v8+ln (iL ([bU s v9]:List Int))≤9223372036854775807] Ad (by decide) (by kernel_rfl) ⟨Tb (E:=5) (by kernel_rfl) (by kernel_rfl) (by kernel_rfl) (hS.bD 0 rfl),Ev,trivial⟩ λ_ _ j3 hb=>?_;replace hS:=hS.below hb;refine aG j3 hS (ay (ai [] ?_));cases hm;exact te;exact jI [] hm;refine λhm=>bl ?_;cases hm;exact te;cases hm;exact uZ [] []

def Uf(m:Nat)(s:a7):Option (a7×Int):=cond (decide (4000<ln s)) (none) (Option.bind (Ue m s) λy5=>some (y5,0))
theorem a8V(m)(s)(r)(hm:Uf m s=some r):Rt 126 [vS s] (vW [vS r.1,vI r.2]):=by
 rw[Uf]at hm;refine dy (call126 _) func126 ntmps126 λM X w=>?_;refine uO [] (ah (gZ [] hm (λhm=>ag ?_)));obtain⟨y5,j4,hm⟩:=a8 hm;cases hm;exact uY [] [kc (a8U m _ _ j4)]

def KL(s:a7)(i:Int)(x_:a7):Option Bool:=az (decide (ln x_≤J (ln s-i))=true→0≤i∧i≤J (i+ln x_)∧J (i+ln x_)≤ln s)<|lt (cond (decide (ln x_≤J (ln s-i))) (sub s i (J (i+ln x_))==x_) false) λx4=>some x4
theorem Ug(s)(i)(x_)(r)(hm:KL s i x_=some r):Rt 217 [vS s,vI i,vS x_] (vB r):=by
 rw[KL]at hm;refine dy (call217 _) func217 ntmps217 λM X w=>?_;refine uO [] ?_;obtain⟨mf,x4,nb,hm⟩:=cE hm;refine uR [0,1,2] [6] [vB x4] [p8 (gT (decide (ln x_≤J (ln s-i)))) λhg=>mf hg.1] (aL ?_) (he:=by subst nb;kernel_rfl);cases hm;exact bf [] bo

def a1q(m:Nat)(s:a7):Nat→Int→Option Int
 |0,_=>none
 |kk+1,v4=>Option.bind (KL s v4 [47,42]) λy5=>cond y5 (none) (some v4)
def Pa(m:Nat)(s:a7)(i:Int):Option Int:=Option.bind (a1q m s m i) λ(z3:Int)=>some z3
theorem a1r(m)(s)(i)(r)(hm:Pa m s i=some r):Rt 176 [vS s,vI i] (vI r):=by
 rw[Pa]at hm;refine dy (call176 _) func176 ntmps176 λM X w=>?_;refine uO [] ?_;obtain⟨z3,hz,hm⟩:=a8 hm;refine uK [0] [1] [vI z3] [] ?_ ?_;refine aC (eX [] [1] (λv4=>[vI v4]) (λ_=>[]) hz (λkk v4 hm=>?_));rw[a1q]at hm;refine ah ?_;obtain⟨y5,j4,hm⟩:=a8 hm;refine uI [kc (Ug _ _ _ _ j4)] hm ?_ ?_;refine λhm=>ag (aC ?_);intro _ _ H7 hS;exact cD hm;refine λhm=>bl ?_;cases hm;exact te;cases hm;exact uZ [] []

def KM(c_:Int):Bool:=lt (cond (cond (c_==10) true (c_==9)) true (c_==32)) λx3=>x3
theorem a1s(c_:Int):Rt 218 [vU c_] (vB (KM c_)):=by
 generalize hm:KM c_=r;rw[KM]at hm;refine dy (call218 _) func218 ntmps218 λM X w=>?_;refine uO [] ?_;obtain⟨x3,iT,hm⟩:=bc hm;refine uR [0] [2] [vB x3] [] (aL ?_) (he:=by subst iT;kernel_rfl);subst hm;exact bf [] bo

def xz(s:a7)(i:Int):Option Int:=cond (decide (i<ln s)) (az (0≤i∧i<ln s)<|some (bU s i)) (none)
theorem Ae(s)(i)(r)(hm:xz s i=some r):Rt 262 [vS s,vI i] (vU r):=by
 rw[xz]at hm;refine dy (call262 _) func262 ntmps262 λM X w=>?_;refine uO [] (ah (uI [] hm ?_ ?_));intro hm;obtain⟨Ew,hm⟩:=bY hm;cases hm;exact uZ [] [kh Ew];refine λhm=>ag ?_;intro _ _ H4 hS;exact cD hm

def Uh(m:Nat)(s:a7):Nat→Int→Option Int
 |0,_=>none
 |kk+1,v4=>Option.bind (xz s v4) λy5=>cond (KM y5) (Uh m s kk (J (v4+1))) (some v4)
def Ui(m:Nat)(s:a7)(i:Int):Option Int:=Option.bind (Uh m s m i) λ(z3:Int)=>some z3
theorem a8W(m)(s)(i)(r)(hm:Ui m s i=some r):Rt 219 [vS s,vI i] (vI r):=by
 rw[Ui]at hm;refine dy (call219 _) func219 ntmps219 λM X w=>?_;refine uO [] ?_;obtain⟨z3,hz,hm⟩:=a8 hm;refine uK [0] [1] [vI z3] [] ?_ ?_;refine aC (eX [] [1] (λv4=>[vI v4]) (λ_=>[]) hz (λkk v4 hm=>?_));rw[Uh]at hm;refine ah ?_;obtain⟨y5,j4,hm⟩:=a8 hm;refine uI [kc (Ae _ _ _ j4),kc (a1s y5)] hm ?_ ?_;intro hm;exact ag (aC (fQ [] hm));refine λhm=>bl ?_;cases hm;exact te;cases hm;exact uZ [] []

def Pb(c_:Int):Option Int:=lt (cond (decide (65≤c_)) (decide (c_≤90)) false) λx3=>cond x3 (none) (some c_)
theorem a1t(c_)(r)(hm:Pb c_=some r):Rt 232 [vU c_] (vU r):=by
 rw[Pb]at hm;refine dy (call232 _) func232 ntmps232 λM X w=>?_;refine uO [] (ah ?_);obtain⟨x3,iT,hm⟩:=bc hm;refine gZ [] hm (λhm=>ag ?_) (he:=by subst iT;kernel_rfl);cases hm;exact uZ [] []

def Pc(c_:Int):Option Bool:=Option.bind (Pb c_) λy3=>lt (cond (decide (97≤y3)) (decide (y3≤122)) false) λx6=>lt (cond (cond x6 true (c_==95)) true (decide (128≤c_))) λx7=>some x7
theorem a1u(c_)(r)(hm:Pc c_=some r):Rt 264 [vU c_] (vB r):=by
 rw[Pc]at hm;refine dy (call264 _) func264 ntmps264 λM X w=>?_;refine uO [] ?_;obtain⟨y3,cq,hm⟩:=a8 hm;refine uA 3 (vU y3) [kc (a1t _ _ cq)] ?_;obtain⟨x6,pB,x7,xA,hm⟩:=eL hm;refine uR [0,3] [2] [vB x7] [] (aL ?_) (he:=by subst pB xA;kernel_rfl);cases hm;exact bf [] bo

def KN(c_:Int):Bool:=lt (cond (decide (48≤c_)) (decide (c_≤57)) false) λx3=>x3
theorem a1v(c_:Int):Rt 265 [vU c_] (vB (KN c_)):=by
 generalize hm:KN c_=r;rw[KN]at hm;refine dy (call265 _) func265 ntmps265 λM X w=>?_;refine uO [] ?_;obtain⟨x3,iT,hm⟩:=bc hm;refine uR [0] [2] [vB x3] [] (aL ?_) (he:=by subst iT;kernel_rfl);subst hm;exact bf [] bo

def Pd(c_:Int):Option Bool:=Option.bind (Pc c_) λy3=>lt (cond (cond y3 true (KN c_)) true (c_==45)) λx4=>some x4
theorem a1w(c_)(r)(hm:Pd c_=some r):Rt 221 [vU c_] (vB r):=by
 rw[Pd]at hm;refine dy (call221 _) func221 ntmps221 λM X w=>?_;refine uO [] ?_;obtain⟨y3,cq,x4,nb,hm⟩:=jq hm;refine uR [0] [2] [vB x4] [kc (a1u _ _ cq),gg (gF y3) λhg=>a1v c_] (aL ?_) (he:=by subst nb;kernel_rfl);cases hm;exact bf [] bo

def KO(s:a7)(i:Int):Option Bool:=Option.bind (xz s i) λy3=>Option.bind (cond (y3==92) (xz s (J (i+1))) (some default)) λy4=>some (cond (y3==92) (y4 !=10) false)
theorem Uj(s)(i)(r)(hm:KO s i=some r):Rt 222 [vS s,vI i] (vB r):=by
 rw[KO]at hm;refine dy (call222 _) func222 ntmps222 λM X w=>?_;refine uO [] ?_;obtain⟨y3,cq,y4,rh,hm⟩:=pA hm;cases hm;exact uZ [] [kc (Ae _ _ _ cq),gg (gT (y3==92)) λhg=>Ae _ _ _ (bT (hg.1) rh)]

def Uk(s:a7)(i:Int):Option Bool:=Option.bind (xz s i) λy3=>cond (cond (y3==43) true (y3==45)) (none) (Option.bind (xz s i) λy8=>cond (y8==46) (none) (Option.bind (xz s i) λmG=>some (KN mG)))
theorem a8X(s)(i)(r)(hm:Uk s i=some r):Rt 225 [vS s,vI i] (vB r):=by
 rw[Uk]at hm;refine dy (call225 _) func225 ntmps225 λM X w=>?_;refine uO [] (ah ?_);obtain⟨y3,cq,hm⟩:=a8 hm;refine uA 5 (vU y3) [kc (Ae _ _ _ cq)] (uz [5] [] hm (λhm=>ag (ah ?_)));obtain⟨y8,lg,hm⟩:=a8 hm;refine gZ [kc (Ae _ _ _ lg)] hm (λhm=>ag ?_);obtain⟨mG,Ex,hm⟩:=a8 hm;cases hm;exact uZ [] [kc (Ae _ _ _ Ex),kc (a1v mG)]

def Pg(s:a7)(i:Int):Option Bool:=Option.bind (xz s i) λy3=>cond (y3==45) (none) (Option.bind (xz s i) λy6=>Option.bind (Pc y6) λy7=>Option.bind (cond y7 (some default) (KO s i)) λy8=>some (cond y7 true y8))
theorem a1x(s)(i)(r)(hm:Pg s i=some r):Rt 224 [vS s,vI i] (vB r):=by
 rw[Pg]at hm;refine dy (call224 _) func224 ntmps224 λM X w=>?_;refine uO [] (ah ?_);obtain⟨y3,cq,hm⟩:=a8 hm;refine gZ [kc (Ae _ _ _ cq)] hm (λhm=>ag ?_);obtain⟨y6,gO,y7,sb,hm⟩:=pA hm;obtain⟨y8,lg,hm⟩:=a8 hm;cases hm;exact uZ [] [kc (Ae _ _ _ gO),kc (a1u _ _ sb),gg (gF y7) λhg=>Uj _ _ _ (bF (hg.1) lg)]

def Ul(m:Nat)(s:a7):Nat→Int→a7→Option (a7×Int)
 |0,_,_=>none
 |kk+1,v5,v6=>az (decide (v5<ln s)=true→0≤v5∧v5<ln s)<|Option.bind (cond (decide (v5<ln s)) (Pd (bU s v5)) (some default)) λy8=>cond (cond (decide (v5<ln s)) y8 false) (az (0≤v5∧v5≤J (v5+1)∧J (v5+1)≤ln s)<|az (ln v6+ln (sub s v5 (J (v5+1)))≤9223372036854775807)<|Ul m s kk (J (v5+1)) (v6++(sub s v5 (J (v5+1))))) (Option.bind (cond (decide (v5<ln s)) (KO s v5) (some default)) λfR=>cond (cond (decide (v5<ln s)) fR false) (none) (some (v6,v5)))
def Ph(m:Nat)(s:a7)(i:Int):Option (a7×Int):=Ul m s m i []
theorem a1y(m)(s)(i)(r)(hm:Ph m s i=some r):Rt 223 [vS s,vI i] (vW [vS r.1,vI r.2]):=by
 rw[Ph]at hm;refine dy (call223 _) func223 ntmps223 λM X w=>?_;refine uO [] (uA 6 vN [] (aC (jd [] [1,6] (λv5 v6=>[vI v5,vS v6]) (λ_ _=>[]) hm (λkk v5 v6 hm=>?_))));rw[Ul]at hm;refine aC ?_;obtain⟨Ey,y8,lg,hm⟩:=kP hm;refine uI [p8 (gT (decide (v5<ln s))) λhg=>Ey hg.1,gg (gT (decide (v5<ln s))) λhg=>a1w _ _ (bT (hg.1) lg)] hm ?_ ?_;intro hm;obtain⟨eA,nc,hm⟩:=eS hm;exact uA 6 (vS (v6++(sub s v5 (J (v5+1))))) [kh eA,kh nc] (jI [] hm);intro hm;obtain⟨fR,qz,hm⟩:=a8 hm;refine gZ [gg (gT (decide (v5<ln s))) λhg=>Uj _ _ _ (bT (hg.1) qz)] hm ?_;intro hm;cases hm;exact uY [] []

def Um(m:Nat)(s:a7)(i:Int):Option (cC×Int):=Option.bind (Ph m s i) λy6=>Option.bind (xz s y6.2) λy9=>cond (y9 !=40) (some (cC.mk 1 y6.1 0 [] false,y6.2)) (none)
theorem a8Y(m)(s)(i)(r)(hm:Um m s i=some r):Rt 227 [vS s,vI i] (.tuple ⟨[.agg ⟨e7 r.1⟩,vI r.2]⟩):=by
 rw[Um]at hm;refine dy (call227 _) func227 ntmps227 λM X w=>(aF ?_);refine uM [] [] [] (oA [vU 0,vN,vI 0,vN,vF]) λb1=>uP 2 [] (ay ?_);obtain⟨y6,gO,hm⟩:=a8 hm;refine uR [1] [6,7] [vS y6.1,vI y6.2] [kc (a1y m _ _ _ gO)] (ah ?_);obtain⟨y9,oy,hm⟩:=a8 hm;refine uI [kc (Ae _ _ _ oy)] hm ?_ ?_;refine λhm=>aF (uB 3 [0,6,7] [20,21] [vG [vU 1,vS y6.1,vI 0,vN,vF],vI y6.2] [] (uL [0] [] [20] (oS [vU 1,vS y6.1,vI 0,vN,vF] rfl rfl) (uB 5 [21] [5] [vI y6.2] [] (ay (aL ?_)))));cases hm;exact bf [] (mA 0 underlying169);refine λhm=>ag (ah ?_);intro _ _ lM hS;exact cD hm

def Pj(c_:Int):Option Int:=cond (c_==58) (none) (cond (c_==59) (some 17) (cond (c_==44) (some 18) (cond (c_==91) (none) (cond (c_==93) (none) (cond (c_==40) (none) (cond (c_==41) (none) (cond (c_==123) (some 23) (cond (c_==125) (some 24) (none)))))))))
theorem a1z(c_)(r)(hm:Pj c_=some r):Rt 228 [vU c_] (vU r):=by
 rw[Pj]at hm;refine dy (call228 _) func228 ntmps228 λM X w=>?_;refine uO [] (ah (uR [0] [3] [vU c_] [] (aC (gZ [] hm (λhm=>uI [] hm ?_ ?_)))));intro hm;cases hm;exact uZ [] [];refine λhm=>uI [] hm ?_ ?_;intro hm;cases hm;exact uZ [] [];refine λhm=>gZ [] hm (λhm=>gZ [] hm (λhm=>gZ [] hm (λhm=>gZ [] hm (λhm=>uI [] hm ?_ ?_))));intro hm;cases hm;exact uZ [] [];refine λhm=>uJ [3] [] hm ?_ ?_;intro hm;cases hm;exact uZ [] [];refine λhm=>ag ?_;intro _ _ li hS;exact cD hm

def Un(m:Nat)(s:a7)(i:Int):Option (cC×Int):=az (0≤i∧i<ln s)<|cond (KM (bU s i)) (Option.bind (Ui m s i) λmG=>some (cC.mk 13 [] 0 [] false,mG)) (lt (cond (bU s i==34) true (bU s i==39)) λmc=>cond mc (none) (az (decide (J (i+1)<ln s)=true→(bU s i==35)=true→0≤J (i+1)∧J (i+1)<ln s)<|Option.bind (cond (bU s i==35) (cond (decide (J (i+1)<ln s)) (Pd (bU s (J (i+1)))) (some default)) (some default)) λib=>Option.bind (cond (bU s i==35) (cond (cond (decide (J (i+1)<ln s)) ib false) (some default) (KO s (J (i+1)))) (some default)) λsc=>lt (cond (bU s i==35) (cond (cond (decide (J (i+1)<ln s)) ib false) true sc) false) λjt=>cond jt (none) (Option.bind (Uk s i) λju=>cond ju (none) (Option.bind (KL s i [45,45,62]) λjv=>cond jv (none) (Option.bind (KL s i [60,33,45,45]) λbV=>cond bV (none) (Option.bind (cond (bU s i==64) (Pg s (J (i+1))) (some default)) λri=>cond (cond (bU s i==64) ri false) (Option.bind (Ph m s (J (i+1))) λlN=>some (cC.mk 3 lN.1 0 [] false,lN.2)) (Option.bind (Pg s i) λjw=>cond jw (Option.bind (Um m s i) λsd=>some (sd.1,sd.2)) (Option.bind (Pj (bU s i)) λBU=>cond (BU !=0) (Option.bind (Pj (bU s i)) λPl=>some (cC.mk Pl [] 0 [] false,J (i+1))) (none)))))))))
theorem a8Z(m)(s)(i)(r)(hm:Un m s i=some r):Rt 177 [vS s,vI i] (.tuple ⟨[.agg ⟨e7 r.1⟩,vI r.2]⟩):=by
 rw[Un]at hm;refine dy (call177 _) func177 ntmps177 λM X w=>(aF ?_);refine uM [] [] [] (oA [vU 0,vN,vI 0,vN,vF]) λb1=>uP 2 [] (ay ?_);obtain⟨sf,hm⟩:=bY hm;refine uA 6 (vU (bU s i)) [kh sf] (ah (aC (uI [kc (a1s (bU s i))] hm ?_ ?_)));refine λhm=>aF ?_;obtain⟨mG,Ex,hm⟩:=a8 hm;refine uB 4 [0,1,6] [17,20] [vG [vU 13,vN,vI 0,vN,vF],vI mG] [kc (a8W m _ _ _ Ex)] (uL [0] [] [17] (oS [vU 13,vN,vI 0,vN,vF] rfl rfl) (uB 6 [20] [5] [vI mG] [] (ay (aL ?_))));cases hm;exact bf [] (mA 0 underlying169);intro hm;obtain⟨mc,xy,hm⟩:=bc hm;refine gZ [] hm ?_ (he:=by subst xy;kernel_rfl);intro hm;obtain⟨kQ,ib,xB,hm⟩:=kP hm;obtain⟨sc,KP,jt,uH,hm⟩:=jq hm;refine gZ [p8 (decide (J (i+1)<ln s)=true∧(bU s i==35)=true∧True) λhg=>kQ hg.1 hg.2.1,gg (decide (J (i+1)<ln s)=true∧(bU s i==35)=true∧True) λhg=>a1w _ _ (bT (hg.1) (bT (hg.2.1) xB)),gg (cond (decide (J (i+1)<ln s)) ib false=false∧(bU s i==35)=true∧True) λhg=>Uj _ _ _ (bF (hg.1) (bT (hg.2.1) KP))] hm ?_ (he:=by subst uH;kernel_rfl);intro hm;obtain⟨ju,xC,hm⟩:=a8 hm;refine gZ [kc (a8X _ _ _ xC)] hm ?_;intro hm;obtain⟨jv,Ez,hm⟩:=a8 hm;refine gZ [kc (Ug _ _ _ _ Ez)] hm ?_;intro hm;obtain⟨bV,EA,hm⟩:=a8 hm;refine gZ [kc (Ug _ _ _ _ EA)] hm ?_;intro hm;obtain⟨ri,EB,hm⟩:=a8 hm;refine uI [gg (gT (bU s i==64)) λhg=>a1x _ _ _ (bT (hg.1) EB)] hm ?_ ?_;intro hm;obtain⟨lN,Po,hm⟩:=a8 hm;refine uR [0,1,6] [9,10] [vS lN.1,vI lN.2] [kc (a1y m _ _ _ Po)] (aF (uB 3 [9,10] [110,111] [vG [vU 3,vS lN.1,vI 0,vN,vF],vI lN.2] [] (uL [0] [] [110] (oS [vU 3,vS lN.1,vI 0,vN,vF] rfl rfl) (uB 5 [111] [5] [vI lN.2] [] (ay (aL ?_))))));cases hm;exact bf [] (mA 0 underlying169);intro hm;obtain⟨jw,EC,hm⟩:=a8 hm;refine uI [kc (a1x _ _ _ EC)] hm ?_ ?_;refine λhm=>aF ?_;obtain⟨sd,Uo,hm⟩:=a8 hm;refine uB 5 [0,1,6] [119,120] [.agg ⟨e7 sd.1⟩,vI sd.2] [kc (a8Y m _ _ _ Uo)] (uL [0] [] [119] (oS (e7 sd.1) rfl rfl) (uB 7 [120] [5] [vI sd.2] [] (ay (aL ?_))));cases hm;exact bf [] (mA 0 underlying169);intro hm;obtain⟨BU,Up,hm⟩:=a8 hm;refine uI [kc (a1z _ _ Up)] hm ?_ ?_;refine λhm=>aF ?_;obtain⟨Pl,a90,hm⟩:=a8 hm;refine uB 5 [0,1,6] [127,129] [vG [vU Pl,vN,vI 0,vN,vF],vI (J (i+1))] [kc (a1z _ _ a90)] (uL [0] [] [127] (oS [vU Pl,vN,vI 0,vN,vF] rfl rfl) (uB 7 [129] [5] [vI (J (i+1))] [] (ay (aL ?_))));cases hm;exact bf [] (mA 0 underlying169);refine λhm=>ag ?_;intro _ _ xD hS;exact cD hm

structure tF where
  e0:Int
  e1:Int
instance:Inhabited tF:=⟨⟨default,default⟩⟩
def Hu:Ty tF where
  z:=2
  enc:=λx g=>[vI x.e0,vI x.e1]
  bP:=λ_ _ _ _=>True
  len:=λ_ _=>rfl
  one:=λ_ _=>rfl
  kp:=λ_ _ _=>trivial
  bW:=λ_ _=>trivial
  fresh:=λ_=>trivial
def Pp(m:Nat)(s:a7):Nat→List cC→List tF→Int→Option ((List cC)×(List tF))
 |0,_,_,_=>none
 |kk+1,fK,aX,cg=>cond (decide (cg<ln s)) (Option.bind (Un m s cg) λfL=>az (ln fK+ln ([fL.1]:List cC)≤137438953472)<|lt (fK++([fL.1]:List cC)) λKQ=>az (ln aX+ln ([tF.mk cg fL.2]:List tF)≤137438953472)<|lt (aX++([tF.mk cg fL.2]:List tF)) λmg=>Option.bind (Pa m s fL.2) λmH=>Pp m s kk KQ mg mH) (some (fK,aX))
def Uq(m:Nat)(s:a7):Option ((List cC)×(List tF)):=Option.bind (Option.bind (Pa m s 0) λy8=>Pp m s m ([]:List cC) ([]:List tF) y8) λ(z7:(List cC)×(List tF))=>some (z7.1,z7.2)
theorem a92(m)(s)(r)(hm:Uq m s=some r)(M:Av)(w:World)(hS:S0 M [] w):eJ prog 127 ⟨[vS s]⟩ w (λv w'=>∃(aI:Gh)(jx:Gh),v=vW [vL aI r.1,vL jx r.2]∧SH M (aD []) w [eO 169 eU r.1 aI,eO 267 Hu r.2 jx] w'):=⟨call127 _,by
 rw[Uq]at hm;unfold S0 at hS;generalize aD []=X at hS⊢;refine dQ func127 rfl ntmps127 rfl λ_ H=>aG H hS (cy [0] [vS s] [] (uA 4 vO [] (uA 5 vO [] ?_)));obtain⟨z7,hz,hm⟩:=a8 hm;intro _ _ H6 hS;refine eR (λa' w'=>∃(qA:Gh)(pV:Gh),Fr 36 (fS [4,5] [vL qA z7.1,vL pV z7.2]) a'∧SH M X w [eO 169 eU z7.1 qA,eO 267 Hu z7.2 pV] w') ?_ ?_;obtain⟨y8,lg,hm⟩:=a8 hz;refine aG H6 hS (uA 6 (vI y8) [kc (a1r m _ _ _ lg)] (aC (da 169 eU (da 267 Hu ?_))));intro _ _ wu hS;refine gb (λkk a' w'=>∃(fK:List cC)(aX:List tF)(cg:Int)(g14:Gh)(g16:Gh),Pp m s kk fK aX cg=some _∧Fr 36 (fS [0,4,5,6] [vS s,vL g14 fK,vL g16 aX,vI cg]) a'∧SH M X w [eO 267 Hu aX g16,eO 169 eU fK g14] w') ⟨_,([]:List cC),([]:List tF),y8,Gh.nil,Gh.nil,hm,aj.aK (ks:=[0,4,5,6]) wu (by kernel_rfl),hS⟩ ?_;clear hm wu hS;rintro kk _ _ ⟨fK,aX,cg,g14,g16,hm,H,hS⟩;cases kk with
 |zero=>exact cD hm
 |succ kk=>
  rw[Pp]at hm;refine aG H hS (ah (uI [] hm ?_ ?_));refine λhm=>ag (aC (aF ?_));obtain⟨fL,uT,hm⟩:=a8 hm;refine uB 6 [] [19,20] [.agg ⟨e7 fL.1⟩,vI fL.2] [kc (a8Z m _ _ _ uT)] (uM [] [0,1] [] (oA [vU 0,vN,vI 0,vN,vF]) λPq=>uL [0] [1,2] [19] (oS (e7 fL.1) rfl rfl) (uB 9 [20] [8] [vI fL.2] [] (ay (aF (uB 2 [4,7] [21,22] [vL g14 fK,.agg ⟨e7 fL.1⟩] [kE 0 5] (uM [] [0,1,2] [22] (oL eU 169 (vG [vU 0,vN,vI 0,vN,vF]) [fL.1] [gL []] (λ_=>ba.cons trivial ba.nil) rfl) λeG=>?_))))));obtain⟨sg,KQ,a94,hm⟩:=cE hm;refine fb [3,0] [1,2] [0,5,6,8] [vS s,vL g16 aX,vI cg,vI fL.2] (oP eU (vG [vU 0,vN,vI 0,vN,vF]) g14 eG a94 sg rfl rfl) λpc=>uB 8 [5,6] [24,25,28] [vL pc KQ,vL g16 aX,vG [vI cg,vI fL.2]] [] (uM [] [0,1,2,3] [28] (oL Hu 267 (vG [vI 0,vI 0]) [tF.mk cg fL.2] [gL []] (λ_=>ba.cons trivial ba.nil) rfl) λED=>?_);obtain⟨KR,mg,EE,hm⟩:=cE hm;refine uM [4,0] [1,2,3] [25,29] (oP Hu (vG [vI 0,vI 0]) g16 ED EE KR rfl rfl) λBV=>uB 12 [24,30] [4,5] [vL pc KQ,vL BV mg] [] (ay (ai [0,2] ?_));obtain⟨mH,EF,hm⟩:=a8 hm;exact uW [8] [6] [vI mH] [kc (a1r m _ _ _ EF)] (λ_ _ wv hS=>⟨_,Nat.lt_succ_self _,KQ,mg,mH,pc,BV,hm,aj.aK (ks:=[0,4,5,6]) wv (by kernel_rfl),hS⟩);refine λhm=>bl ?_;cases hm;exact ai [1,0] (λ_ _ KS hS=>⟨g14,g16,aj.aK (ks:=[4,5]) KS (by kernel_rfl),hS⟩)
 rintro _ _ ⟨qA,pV,H,hS⟩;refine aG H hS (cy [2,3] [vL qA z7.1,vL pV z7.2] [] (aL ?_));cases hm;exact λ_ _ sj hS=>qt sj rfl rfl rfl ⟨_,rfl,qA,pV,rfl,hS.aV [0,1] rfl⟩⟩

def Ur(m:Nat)(s:a7):Option ((List cC)×Int):=Option.bind (Uf m s) λy3=>cond (y3.2 !=0) (none) (Option.bind (Uq m y3.1) λcF=>cond (decide (1500<ln cF.1)) (none) (some (cF.1,0)))
theorem a95(m)(s)(r)(hm:Ur m s=some r):Dm 86 [vS s] [] (λ(aI:Gh)=>vW [vL aI r.1,vI r.2]) (λaI=>[eO 169 eU r.1 aI]):=by
 rw[Ur]at hm;refine gY (call86 _) func86 ntmps86 λM X w=>?_;refine uO [] ?_;obtain⟨y3,cq,hm⟩:=a8 hm;refine uR [0] [4,5] [vS y3.1,vI y3.2] [kc (a8V m _ _ cq)] (ah (gZ [] hm (λhm=>ag (aF (uB 1 [4,5] [17] [vS y3.1] [] ?_)))));obtain⟨cF,lj,hm⟩:=a8 hm;intro _ _ H9 hS;have hd:=hS.hand [] [] rfl rfl;refine eZ [18] [] H9 rfl rfl rfl rfl (df H9 rfl rfl (a92 m _ _ lj _ _ hd)) (λ_=>rfl) λ_ _ v oz hq=>?_;obtain⟨g11,g13,rfl,hq⟩:=hq;replace hS:=hS.join [] [] rfl rfl hq;refine aG oz hS (gh 7 [6] [vL g11 cF.1] [] (ay (ai [0] (ah (gZ [] hm (λhm=>ag (uR [6] [2,3] [vL g11 cF.1,vI 0] [] (aL ?_))))))));cases hm;exact dm g11 [0] fk

def qB(cJ:Int):Int:=cond (cJ==19) (20) (lt (cond (cJ==21) (cJ==21) (cJ==2)) λ(z9:Bool)=>cond z9 (22) (cond (cJ==23) (24) (0)))
theorem Us(cJ:Int):Rt 91 [vU cJ] (vU (qB cJ)):=by
 generalize hm:qB cJ=r;rw[qB]at hm;refine dy (call91 _) func91 ntmps91 λM X w=>?_;refine uO [] (ah (uR [0] [3] [vU cJ] [] (aC (uA 4 (vB (cJ==19)) [] (uC hm ?_ ?_)))));refine λhm=>uR [3,4] [2] [vU 20] [] (aL ?_);subst hm;exact bf [] bo;intro hm;obtain⟨z9,hz,hm⟩:=bc hm;refine uK [4] [6] [vB z9] [] ?_ ?_;replace hm:=hz.symm;refine uR [4] [6] [vB (cJ==21)] [] (uC hm ?_ ?_);refine λhm=>ag ?_;subst hm;exact te;refine λhm=>uV 6 (vB (cJ==2)) [] ?_;subst hm;exact te;refine rX (λhc=>?c24) (λhc=>?_)
 case c24=>
  replace hm:=bT hc hm;refine uR [3,6] [2] [vU 22] [] (aL ?_);subst hm;exact bf [] bo
 replace hm:=bF hc hm;refine uJ [3,6] [] hm ?_ ?_;refine λhm=>uA 2 (vU 24) [] (aL ?_);subst hm;exact bf [] bo;refine λhm=>ag (uA 2 (vU 0) [] (aL ?_));subst hm;exact bf [] bo

def a96(dW:(List cC)→Int→Int→Int→Option ((List aq)×Int)):Prop:=∀(a6:Gh)(M:Av)(l_:List cC)(i:Int)(nK:Int)(left:Int)(r:(List aq)×Int),dW l_ i nK left=some r→∀w,S0 M [eI eU l_ a6] w→Calls prog 178 ⟨[vL a6 l_,vI i,vU nK,vI left]⟩ w (λe w'=>∃v,e=.returned v∧∃(aI:Gh),v=vW [vL aI r.1,vI r.2]∧SH M (aD [eI eU l_ a6]) w [eO 171 ae r.1 aI] w')
def Ut(m:Nat)(l_:List cC)(nK:Int)(left:Int)(a1A:(List cC)→Int→Int→Int→Option ((List aq)×Int)):Nat→Int→List aq→Option (Int×(List aq))
 |0,_,_=>none
 |kk+1,v7,v8=>az ((nK==0)=false→decide (v7<ln l_)=true→0≤v7∧v7<ln l_)<|lt (cond (decide (v7<ln l_)) (cond (nK==0) true ((gi l_ v7).af !=nK)) false) λdV=>cond dV (az (0≤v7∧v7<ln l_)<|Option.bind (cond (qB (gi l_ v7).af !=0) (cond (left==0) (none) (Option.bind (a1A l_ (J (v7+1)) (qB (gi l_ v7).af) (J (left-1))) λbV=>cond (decide (bV.2<0)) (none) (some (bV.2,bV.1)))) (some (J (v7+1),([]:List aq)))) λ(z24:Int×(List aq))=>az (ln v8+ln ([aq.mk (gi l_ v7) z24.2]:List aq)≤137438953472)<|lt (v8++([aq.mk (gi l_ v7) z24.2]:List aq)) λEG=>Ut m l_ nK left a1A kk z24.1 EG) (some (v7,v8))
def Pr(m:Nat):Nat→List cC→Int→Int→Int→Option ((List aq)×Int)
 |0,_,_,_,_=>none
 |k+1,l_,i,nK,left=>Option.bind (Ut m l_ nK left (Pr m k) m i ([]:List aq)) λ(z5:Int×(List aq))=>lt (if J (z5.1+1)<ln l_ then J (z5.1+1)else ln l_) λuU=>some (z5.2,uU)
theorem a97(m:Nat):∀(k:Nat),a96 (Pr m k):=by
 intro k
 induction k with
 |zero=>intro a6 M l_ i nK left r hm;exact cD hm
 |succ k ih=>
  intro a6 M l_ i nK left r hm w hS;rw[Pr]at hm;unfold S0 at hS;generalize aD [eI eU l_ a6]=X at hS⊢;refine dQ func178 rfl ntmps178 rfl λ_ H=>aG H hS (cy [0,1,2,3] [vL a6 l_,vI i,vU nK,vI left] [] (uA 10 vO [] ?_));obtain⟨z5,hz,hm⟩:=a8 hm;refine h9 [2,3] [1,10] (λ(iU:Gh)=>[vI z5.1,vL iU z5.2]) (λiU=>[eO 171 ae z5.2 iU,eI eU l_ a6]) ?_ ?_;refine aC (da 171 ae (n8 [] [1,10] (λv7 v8 g9=>[vI v7,vL g9 v8]) (λ_ v8 g9=>[eO 171 ae v8 g9,eI eU l_ a6]) Gh.nil hz (λkk v7 v8 g9 hm=>?_)));rw[Ut]at hm;refine ah ?_;obtain⟨BW,dV,ng,hm⟩:=cE hm;refine uI [jH ((nK==0)=false∧decide (v7<ln l_)=true∧True) 1 λhg=>BW hg.1 hg.2.1,km ((nK==0)=false∧decide (v7<ln l_)=true∧True) 1 0 λhg=>BW hg.1 hg.2.1] hm ?_ ?_ (he:=by subst ng;kernel_rfl);refine λhm=>ag (aC (aF ?_));obtain⟨dw,hm⟩:=bY hm;refine uB 5 [] [34] [vG [vU (gi l_ v7).af,vS (gi l_ v7).di,vI (gi l_ v7).cN,vS (gi l_ v7).Unit,vB (gi l_ v7).ma,vO]] [ki 1 dw,⟨some (.agg ⟨e7 (gi l_ v7)⟩),λwz=>V.bH (ab a6.a) (ao a6.a+v7.toNat*5) (e7 (gi l_ v7)) 0 wz,λ_ hS=>(hS.im 1 rfl).dp dw 0 rfl⟩] (uM [] [0,1] [] (oA [vU 0,vN,vI 0,vN,vF,vO]) λic=>uL [0] [1,2] [34] (oS [vU (gi l_ v7).af,vS (gi l_ v7).di,vI (gi l_ v7).cN,vS (gi l_ v7).Unit,vB (gi l_ v7).ma,vO] rfl rfl) (ay (uR [] [0,1,2,3,10,11] [vL a6 l_,vI (J (v7+1)),vU nK,vI left,vL g9 v8,vP ic] [] ?_)));obtain⟨z24,hz,hm⟩:=a8 hm;refine h9 [] [1] (λ(yT:Gh)=>[vI z24.1]) (λyT=>[eO 171 ae z24.2 yT,eB ic [vU (gi l_ v7).af,vS (gi l_ v7).di,vI (gi l_ v7).cN,vS (gi l_ v7).Unit,vB (gi l_ v7).ma,vL yT z24.2],eO 171 ae v8 g9,eI eU l_ a6]) ?_ ?_;refine uA 12 (vU (qB (gi l_ v7).af)) [kb 0 0,kc (Us (gi l_ v7).af)] (uI [] hz ?_ ?_);refine λhm=>ah (gZ [] hm (λhm=>ag (aF (uB 5 [1,12] [46,47,48,50] [vL a6 l_,vI (J (v7+1)),vU (qB (gi l_ v7).af),vI (J (left-1))] [] ?_))));obtain⟨bV,EA,hm⟩:=a8 hm;refine uM [2] [0,1,2] [46,47,48,50] (λ_ _ kR hd=>df kR rfl rfl (⟨call178 _,ih a6 _ _ _ _ _ _ EA _ hd⟩:eJ _ _ _ _ _)) λpC=>uB 10 [51] [52,53,54] [vL pC bV.1,vI bV.2,vA ic 5] [] (uL [1] [0,2,3] [52,54] (oS [vU (gi l_ v7).af,vS (gi l_ v7).di,vI (gi l_ v7).cN,vS (gi l_ v7).Unit,vB (gi l_ v7).ma,vL pC bV.1] rfl rfl) (uB 12 [53] [0,1,2,3,10,11] [vL a6 l_,vI bV.2,vU nK,vI left,vL g9 v8,vP ic] [] (ay (gZ [] hm (λhm=>ag ?_)))));cases hm;exact ai [1,0,2,3] (tg pC);refine λhm=>ag ?_;cases hm;exact da 171 ae (tg Gh.nil);intro yT;refine dC (uB 2 [10,11] [57,58] [vL g9 v8,vG [vU (gi l_ v7).af,vS (gi l_ v7).di,vI (gi l_ v7).cN,vS (gi l_ v7).Unit,vB (gi l_ v7).ma,vL yT z24.2]] [kE 1 6] (kN [0,1,2,3] (uM [0] [0,1,2,3] [58] (oL ae 171 (vG [vU 0,vN,vI 0,vN,vF,vO]) [aq.mk (gi l_ v7) z24.2] [gL [yT]] (λhd=>ba.cons (KJ (hd.im 0 rfl)) ba.nil) rfl) λjK=>?_)));obtain⟨BX,EG,Uu,hm⟩:=cE hm;exact uM [3,0] [1,2,4] [57,59] (oP ae (vG [vU 0,vN,vI 0,vN,vF,vO]) g9 jK Uu BX rfl rfl) λPs=>uB 5 [60] [10] [vL Ps EG] [] (ay (ai [0,4] (wc Ps hm)));refine λhm=>bl ?_;cases hm;exact tg g9;intro iU;obtain⟨uU,KT,hm⟩:=bc hm;refine uR [0,1,10] [8,9] [vL iU z5.2,vI uU] [] (ai [0] (aL ?_)) (he:=by subst KT;kernel_rfl);cases hm;exact dm iU [0] fk
def a1B(m:Nat)(l_:List cC)(i:Int)(nK:Int)(left:Int):Option ((List aq)×Int):=Pr m m l_ i nK left
theorem a98{a6:Gh}(m)(l_)(i)(nK)(left)(r)(hm:a1B m l_ i nK left=some r)(M:Av)(w:World)(hS:S0 M [eI eU l_ a6] w):eJ prog 178 ⟨[vL a6 l_,vI i,vU nK,vI left]⟩ w (λv w'=>∃(aI:Gh),v=vW [vL aI r.1,vI r.2]∧SH M (aD [eI eU l_ a6]) w [eO 171 ae r.1 aI] w'):=⟨call178 _,a97 m m a6 M l_ i nK left r hm w hS⟩

def Uv(m:Nat)(l_:List cC):Option ((List aq)×Bool):=Option.bind (a1B m l_ 0 0 16) λy5=>some (y5.1,decide (0≤y5.2))
theorem a99{a6:Gh}(m)(l_)(r)(hm:Uv m l_=some r):Dm 128 [vL a6 l_] [eI eU l_ a6] (λ(aI:Gh)=>vW [vL aI r.1,vB r.2]) (λaI=>[eO 171 ae r.1 aI]):=by
 rw[Uv]at hm;refine gY (call128 _) func128 ntmps128 λM X w=>?_;refine uO [] (aF (uB 1 [0] [7] [vL a6 l_] [] ?_));obtain⟨y5,j4,hm⟩:=a8 hm;refine uQ [0] [0] [7] (a98 (a6:=a6) m _ _ _ _ _ j4) λg6=>uB 7 [8] [4,5] [vL g6 y5.1,vI y5.2] [] (ay (ai [0] (uR [4,5] [2,3] [vL g6 y5.1,vB (decide (0≤y5.2))] [] (aL ?_))));cases hm;exact dm g6 [0] fk

def a9a(dW:(List aq)→Option (List cC)):Prop:=∀(ax:Gh)(M:Av)(v_:List aq)(r:List cC),dW v_=some r→∀w,S0 M [eI ae v_ ax] w→Calls prog 129 ⟨[vL ax v_]⟩ w (λe w'=>∃v,e=.returned v∧∃(aI:Gh),v=vL aI r∧SH M (aD [eI ae v_ ax]) w [eO 169 eU r aI] w')
def Uw(m:Nat)(v_:List aq)(a1C:(List aq)→Option (List cC)):Nat→List cC→Int→Option (List cC)
 |0,_,_=>none
 |kk+1,v9,v11=>cond (decide (v11<ln v_)) (Option.bind (az (0≤v11∧v11<ln v_)<|az (ln v9+ln ([(gi v_ v11).aT]:List cC)≤137438953472)<|lt (v9++([(gi v_ v11).aT]:List cC)) λHv=>lt (qB (gi v_ v11).aT.af !=0) λoC=>cond oC (Option.bind (a1C (gi v_ v11).aa) λjg=>az (ln Hv+ln jg≤137438953472)<|lt (Hv++jg) λyU=>az (ln yU+ln ([cC.mk (qB (gi v_ v11).aT.af) [] 0 [] false]:List cC)≤137438953472)<|lt (yU++([cC.mk (qB (gi v_ v11).aT.af) [] 0 [] false]:List cC)) λyV=>some yV) (some Hv)) λ(j5:List cC)=>Uw m v_ a1C kk j5 (J (v11+1))) (some v9)
def Pt(m:Nat):Nat→List aq→Option (List cC)
 |0,_=>none
 |k+1,v_=>Option.bind (Uw m v_ (Pt m k) m ([]:List cC) 0) λ(z5:List cC)=>some z5
theorem a9b(m:Nat):∀(k:Nat),a9a (Pt m k):=by
 intro k
 induction k with
 |zero=>intro ax M v_ r hm;exact cD hm
 |succ k ih=>
  intro ax M v_ r hm w hS;rw[Pt]at hm;unfold S0 at hS;generalize aD [eI ae v_ ax]=X at hS⊢;refine dQ func129 rfl ntmps129 rfl λ_ H=>aG H hS (cy [0] [vL ax v_] [] (uA 3 vO [] ?_));obtain⟨z5,hz,hm⟩:=a8 hm;refine h9 [0] [3] (λ(iE:Gh)=>[vL iE z5]) (λiE=>[eO 169 eU z5 iE,eI ae v_ ax]) ?_ ?_;refine uA 4 (vI 0) [] (aC (da 169 eU (n8 [] [3,4] (λv9 v11 g10=>[vL g10 v9,vI v11]) (λv9 _ g10=>[eO 169 eU v9 g10,eI ae v_ ax]) Gh.nil hz (λkk v9 v11 g10 hm=>?_))));rw[Uw]at hm;refine ah (uI [] hm ?_ ?_);refine λhm=>ag ?_;obtain⟨j5,hz,hm⟩:=a8 hm;refine h9 [] [3] (λ(BZ:Gh)=>[vL BZ j5]) (λBZ=>[eO 169 eU j5 BZ,eI ae v_ ax]) ?_ ?_;refine aC (aF ?_);obtain⟨fM,hm⟩:=bY hz;refine uB 6 [3] [12,17] [vL g10 v9,.agg ⟨e7 (gi v_ v11).aT⟩] [ki 1 fM,⟨some (.agg ⟨e7 (gi v_ v11).aT⟩),λwz=>V.bH (ab ax.a) (ao ax.a+v11.toNat*6) (e7 (gi v_ v11).aT) 0 wz,λ_ hS=>(hS.im 1 rfl).dp fM 0 rfl⟩] (fb [] [0,1] [0,4,12] [vL ax v_,vI v11,vL g10 v9] (oL eU 169 (vG [vU 0,vN,vI 0,vN,vF]) [(gi v_ v11).aT] [gL []] (λ_=>ba.cons trivial ba.nil) rfl) λg18=>?_);obtain⟨iF,Hv,a9c,hm⟩:=cE hm;refine uM [1,0] [2] [12,18] (oP eU (vG [vU 0,vN,vI 0,vN,vF]) g10 g18 a9c iF rfl rfl) λjh=>uB 9 [19] [3] [vL jh Hv] [] (ay (ai [0,2] (uA 5 (vU (qB (gi v_ v11).aT.af)) [ki 1 fM,kj 1 0 fM,kc (Us (gi v_ v11).aT.af)] ?_)));obtain⟨oC,EH,hm⟩:=bc hm;refine uI [] hm ?_ ?_ (he:=by subst EH;kernel_rfl);refine λhm=>aF (uB 6 [3] [29,34] [vL jh Hv,.slice (ax.s v11.toNat 0).a (gi v_ v11).aa.length (ax.s v11.toNat 0).c] [ki 1 fM,kj 1 5 fM] ?_);intro _ _ rj hS;replace hS:=hS.eF (re ((hS.im 1 rfl).el fM));obtain⟨jg,EI,hm⟩:=a8 hm;refine aG rj hS (uM [0] [0,1,2] [34] (λ_ _ rj hd=>df rj rfl rfl (⟨call129 _,ih (ax.s v11.toNat 0) _ _ _ EI _ hd⟩:eJ _ _ _ _ _)) λiV=>?_);obtain⟨sk,yU,Ux,hm⟩:=cE hm;refine uM [2,0] [1,3] [29,35] (oP eU (vG [vU 0,vN,vI 0,vN,vF]) jh iV Ux sk rfl rfl) λnh=>uB 9 [36] [0,3,4,5] [vL ax v_,vL nh yU,vI v11,vU (qB (gi v_ v11).aT.af)] [] (ay (ai [0,3] (dC (uB 3 [3,5] [37,39] [vL nh yU,vG [vU (qB (gi v_ v11).aT.af),vN,vI 0,vN,vF]] [] (uM [] [0,1] [39] (oL eU 169 (vG [vU 0,vN,vI 0,vN,vF]) [cC.mk (qB (gi v_ v11).aT.af) [] 0 [] false] [gL []] (λ_=>ba.cons trivial ba.nil) rfl) λBV=>?_)))));obtain⟨Uy,yV,KU,hm⟩:=cE hm;refine uM [1,0] [2] [37,40] (oP eU (vG [vU 0,vN,vI 0,vN,vF]) nh BV KU Uy rfl rfl) λqA=>uB 6 [41] [3] [vL qA yV] [] (ay (ai [0,2] ?_));cases hm;exact tg qA;refine λhm=>ag ?_;cases hm;exact tg jh;intro BZ;exact xw [] BZ hm;refine λhm=>bl ?_;cases hm;exact tg g10;intro iE;refine ai [0] (uR [3] [2] [vL iE z5] [] (aL ?_));cases hm;exact dm iE [0] bo
def a1D(m:Nat)(v_:List aq):Option (List cC):=Pt m m v_
theorem a9d{ax:Gh}(m)(v_)(r)(hm:a1D m v_=some r)(M:Av)(w:World)(hS:S0 M [eI ae v_ ax] w):eJ prog 129 ⟨[vL ax v_]⟩ w (λv w'=>∃(aI:Gh),v=vL aI r∧SH M (aD [eI ae v_ ax]) w [eO 169 eU r aI] w'):=⟨call129 _,a9b m m ax M v_ r hm w hS⟩

def Uz(m:Nat)(l_:List cC):Option ((List aq)×Int):=cond (decide (1500<ln l_)) (none) (Option.bind (Uv m l_) λy7=>cond (!y7.2) (none) (Option.bind (a1D m y7.1) λfT=>cond (decide (1500<ln fT)) (none) (some (y7.1,0))))
theorem a9e{a6:Gh}(m)(l_)(r)(hm:Uz m l_=some r):Dm 87 [vL a6 l_] [eI eU l_ a6] (λ(aI:Gh)=>vW [vL aI r.1,vI r.2]) (λaI=>[eO 171 ae r.1 aI]):=by
 rw[Uz]at hm;refine gY (call87 _) func87 ntmps87 λM X w=>?_;refine uO [] (ah (gZ [] hm (λhm=>ag (aF (uB 1 [0] [10] [vL a6 l_] [] ?_)))));obtain⟨y7,sb,hm⟩:=a8 hm;refine uQ [0] [0] [10] (a99 (a6:=a6) m _ _ sb) λg8=>uB 7 [11] [4,5] [vL g8 y7.1,vB y7.2] [] (ay (ai [0] (ah (uz [5] [] hm (λhm=>ag (ah (aF (uB 1 [] [16] [vL g8 y7.1] [] ?_))))))));obtain⟨fT,tG,hm⟩:=a8 hm;refine ai [0] ?_;intro _ _ C0 hS;have hd:=SH.a77 hS;refine eZ [17,4] [(4,[],vL g8 y7.1)] C0 rfl rfl rfl rfl (df C0 rfl rfl (a9d (ax:=g8) m _ _ tG _ _ hd)) (λ_=>rfl) λ_ _ v mh hq=>?_;obtain⟨g19,rfl,hq⟩:=hq;replace hS:SH M _ w [eO 169 eU fT g19,eO 171 ae y7.1 g8] _:=SH.a78 hS hq (a7a (a79 (λ_ _ _ _ _ h=>h) _ _));refine aG mh hS (gh 4 [4,19] [vL g8 y7.1,vB (decide (1500<ln fT))] [] (ay (ai [1] (Ei hm (λhm=>ag (uR [4,19] [2,3] [vL g8 y7.1,vI 0] [] (aL ?_)))))));cases hm;exact dm g8 [0] fk

def UA(m:Nat)(s:a7):Option ((List aq)×Int):=Option.bind (Ur m s) λy5=>cond (y5.2 !=0) (none) (Option.bind (Uz m y5.1) λaW=>some (aW.1,aW.2))
theorem a9f(m)(s)(r)(hm:UA m s=some r):Dm 58 [vS s] [] (λ(aI:Gh)=>vW [vL aI r.1,vI r.2]) (λaI=>[eO 171 ae r.1 aI]):=by
 rw[UA]at hm;refine gY (call58 _) func58 ntmps58 λM X w=>?_;refine uO [] (aF (uB 1 [0] [7] [vS s] [] ?_));obtain⟨y5,j4,hm⟩:=a8 hm;refine uQ [] [] [7] (a95 m _ _ j4) λg6=>uB 7 [8] [4,5] [vL g6 y5.1,vI y5.2] [] (ay (ah (gZ [] hm (λhm=>ag (aF (uB 1 [4,5] [14] [vL g6 y5.1] [] (kN [0] ?_)))))));obtain⟨aW,mI,hm⟩:=a8 hm;refine uQ [0] [0] [14] (a9e (a6:=g6) m _ _ mI) λg17=>uB 6 [15] [2,3] [vL g17 aW.1,vI aW.2] [] (ay (ai [0] (aL ?_)));cases hm;exact dm g17 [0] fk

def Pu(k_:Int)(top:Bool):Bool:=lt (cond (k_==13) true (cond top (cond (k_==14) true (k_==15)) false)) λx3=>x3
theorem a9g(k_:Int)(top:Bool):Rt 130 [vU k_,vB top] (vB (Pu k_ top)):=by
 generalize hm:Pu k_ top=r;rw[Pu]at hm;refine dy (call130 _) func130 ntmps130 λM X w=>?_;refine uO [] ?_;obtain⟨x3,iT,hm⟩:=bc hm;refine uR [0,1] [4] [vB x3] [] (aL ?_) (he:=by subst iT;kernel_rfl);subst hm;exact bf [] bo

structure pD where
  At:a7
  ni:List aq
  qC:List aq
  Hw:Bool
instance:Inhabited pD:=⟨⟨default,default,default,default⟩⟩
def pW:Ty pD where
  z:=4
  enc:=λx g=>[vS x.At,.slice (g 0).a x.ni.length (g 0).c,.slice (g 1).a x.qC.length (g 1).c,vB x.Hw]
  bP:=λM w x g=>aM ae M w x.ni (g 0)∧aM ae M w x.qC (g 1)∧True
  len:=λ_ _=>rfl
  one:=λ_ _=>rfl
  kp:=λh k hX=>⟨h.1.kp k hX,h.2.1.kp k hX,trivial⟩
  bW:=λh hM=>⟨h.1.bW hM,h.2.1.bW hM,trivial⟩
  fresh:=λh=>⟨h.1.fresh,h.2.1.fresh,trivial⟩
def C1(x:pD)(g:Nat→Gh):List Value:=pW.enc x g
theorem a9h{M:Av}{w:World}{x:pD}{g:Nat→Gh}(h:pW.bP M w x g):aM ae M w x.ni (g 0):=(show aM ae M w x.ni (g 0)∧aM ae M w x.qC (g 1)∧True from h).1
theorem a1E{M:Av}{w:World}{x:pD}{g:Nat→Gh}(h:pW.bP M w x g):aM ae M w x.qC (g 1):=(show aM ae M w x.ni (g 0)∧aM ae M w x.qC (g 1)∧True from h).2.1
theorem a9i{M:Av}{w:World}{x:pD}{g:Nat→Gh}(h0:aM ae M w x.ni (g 0))(h1:aM ae M w x.qC (g 1)):pW.bP M w x g:=show aM ae M w x.ni (g 0)∧aM ae M w x.qC (g 1)∧True from⟨h0,h1,trivial⟩
def UB(m:Nat)(v_:List aq)(v11:Int):Nat→Int→Option Int
 |0,_=>none
 |kk+1,dh=>az (decide (dh<ln v_)=true→0≤dh∧dh<ln v_)<|lt (cond (decide (dh<ln v_)) ((gi v_ dh).aT.af !=23) false) λnj=>az ((!((gi v_ v11).aT.af==3))=false→nj=true→0≤dh∧dh<ln v_)<|lt (cond nj (cond (!((gi v_ v11).aT.af==3)) true ((gi v_ dh).aT.af !=17)) false) λpE=>cond pE (UB m v_ v11 kk (J (dh+1))) (some dh)
def Pv(m:Nat)(v_:List aq)(top:Bool):Nat→List pD→Int→Option (List pD)
 |0,_,_=>none
 |kk+1,v9,v11=>cond (decide (v11<ln v_)) (az (0≤v11∧v11<ln v_)<|lt (Pu (gi v_ v11).aT.af top) λjL=>cond jL (Pv m v_ top kk v9 (J (v11+1))) (Option.bind (cond ((gi v_ v11).aT.af==3) (some (J (v11+1),(gi v_ v11).aT.di)) (some (v11,[]))) λ(z25:Int×a7)=>Option.bind (UB m v_ v11 m z25.1) λ(z37:Int)=>az (0≤z25.1∧z25.1≤z37∧z37≤ln v_)<|lt (gf v_ z25.1 z37) λj6=>Option.bind (az (decide (z37<ln v_)=true→0≤z37∧z37<ln v_)<|lt (cond (decide (z37<ln v_)) ((gi v_ z37).aT.af==23) false) λva=>cond va (az (0≤z37∧z37<ln v_)<|some ((gi v_ z37).aa,true)) (some (([]:List aq),false))) λ(iG:(List aq)×Bool)=>az (ln v9+ln ([pD.mk z25.2 j6 iG.1 iG.2]:List pD)≤137438953472)<|lt (v9++([pD.mk z25.2 j6 iG.1 iG.2]:List pD)) λyW=>Pv m v_ top kk yW (J (z37+1)))) (some v9)
def UC(m:Nat)(v_:List aq)(top:Bool):Option (List pD):=Option.bind (Pv m v_ top m ([]:List pD) 0) λ(z5:List pD)=>some z5
theorem a9j{ax:Gh}(m)(v_)(top)(r)(hm:UC m v_ top=some r):Dm 88 [vL ax v_,vB top] [eI ae v_ ax] (λ(aI:Gh)=>vL aI r) (λaI=>[eO 162 pW r aI]):=by
 rw[UC]at hm;refine gY (call88 _) func88 ntmps88 λM X w=>?_;refine uO [] ?_;refine uA 5 vO [] ?_;obtain⟨z5,hz,hm⟩:=a8 hm;refine h9 [0,1] [5] (λ(Hx:Gh)=>[vL Hx z5]) (λHx=>[eO 162 pW z5 Hx,eI ae v_ ax]) ?_ ?_;refine uA 6 (vI 0) [] (aC ?_);refine da 162 pW ?_;refine n8 [] [5,6] (λv9 v11 g10=>[vL g10 v9,vI v11]) (λv9 _ g10=>[eO 162 pW v9 g10,eI ae v_ ax]) Gh.nil hz (λkk v9 v11 g10 hm=>?_);rw[Pv]at hm;refine ah (uI [] hm ?_ ?_);refine λhm=>ag (aC (ah ?_));obtain⟨dw,jL,xE,hm⟩:=cE hm;refine uI [ki 1 dw,kj 1 0 dw,kc (a9g (gi v_ v11).aT.af top)] hm ?_ ?_ (he:=by subst xE;kernel_rfl);refine λhm=>uA 6 (vI (J (v11+1))) [] ?_;refine bl ?_;exact wc g10 hm;refine λhm=>ag (aF (uM [] [0,1] [] (oA [vN,vO,vO,vF]) λll=>(ay ?_)));refine uR [] [7,8] [vP ll,vB ((gi v_ v11).aT.af==3)] [ki 2 dw,kj 2 0 dw] ?_;obtain⟨z25,hz,hm⟩:=a8 hm;refine uK [] [0,1,5,7,8,6] [vL ax v_,vB top,vL g10 v9,vP ll,vB ((gi v_ v11).aT.af==3),vI z25.1] [eB ll [vS z25.2,vO,vO,vF],eO 162 pW v9 g10,eI ae v_ ax] ?_ ?_;refine uI [] hz ?_ ?_;refine λhm=>aF (uB 7 [] [37,38] [vS (gi v_ v11).aT.di,vP ll] [ki 2 dw,kj 2 1 dw] ?_);refine uL [0] [1,2] [37,38] (oS [vS (gi v_ v11).aT.di,vO,vO,vF] rfl rfl) (ay ?_);refine uV 6 (vI (J (v11+1))) [] ?_;cases hm;exact te;refine λhm=>ag ?_;cases hm;exact te;refine uA 9 (vI z25.1) [] ?_;obtain⟨z37,hz,hm⟩:=a8 hm;refine uK [8] [6] [vI z37] [eB ll [vS z25.2,vO,vO,vF],eO 162 pW v9 g10,eI ae v_ ax] ?_ ?_;refine aC (eX [] [6] (λdh=>[vI dh]) (λ_=>[eB ll [vS z25.2,vO,vO,vF],eO 162 pW v9 g10,eI ae v_ ax]) hz (λkk dh hm=>?_));rw[UB]at hm;refine ah ?_;obtain⟨qD,nj,xF,hm⟩:=cE hm;obtain⟨pF,pE,EJ,hm⟩:=cE hm;refine uI [jH (gT (decide (dh<ln v_))) 2 λhg=>qD hg.1,km (gT (decide (dh<ln v_))) 2 0 λhg=>qD hg.1,jH ((!((gi v_ v11).aT.af==3))=false∧nj=true∧True) 2 λhg=>pF hg.1 hg.2.1,km ((!((gi v_ v11).aT.af==3))=false∧nj=true∧True) 2 0 λhg=>pF hg.1 hg.2.1] hm ?_ ?_ (he:=by subst xF EJ;kernel_rfl);intro hm;exact ag (aC (fQ [] hm));refine λhm=>bl ?_;cases hm;exact te;refine aF (uB 3 [9] [70,71,72] [vL ax v_,vI z25.1,vI z37] [] ?_);obtain⟨EK,j6,UD,hm⟩:=cE hm;refine uM [2] [0,1,2] [70,71,72] (λ_ _ EL hd=>yJ (T:=ae) (E:=171) (g:=ax) (q:=v_) z25.1 z37 (.some (vI z25.1)) (.some (vI z37)) EL hd (hd.im 0 rfl) rfl rfl rfl rfl rfl rfl (.inr ⟨_,rfl⟩) (.inr ⟨_,rfl⟩) (by kernel_rfl) (by kernel_rfl) EK) λkS=>?_;rw[←UD];refine uB 5 [] [73,74] [vL kS j6,vA ll 1] [] ?_;refine uL [2] [0,1,3,4] [73,74] (oS [vS z25.2,vL kS j6,vO,vF] rfl rfl) (ay (ai [0,1,2,3] ?_));obtain⟨iG,hz,hm⟩:=a8 hm;refine h9 [] [0,1,5,6,7] (λ(oD:Gh)=>[vL ax v_,vB top,vL g10 v9,vI z37,vP ll]) (λoD=>[eI ae iG.1 oD,eB ll [vS z25.2,vL kS j6,vL oD iG.1,vB iG.2],eI ae j6 kS,eI ae v_ ax,eO 162 pW v9 g10]) ?_ ?_;obtain⟨nL,va,EM,hm⟩:=cE hz;refine uI [jH (gT (decide (z37<ln v_))) 2 λhg=>nL hg.1,km (gT (decide (z37<ln v_))) 2 0 λhg=>nL hg.1] hm ?_ ?_ (he:=by subst EM;kernel_rfl);refine λhm=>dC ?_;obtain⟨KV,hm⟩:=bY hm;refine uB 6 [] [92,93] [.slice (ax.s z37.toNat 0).a (gi v_ z37).aa.length (ax.s z37.toNat 0).c,vA ll 2] [ki 2 KV,kj 2 5 KV] ?_;refine uL [0] [1,2,3] [92,93] (oS [vS z25.2,vL kS j6,.slice (ax.s z37.toNat 0).a (gi v_ z37).aa.length (ax.s z37.toNat 0).c,vF] rfl rfl) ?_;refine uB 8 [] [94] [vA ll 3] [] ?_;refine uL [0] [1,2,3] [94] (oS [vS z25.2,vL kS j6,.slice (ax.s z37.toNat 0).a (gi v_ z37).aa.length (ax.s z37.toNat 0).c,vT] rfl rfl) (ay ?_);cases hm;intro _ _ H74 hS;replace hS:=hS.eF (re ((hS.im 2 rfl).el KV));exact⟨ax.s z37.toNat 0,aj.aK (ks:=[0,1,5,6,7]) H74 (by kernel_rfl),hS⟩;refine λhm=>ag ?_;cases hm;refine da 171 ae ?_;refine kN [0,1,2,3,4] ?_;exact tg Gh.nil;intro oD;refine uA 6 (vI (J (z37+1))) [] (dC ?_);refine uB 2 [5,7] [97,98] [vL g10 v9,vG [vS z25.2,vL kS j6,vL oD iG.1,vB iG.2]] [kE 1 4] ?_;refine uM [2,0] [0,1,2,3,4] [98] (oL pW 162 (vG [vN,vO,vO,vF]) [pD.mk z25.2 j6 iG.1 iG.2] [gL [kS,oD]] (λhd=>ba.cons (a9i (hd.im 0 rfl) (hd.im 1 rfl)) ba.nil) rfl) λwx=>?_;obtain⟨a9k,yW,Pw,hm⟩:=cE hm;refine uM [5,0] [1,2,3,4] [97,99] (oP pW (vG [vN,vO,vO,vF]) g10 wx Pw a9k rfl rfl) λg92=>?_;refine uB 5 [100] [5] [vL g92 yW] [] (ay (ai [0,5] ?_));exact wc g92 hm;refine λhm=>bl ?_;cases hm;exact tg g10;intro Hx;refine ai [0] ?_;refine uR [5] [4] [vL Hx z5] [] (aL ?_);cases hm;exact dm Hx [0] bo

structure xG where
  dX:Int
  has:Bool
instance:Inhabited xG:=⟨⟨default,default⟩⟩
def alQ:Ty xG where
  z:=2
  enc:=λx g=>[vI x.dX,vB x.has]
  bP:=λ_ _ _ _=>True
  len:=λ_ _=>rfl
  one:=λ_ _=>rfl
  kp:=λ_ _ _=>trivial
  bW:=λ_ _=>trivial
  fresh:=λ_=>trivial
def Px(m:Nat)(v_:List aq)(cJ:Int):Nat→List (List aq)→Int→Option (List (List aq))
 |0,_,_=>none
 |kk+1,v12,aJ=>cond (decide (aJ<ln v_)) (Option.bind (az (0≤aJ∧aJ<ln v_)<|cond ((gi v_ aJ).aT.af==cJ) (az (ln v12+ln ([[]]:List (List aq))≤137438953472)<|some (v12++([[]]:List (List aq)))) (az (0≤J (ln v12-1)∧J (ln v12-1)<ln v12)<|az (ln (gi v12 (J (ln v12-1)))+ln ([gi v_ aJ]:List aq)≤137438953472)<|some (cj v12 (J (ln v12-1)) (gi v12 (J (ln v12-1))++[gi v_ aJ])))) λ(fC:List (List aq))=>Px m v_ cJ kk fC (J (aJ+1))) (some v12)
def Hy(m:Nat)(v_:List aq)(cJ:Int):Option (List (List aq)):=Option.bind (Px m v_ cJ m ([[]]:List (List aq)) 0) λ(z9:List (List aq))=>some z9
theorem Py{ax:Gh}(m)(v_)(cJ)(r)(hm:Hy m v_ cJ=some r):Dm 181 [vL ax v_,vU cJ] [eI ae v_ ax] (λ(aI:Gh)=>vL aI r) (λaI=>[eO 33 (Ty.sl ae) r aI]):=by
 rw[Hy]at hm;refine gY (call181 _) func181 ntmps181 λM X w=>?_;refine cy [0,1] [vL ax v_,vU cJ] [] (aF (fb [] [0] [0,1] [vL ax v_,vU cJ] (oL (lK aq) 33 vO [([],Gh.nil)] [gL []] (λ_=>ba.cons trivial ba.nil) rfl) λg3=>gh 2 [0,1,5] [vL ax v_,vU cJ,vK g3 1] [] (ay ?_)));obtain⟨z9,hz,hm⟩:=a8 hm;refine TF [5] (λ(oE:Gh)=>[vL oE z9]) (λoE=>[eO 33 (Ty.sl ae) z9 oE,eI ae v_ ax]) ?_ ?_
 ·replace hm:=hz;refine cy [0,1,5,6] [vL ax v_,vU cJ,vK g3 1,vI 0] [] (aC ?_);intro _ _ lM hS;refine gb (λkk a' w'=>∃(qs:List (Hd aq))(aJ:Int)(g13:Gh),Px m v_ cJ kk (qs.map (·.1)) aJ=some _∧Fr 64 (fS [0,1,5,6] [vL ax v_,vU cJ,vL g13 qs,vI aJ]) a'∧SH M X w [eO 33 (lK aq) qs g13,aB.p9 171 ae qs,eI ae v_ ax] w') ⟨_,[([],Gh.nil)],0,g3,hm,aj.aK (ks:=[0,1,5,6]) lM (by kernel_rfl),(hS.a7M (E:=171) (T:=ae)).perm (List.Perm.swap _ _ _)⟩ ?_;clear hm lM hS;rintro kk _ _ ⟨qs,aJ,g13,hm,H,hS⟩;cases kk with
  |zero=>exact cD hm
  |succ kk=>
   rw[Px,a7O]at hm;refine aG H hS (ah (cy [0,1,5,6,11] [vL ax v_,vU cJ,vL g13 qs,vI aJ,vB (decide (aJ<ln v_))] [] (Eh hm (λhm=>?_) (λhm=>?c51))))
   case c51=>
    refine bl ?_;obtain rfl:=cP hm;intro _ _ H hS;refine⟨_,aj.aK (ks:=[5]) H ?_,hS.a7W⟩;show aK _ _=some [(5,[],Value.slice g13.a (qs.map (·.1)).length g13.c)];rw[List.length_map];rfl
   refine ag ?_;obtain⟨fC,hz,hm⟩:=a8 hm;refine TF [0,1,6,5] (λ(p:{p:List (Hd aq)×Gh // p.1.map (·.1)=fC})=>[vL ax v_,vU cJ,vI aJ,.slice p.1.2.a p.1.1.length p.1.2.c]) (λp=>[eO 33 (lK aq) p.1.1 p.1.2,aB.p9 171 ae p.1.1,eI ae v_ ax]) ?_ ?_
   ·refine aC ?_;obtain⟨lO,hm⟩:=bY hz;refine cy [0,1,5,6,21] [vL ax v_,vU cJ,vL g13 qs,vI aJ,vB ((gi v_ aJ).aT.af==cJ)] [ki 2 lO,kj 2 0 lO] ?_;refine Eh hm (λhm=>?c46) (λhm=>?_)
    case c46=>
     refine dC (gh 1 [0,1,6,22] [vL ax v_,vU cJ,vI aJ,vL g13 qs] [] (fb [] [0,1,2] [0,1,6,22] [vL ax v_,vU cJ,vI aJ,vL g13 qs] (oL (lK aq) 33 vO [([],Gh.nil)] [gL []] (λ_=>ba.cons trivial ba.nil) rfl) λg23=>?_));obtain⟨tH,hm⟩:=bY hm;obtain rfl:=cP hm;exact fb [1,0] [2,3] [0,1,6] [vL ax v_,vU cJ,vI aJ] (λ_ _ lm hd=>Ea (T:=lK aq) (zv:=vO) (g1:=g13) (g2:=g23) (l1:=qs) (l2:=([([],Gh.nil)]:List (Hd aq))) (qs++[([],Gh.nil)]) rfl lm hd rfl rfl rfl rfl rfl rfl rfl (by kernel_rfl) (by kernel_rfl) rfl rfl tH) λvb=>gh 4 [0,1,5,6] [vL ax v_,vU cJ,.slice vb.a (qs++[([],Gh.nil)]).length vb.c,vI aJ] [] (ay (ai [0,2,3] (λ_ _ H hS=>⟨⟨(qs++[([],Gh.nil)],vb),by simp⟩,aj.aK (ks:=[0,1,6,5]) H (by kernel_rfl),(hS.perm (List.Perm.swap _ _ _)).a7N.perm (List.Perm.swap _ _ _)⟩)))
    obtain⟨tJ,hm⟩:=bY hm;rw[a7P tJ]at hm;obtain⟨P7,hm⟩:=bY hm;obtain rfl:=cP hm;refine a7Z [0,1,5,6] [vL ax v_,vU cJ,vL g13 qs,vI aJ] λc=>rX (t:=c) (λ_=>?c8) (λ_=>?_)
    case c8=>
     generalize hq:(gi qs (J (ln qs-1))).1++[aq.mk (cC.mk 0 [] 0 [] false) []]=q0;intro _ _ jU hS;refine rY (base:=fS [0,1,5,6] [vL ax v_,vU cJ,vL g13 qs,vI aJ]) (L:=[eO 33 (lK aq) qs g13,aB.p9 171 ae qs,eI ae v_ ax]) 19 3 (λy=>[vL g13 qs,vL g13 qs,vI (ln qs),vI (J (ln qs-1)),vL g13 qs,vL g13 qs,vI (ln qs),vI (J (ln qs-1)),.pointer (some ⟨ab g13.a,ao g13.a+(J (ln qs-1)).toNat*1,none⟩),.slice (gi qs (J (ln qs-1))).2.a (gi qs (J (ln qs-1))).1.length (gi qs (J (ln qs-1))).2.c,vL ax v_,vI aJ,.pointer (some ⟨ab ax.a,ao ax.a+aJ.toNat*6,none⟩),.agg ⟨e3 (gi v_ aJ) (ax.s aJ.toNat)⟩,vI (ln (gi qs (J (ln qs-1))).1),vK (y 15 0) 1,.slice (y 16 0).a q0.length (y 16 0).c,.pointer (some ⟨ab g13.a,ao g13.a+(J (ln qs-1)).toNat*1,none⟩),undef]) (λy=>[[],[],[],[],[],[],[],[],[],[],[],[],[],[],[],[eO 171 ae ([aq.mk (cC.mk 0 [] 0 [] false) []]:List aq) (y 15 0)],[aB.p9 171 ae (cj qs (J (ln qs-1)) (q0,y 16 0)),eO 171 ae ([aq.mk (cC.mk 0 [] 0 [] false) []]:List aq) (y 15 0)],[],[eO 33 (lK aq) (cj qs (J (ln qs-1)) (q0,y 16 0)) (Gh.mk g13.a g13.c (y 18 0).s)]]) [[],[],[],[],[],[],[],[],[19],[19],[],[],[21],[21],[],[],[20,15],[19],[19]] [[],[],[],[],[],[],[],[],[],[],[],[],[],[],[],[],[20,15],[],[19]] [[0],[1],[1,2],[1,2,3],[4],[5],[5,6],[5,6,7],[4,5,6,7,8],[4,5,6,7,8,9],[10],[11],[10,11,12],[10,11,12,13],[4,5,6,7,8,9,14],[15],[4,5,6,7,8,9,15,16],[0,1,2,3,17],[0,1,2,3,4,5,6,7,8,9,10,11,12,13,14,15,16,17,18]] [] (aj.aK (ks:=[0,1,5,6]) jU (by kernel_rfl)) (λ_ _ h=>by cases h) (by kernel_rfl) hS (by kernel_rfl) rfl rfl (by kernel_rfl) (by kernel_rfl) (by kernel_rfl) (nI (by kernel_rfl) _ _) ?a9l λ_ a9m y mj hv hS=>?hK8
     case a9l=>
      refine⟨bA,bA,bA,bA,bA,bA,bA,bA,se (λ_ _=>[⟨none,λwz=>eg g13.a∧0≤J (ln qs-1)∧J (ln qs-1)<ln qs,λ_ hS=>(hS.bD 0 rfl).iK tJ⟩]),se (λ_ _=>[⟨some (.slice (gi qs (J (ln qs-1))).2.a (gi qs (J (ln qs-1))).1.length (gi qs (J (ln qs-1))).2.c),λwz=>V.c9 ⟨ab g13.a,ao g13.a+(J (ln qs-1)).toNat*1+0,none⟩ (.slice (gi qs (J (ln qs-1))).2.a (gi qs (J (ln qs-1))).1.length (gi qs (J (ln qs-1))).2.c) wz,λ_ hS=>(hS.bD 0 rfl).c9 tJ 0 rfl⟩]),bA,bA,se (λ_ _=>[⟨none,λwz=>eg ax.a∧0≤aJ∧aJ<ln v_,λ_ hS=>(hS.im 0 rfl).iK lO⟩]),se (λ_ _=>[⟨some (.agg ⟨e3 (gi v_ aJ) (ax.s aJ.toNat)⟩),λwz=>V.bH (ab ax.a) (ao ax.a+aJ.toNat*6) (e3 (gi v_ aJ) (ax.s aJ.toNat)) 0 wz,λ_ hS=>(hS.im 0 rfl).dp lO 0 rfl⟩]),bA,?_,?_,se (λ_ _=>[⟨none,λwz=>eg g13.a∧0≤J (ln qs-1)∧J (ln qs-1)<ln qs,λ_ hS=>(hS.bD 0 rfl).iK tJ⟩]),?_,trivial⟩
      ·intro o ho a w y M Hb hv hO hS;obtain rfl:=cP ho;have hd:=hS.hand [] [] rfl rfl;refine bg.mono (OK (T:=ae) (E:=171) (zv:=vG [vU 0,vN,vI 0,vN,vF,vO]) [vU 0,vN,vI 0,vN,vF,vO] ([aq.mk (cC.mk 0 [] 0 [] false) []]:List aq) [gL [Gh.nil]] _ Hb hd rfl (by kernel_rfl) (by kernel_rfl) (by kernel_rfl) (by kernel_rfl) (by kernel_rfl) (by kernel_rfl) (by kernel_rfl) rfl (ba.cons (KJ aM.nil) ba.nil)) ?_;rintro v w2 hq;obtain⟨lP,rfl,hq⟩:=hq;replace hS:=hS.join [] [] rfl rfl hq;exact⟨gL [lP],λ_ _=>rfl,hS.aV [0] rfl⟩
      ·intro o ho a w y M Hb hv hO hS;obtain rfl:=cP ho;have H:=((Hb).add (hv 9 (by decide) (by decide) 36 rfl)).add (hv 15 (by decide) (by decide) 42 rfl);have hd:=hS.hand [0,1] [] rfl rfl;refine bg.mono (a1c (T:=ae) (zv:=vG [vU 0,vN,vI 0,vN,vF,vO]) tJ q0 hq H hd rfl rfl rfl rfl rfl rfl rfl rfl (by kernel_rfl) (by kernel_rfl) rfl P7) ?_;rintro v w2 hq;obtain⟨vb,rfl,hq⟩:=hq;replace hS:=hS.join [0,1] [] rfl rfl hq;exact⟨gL [vb],λ_ _=>rfl,hS.aV [0,1] rfl⟩
      ·intro o ho a w y M Hb hv hO hS;obtain rfl:=cP ho;have H:=((Hb).add (hv 17 (by decide) (by decide) 44 rfl)).add (hv 16 (by decide) (by decide) 43 rfl);have hd:=hS.hand [0] [] rfl rfl;refine bg.mono (A2 (T:=lK aq) (g:=g13) (q:=qs) (ix:=J (ln qs-1)) (off:=0) ((q0,y 16 0):Hd aq) (gL []) H hd rfl rfl rfl rfl (by kernel_rfl) rfl rfl tJ rfl trivial rfl) ?_;rintro v w2 hq;obtain⟨UE,hq⟩:=hq;replace hS:=hS.join [0] [] rfl rfl hq;exact⟨gL [Gh.mk none 0 UE],(λ_ h=>by cases h),hS.aV [0] rfl⟩
     have H:Fr 64 (fS [43,41,40,0,1,5,6] [.slice (y 16 0).a q0.length (y 16 0).c,vI (ln (gi qs (J (ln qs-1))).1),.agg ⟨e3 (gi v_ aJ) (ax.s aJ.toNat)⟩,vL ax v_,vU cJ,vL g13 qs,vI aJ]) _:=(((aj.aK (ks:=[0,1,5,6]) mj (by kernel_rfl)).add (hv 13 40 rfl)).add (hv 14 41 rfl)).add (hv 16 43 rfl);have hS:SH M X w [aB.p9 171 ae (cj qs (J (ln qs-1)) (q0,y 16 0)),eO 33 (lK aq) (cj qs (J (ln qs-1)) (q0,y 16 0)) (Gh.mk g13.a g13.c (y 18 0).s),eI ae v_ ax] _:=hS.aV [0,2,3] rfl;clear hv mj;generalize y 16 0=gq at H hS;generalize(y 18 0).s=sq at hS;have hk:0≤J (ln qs-1)∧J (ln qs-1)<ln (cj qs (J (ln qs-1)) (q0,gq)):=by unfold ln at tJ⊢;rw[uu];exact tJ
     replace hS:=hS.a7T hk;rw[a7Q tJ]at hS;have Ha:0≤ln (gi qs (J (ln qs-1))).1∧ln (gi qs (J (ln qs-1))).1<ln q0:=⟨Int.natCast_nonneg _,Int.ofNat_lt.2 (by rw[←hq];simp)⟩;refine aG H hS (dC (gh 1 [0,1,5,6,40,45] [vL ax v_,vU cJ,vL g13 qs,vI aJ,.agg ⟨e3 (gi v_ aJ) (ax.s aJ.toNat)⟩,.pointer (some ⟨ab gq.a,ao gq.a+(ln (gi qs (J (ln qs-1))).1).toNat*6,none⟩)] [kI 0 Ha] ?_));intro _ _ H hS;have hd:=hS.hand [0,3] [1,2,3] rfl rfl;refine vZ [0,1,6,5] (fS [0,1,6,5] [vL ax v_,vU cJ,vI aJ,vL g13 qs]) H rfl rfl rfl (A2 (T:=ae) (g:=gq) (q:=q0) (ix:=ln (gi qs (J (ln qs-1))).1) (off:=0) (gi v_ aJ) (ax.s aJ.toNat) H hd rfl rfl rfl rfl (by kernel_rfl) rfl rfl Ha rfl ((hd.im 1 rfl).el lO) rfl) rfl λ_ _ C2 Aa=>?_;obtain⟨_,s,Aa⟩:=Aa;have xu:=(hS.join [0,3] [1,2,3] rfl rfl Aa).a7U (qs:=cj qs (J (ln qs-1)) (q0,gq)) hk;refine aG C2 xu (ay ?_);have hq1:cj q0 (ln (gi qs (J (ln qs-1))).1) (gi v_ aJ)=(gi qs (J (ln qs-1))).1++[gi v_ aJ]:=by rw[←hq];exact a7R
     rw[hq1];intro _ _ H hS;have hS3:=SH.a7V (a7S (p:=(q0,gq)) (p':=((gi qs (J (ln qs-1))).1++[gi v_ aJ],Gh.mk gq.a gq.c s)) (by show Value.slice gq.a ((gi qs (J (ln qs-1))).1++[gi v_ aJ]).length gq.c=Value.slice gq.a q0.length gq.c;rw[←hq];simp)) (hS.perm (List.Perm.swap _ _ _));exact⟨⟨(cj (cj qs (J (ln qs-1)) (q0,gq)) (J (ln qs-1)) ((gi qs (J (ln qs-1))).1++[gi v_ aJ],Gh.mk gq.a gq.c s),Gh.mk g13.a g13.c sq),by rw[a1a,←a19]⟩,aj.aK (ks:=[0,1,6,5]) H (by show aK _ _=some (fz [0,1,6,5] [vL ax v_,vU cJ,vI aJ,.slice g13.a (cj (cj qs (J (ln qs-1)) (q0,gq)) (J (ln qs-1)) ((gi qs (J (ln qs-1))).1++[gi v_ aJ],Gh.mk gq.a gq.c s)).length g13.c]);rw[uu,uu];kernel_rfl),hS3⟩
    generalize hq:(gi qs (J (ln qs-1))).1++[gi v_ aJ]=q;intro _ _ jU hS;refine Ek (base:=fS [0,1,5,6] [vL ax v_,vU cJ,vL g13 qs,vI aJ]) (L:=[eO 33 (lK aq) qs g13,aB.p9 171 ae qs,eI ae v_ ax]) 18 3 (λy=>[vL g13 qs,vL g13 qs,vI (ln qs),vI (J (ln qs-1)),vL g13 qs,vL g13 qs,vI (ln qs),vI (J (ln qs-1)),.pointer (some ⟨ab g13.a,ao g13.a+(J (ln qs-1)).toNat*1,none⟩),.slice (gi qs (J (ln qs-1))).2.a (gi qs (J (ln qs-1))).1.length (gi qs (J (ln qs-1))).2.c,vL ax v_,vI aJ,.pointer (some ⟨ab ax.a,ao ax.a+aJ.toNat*6,none⟩),.agg ⟨e3 (gi v_ aJ) (ax.s aJ.toNat)⟩,vK (y 14 0) 1,.slice (y 15 0).a q.length (y 15 0).c,.pointer (some ⟨ab g13.a,ao g13.a+(J (ln qs-1)).toNat*1,none⟩),undef]) (λy=>[[],[],[],[],[],[],[],[],[],[],[],[],[],[],[eO 171 ae ([gi v_ aJ]:List aq) (y 14 0)],[aB.p9 171 ae (cj qs (J (ln qs-1)) (q,y 15 0)),eO 171 ae ([gi v_ aJ]:List aq) (y 14 0)],[],[eO 33 (lK aq) (cj qs (J (ln qs-1)) (q,y 15 0)) (Gh.mk g13.a g13.c (y 17 0).s)]]) [[],[],[],[],[],[],[],[],[18],[18],[],[],[20],[20],[20],[19,14],[18],[18]] [[],[],[],[],[],[],[],[],[],[],[],[],[],[],[],[19,14],[],[18]] [[0],[1],[1,2],[1,2,3],[4],[5],[5,6],[5,6,7],[4,5,6,7,8],[4,5,6,7,8,9],[10],[11],[10,11,12],[10,11,12,13],[10,11,12,13,14],[4,5,6,7,8,9,10,11,12,13,14,15],[0,1,2,3,4,5,6,7,8,9,10,11,12,13,14,15,16],[0,1,2,3,4,5,6,7,8,9,10,11,12,13,14,15,16,17]] [] (aj.aK (ks:=[0,1,5,6]) jU (by kernel_rfl)) (λ_ _ h=>by cases h) (by kernel_rfl) hS (by kernel_rfl) rfl rfl (by kernel_rfl) (by kernel_rfl) (by kernel_rfl) (nI (by kernel_rfl) _ _) ?KA λ_ a9m y mj hv hS=>?hK
    case KA=>
     refine⟨bA,bA,bA,bA,bA,bA,bA,bA,se (λ_ _=>[⟨none,λwz=>eg g13.a∧0≤J (ln qs-1)∧J (ln qs-1)<ln qs,λ_ hS=>(hS.bD 0 rfl).iK tJ⟩]),se (λ_ _=>[⟨some (.slice (gi qs (J (ln qs-1))).2.a (gi qs (J (ln qs-1))).1.length (gi qs (J (ln qs-1))).2.c),λwz=>V.c9 ⟨ab g13.a,ao g13.a+(J (ln qs-1)).toNat*1+0,none⟩ (.slice (gi qs (J (ln qs-1))).2.a (gi qs (J (ln qs-1))).1.length (gi qs (J (ln qs-1))).2.c) wz,λ_ hS=>(hS.bD 0 rfl).c9 tJ 0 rfl⟩]),bA,bA,se (λ_ _=>[⟨none,λwz=>eg ax.a∧0≤aJ∧aJ<ln v_,λ_ hS=>(hS.im 0 rfl).iK lO⟩]),se (λ_ _=>[⟨some (.agg ⟨e3 (gi v_ aJ) (ax.s aJ.toNat)⟩),λwz=>V.bH (ab ax.a) (ao ax.a+aJ.toNat*6) (e3 (gi v_ aJ) (ax.s aJ.toNat)) 0 wz,λ_ hS=>(hS.im 0 rfl).dp lO 0 rfl⟩]),?_,?_,se (λ_ _=>[⟨none,λwz=>eg g13.a∧0≤J (ln qs-1)∧J (ln qs-1)<ln qs,λ_ hS=>(hS.bD 0 rfl).iK tJ⟩]),?_,trivial⟩
     ·intro o ho a w y M Hb hv hO hS;obtain rfl:=cP ho;have H:=(Hb).add (hv 13 (by decide) (by decide) 59 rfl);have hd:=hS.hand [0] [0] rfl rfl;refine bg.mono (oM ae 171 (vG [vU 0,vN,vI 0,vN,vF,vO]) [gi v_ aJ] [ax.s aJ.toNat] H hd rfl (ba.cons ((hd.im 0 rfl).el lO) ba.nil)) ?_;rintro v w2 hq;obtain⟨lP,rfl,hq⟩:=hq;replace hS:=hS.join [0] [0] rfl rfl hq;exact⟨gL [lP],λ_ _=>rfl,hS.aV [0,1] rfl⟩
     ·intro o ho a w y M Hb hv hO hS;obtain rfl:=cP ho;have H:=((Hb).add (hv 9 (by decide) (by decide) 55 rfl)).add (hv 14 (by decide) (by decide) 60 rfl);have hd:=hS.hand [0,1] [] rfl rfl;refine bg.mono (a1c (T:=ae) (zv:=vG [vU 0,vN,vI 0,vN,vF,vO]) tJ q hq H hd rfl rfl rfl rfl rfl rfl rfl rfl (by kernel_rfl) (by kernel_rfl) rfl P7) ?_;rintro v w2 hq;obtain⟨vb,rfl,hq⟩:=hq;replace hS:=hS.join [0,1] [] rfl rfl hq;exact⟨gL [vb],λ_ _=>rfl,hS.aV [0,1] rfl⟩
     ·intro o ho a w y M Hb hv hO hS;obtain rfl:=cP ho;have H:=((Hb).add (hv 16 (by decide) (by decide) 62 rfl)).add (hv 15 (by decide) (by decide) 61 rfl);have hd:=hS.hand [0] [] rfl rfl;refine bg.mono (A2 (T:=lK aq) (g:=g13) (q:=qs) (ix:=J (ln qs-1)) (off:=0) ((q,y 15 0):Hd aq) (gL []) H hd rfl rfl rfl rfl (by kernel_rfl) rfl rfl tJ rfl trivial rfl) ?_;rintro v w2 hq;obtain⟨UE,hq⟩:=hq;replace hS:=hS.join [0] [] rfl rfl hq;exact⟨gL [Gh.mk none 0 UE],(λ_ h=>by cases h),hS.aV [0] rfl⟩
    have hS:SH M X w [eO 33 (lK aq) (cj qs (J (ln qs-1)) (q,y 15 0)) (Gh.mk g13.a g13.c (y 17 0).s),aB.p9 171 ae (cj qs (J (ln qs-1)) (q,y 15 0)),eI ae v_ ax] _:=hS.aV [2,0,3] rfl;exact⟨⟨(cj qs (J (ln qs-1)) (q,y 15 0),Gh.mk g13.a g13.c (y 17 0).s),by rw[←a19]⟩,aj.aK (ks:=[0,1,6,5]) mj (by show aK _ _=some (fz [0,1,6,5] [vL ax v_,vU cJ,vI aJ,.slice g13.a (cj qs (J (ln qs-1)) (q,y 15 0)).length g13.c]);rw[uu];kernel_rfl),hS⟩
   ·rintro⟨⟨qs',qE⟩,hq⟩;exact py [0,1,5,6] [vL ax v_,vU cJ,vL qE qs',vI (J (aJ+1))] [] (λ_ _ EN hS=>⟨_,Nat.lt_succ_self _,qs',J (aJ+1),qE,hq▸hm,aj.aK (ks:=[0,1,5,6]) EN (by kernel_rfl),hS⟩)
 ·intro oE;refine ai [0] (cy [4] [vL oE z9] [] (aL ?_));obtain rfl:=cP hm;exact dm oE [0] KD
def Pz(m:Nat):Nat→List aq→Option (List aq)
 |0,_=>none
 |kk+1,v5=>az (decide (0<ln v5)=true→0≤(0:Int)∧(0:Int)<ln v5)<|lt (cond (decide (0<ln v5)) ((gi v5 (0:Int)).aT.af==13) false) λx8=>cond x8 (az (0≤(1:Int)∧(1:Int)≤ln v5∧ln v5≤ln v5)<|lt (gf v5 (1:Int) (ln v5)) λmJ=>Pz m kk mJ) (some v5)
def PA(m:Nat):Nat→List aq→Option (List aq)
 |0,_=>none
 |kk+1,fm=>az (decide (0<ln fm)=true→0≤J (ln fm-1)∧J (ln fm-1)<ln fm)<|lt (cond (decide (0<ln fm)) ((gi fm (J (ln fm-1))).aT.af==13) false) λso=>cond so (az (0≤(0:Int)∧(0:Int)≤J (ln fm-1)∧J (ln fm-1)≤ln fm)<|lt (gf fm (0:Int) (J (ln fm-1))) λsr=>PA m kk sr) (some fm)
def C3(m:Nat)(v_:List aq):Option (List aq):=Option.bind (Pz m m v_) λ(z3:List aq)=>Option.bind (PA m m z3) λ(z25:List aq)=>some z25
theorem Hz{ax:Gh}(m)(v_)(r)(hm:C3 m v_=some r):Dm 184 [vL ax v_] [eI ae v_ ax] (λ(aI:Gh)=>vL aI r) (λaI=>[eI ae r aI]):=by
 rw[C3]at hm;refine gY (call184 _) func184 ntmps184 λM X w=>?_;refine uO [] ?_;obtain⟨z3,hz,hm⟩:=a8 hm;refine h9 [] [0] (λ(g23:Gh)=>[vL g23 z3]) (λg23=>[eI ae z3 g23,eI ae v_ ax]) ?_ ?_;replace hm:=hz;refine aC ?_;intro _ _ H2 hS;replace hS:=hS.eF (hS.im 0 rfl);refine gb (λkk a' w'=>∃(v5:List aq)(g6:Gh),Pz m kk v5=some _∧Fr 36 [(0,[],vL g6 v5)] a'∧SH M X w [eI ae v5 g6,eI ae v_ ax] w') ⟨_,v_,ax,hm,aj.aK (ks:=[0]) H2 (by kernel_rfl),hS⟩ ?_;clear hm H2 hS;rintro kk _ _ ⟨v5,g6,hm,H,hS⟩;cases kk with
 |zero=>exact cD hm
 |succ kk=>
  rw[Pz]at hm;refine aG H hS (ah ?_);obtain⟨Ey,x8,ss,hm⟩:=cE hm;refine uI [jH (gT (decide (0<ln v5))) 0 λhg=>Ey hg.1,km (gT (decide (0<ln v5))) 0 0 λhg=>Ey hg.1] hm ?_ ?_ (he:=by subst ss;kernel_rfl);refine λhm=>ag (aC (dC (uB 1 [0] [14] [vL g6 v5] [] ?_)));obtain⟨bX,mJ,KW,hm⟩:=cE hm;refine uM [0] [0,1] [14] (λ_ _ su hd=>yJ (T:=ae) (E:=171) (g:=g6) (q:=v5) (1:Int) (ln v5) (.some (vI 1)) .none su hd (hd.im 0 rfl) rfl rfl rfl rfl rfl rfl (.inr ⟨_,rfl⟩) (.inl ⟨rfl,rfl⟩) (by kernel_rfl) (by kernel_rfl) bX) λg17=>?_;rw[←KW];exact uB 3 [15] [0] [vL g17 mJ] [] (ay (ai [0,1,3] (ai [0,2] (λ_ _ jU hS=>⟨_,Nat.lt_succ_self _,mJ,g17,hm,aj.aK (ks:=[0]) jU (by kernel_rfl),hS⟩))));refine λhm=>bl ?_;cases hm;exact tg g6
 intro g23;refine ai [0] ?_;obtain⟨z25,hz,hm⟩:=a8 hm;refine h9 [] [0] (λ(jy:Gh)=>[vL jy z25]) (λjy=>[eI ae z25 jy,eI ae z3 g23]) ?_ ?_;replace hm:=hz;refine aC ?_;intro _ _ H hS;replace hS:=hS.eF (hS.im 0 rfl);refine gb (λkk a' w'=>∃(fm:List aq)(rf:Gh),PA m kk fm=some _∧Fr 36 [(0,[],vL rf fm)] a'∧SH M X w [eI ae fm rf,eI ae z3 g23] w') ⟨_,z3,g23,hm,aj.aK (ks:=[0]) H (by kernel_rfl),hS⟩ ?_;clear hm H hS;rintro kk _ _ ⟨fm,rf,hm,H,hS⟩;cases kk with
 |zero=>exact cD hm
 |succ kk=>
  rw[PA]at hm;refine aG H hS (ah ?_);obtain⟨qF,so,HA,hm⟩:=cE hm;refine uI [jH (gT (decide (0<ln fm))) 0 λhg=>qF hg.1,km (gT (decide (0<ln fm))) 0 0 λhg=>qF hg.1] hm ?_ ?_ (he:=by subst HA;kernel_rfl);refine λhm=>ag (aC (dC (uB 4 [0] [30,33] [vL rf fm,vI (J (ln fm-1))] [] ?_)));obtain⟨xH,sr,HB,hm⟩:=cE hm;refine uM [0] [0,1] [30,33] (λ_ _ j3 hd=>yJ (T:=ae) (E:=171) (g:=rf) (q:=fm) (0:Int) (J (ln fm-1)) .none (.some (vI (J (ln fm-1)))) j3 hd (hd.im 0 rfl) rfl rfl rfl rfl rfl rfl (.inl ⟨rfl,rfl⟩) (.inr ⟨_,rfl⟩) (by kernel_rfl) (by kernel_rfl) xH) λpG=>?_;rw[←HB];exact uB 6 [34] [0] [vL pG sr] [] (ay (ai [0,1,3] (ai [0,2] (λ_ _ EO hS=>⟨_,Nat.lt_succ_self _,sr,pG,hm,aj.aK (ks:=[0]) EO (by kernel_rfl),hS⟩))));refine λhm=>bl ?_;cases hm;exact tg rf
 intro jy;refine ai [0] (uR [0] [2] [vL jy z25] [] (aL ?_));cases hm;exact dm jy [0] bo

def xI(v_:List aq)(i:Int)(cJ:Int)(s:a7):Option Bool:=lt (cond (decide (0≤i)) (decide (i<ln v_)) false) λx3=>az (x3=true→0≤i∧i<ln v_)<|lt (cond x3 ((gi v_ i).aT.af==cJ) false) λx5=>az ((s==[])=false→x5=true→0≤i∧i<ln v_)<|lt (cond x5 (cond (s==[]) true ((gi v_ i).aT.di==s)) false) λx7=>some x7
theorem Af{ax:Gh}(v_)(i)(cJ)(s)(r)(hm:xI v_ i cJ s=some r)(w)(hL:Rd [eI ae v_ ax] w):Rb 299 [vL ax v_,vI i,vU cJ,vS s] (vB r) w:=by
 rw[xI]at hm;refine cz hL (call299 _) func299 ntmps299 λM X w=>?_;refine uO [] ?_;obtain⟨x3,iT,sv,hm⟩:=kO hm;obtain⟨x5,EP,sf,hm⟩:=kO hm;obtain⟨x7,xA,hm⟩:=bc hm;refine uR [0,1,2,3] [8] [vB x7] [jH (gT x3) 0 λhg=>sv hg.1,km (gT x3) 0 0 λhg=>sv hg.1,jH ((s==[])=false∧x5=true∧True) 0 λhg=>sf hg.1 hg.2.1,km ((s==[])=false∧x5=true∧True) 0 1 λhg=>sf hg.1 hg.2.1] (ai [] (aL ?_)) (he:=by subst iT EP xA;kernel_rfl);cases hm;exact bf [] bo

def UF(m:Nat)(s:a7):Nat→Int→List Int→Option (List Int)
 |0,_,_=>none
 |kk+1,aJ,aX=>cond (decide (aJ<ln (bO s))) (az (0≤aJ∧aJ<ln (bO s))<|Option.bind (Pb (gi aX aJ)) λgk=>lt (yE aX aJ gk) λq24=>UF m s kk (J (aJ+1)) q24) (some aX)
def C4(m:Nat)(s:a7):Option a7:=Option.bind (UF m s m 0 (bO s)) λ(dk:List Int)=>some (iL dk)
theorem HC(m)(s)(r)(hm:C4 m s=some r):Rt 183 [vS s] (vS r):=by
 rw[C4]at hm;refine dy (call183 _) func183 ntmps183 λM X w=>?_;refine uO [] (aF (uB 1 [0] [5] [vS s] [] ?_));intro _ _ H4 hS;have hd:=hS.hand [] [] rfl rfl;refine eZ [6] [] H4 rfl rfl rfl rfl (Kq (E:=5) H4 hd rfl (by kernel_rfl) (by kernel_rfl) (by kernel_rfl)) (λ_=>rfl) λ_ _ v H8 hq=>?_;obtain⟨b5,c6,rfl,UG,hq⟩:=hq;replace hS:=hS.join [] [] rfl rfl hq;refine aG H8 hS (gh 3 [3] [.slice (some ⟨b5,0,none⟩) (bO s).length c6] [] (ay ?_));obtain⟨dk,hz,hm⟩:=a8 hm;refine uK [] [] [] [aB.row .u8 b5 dk (ln (bO s))] ?_ ?_;refine uA 4 (vI 0) [] (aC (jd [] [4] (λaJ _=>[vI aJ]) (λ_ aX=>[aB.row .u8 b5 aX (ln (bO s))]) hz (λkk aJ aX hm=>?_)));rw[UF]at hm;refine ah (uI [] hm ?_ ?_);refine λhm=>ag (ah (aC (dC ?_)));obtain⟨lO,gk,rk,hm⟩:=kP hm;refine uB 8 [] [19,20] [vU gk,.pointer (some ⟨b5,0+aJ.toNat*1,none⟩)] [⟨none,λ_=>eg (some ⟨b5,0,none⟩)∧0≤aJ∧aJ<ln (bO s),λ_ _=>⟨rfl,lO⟩⟩,⟨some (vU (gi aX aJ)),λwz=>V.c9 ⟨b5,0+aJ.toNat*1,none⟩ (vU (gi aX aJ)) wz,λ_ hS=>Rw.H0 (hS.rw 0 rfl) lO⟩,kc (a1t _ _ rk),⟨none,λ_=>eg (some ⟨b5,0,none⟩)∧0≤aJ∧aJ<ln (bO s),λ_ _=>⟨rfl,lO⟩⟩] ?_;intro _ _ rm hS;have hd:=hS.hand [0] [] rfl rfl;refine vZ [3,4] (fS [3,4] [.slice (some ⟨b5,0,none⟩) (bO s).length c6,vI aJ]) rm rfl rfl rfl (OJ rm hd rfl rfl (by kernel_rfl) lO) rfl λ_ _ Ag hq=>?_;obtain⟨_,hq⟩:=hq;obtain⟨q24,a9n,hm⟩:=bc hm;rw[←a9n]at hq;replace hS:=hS.join [0] [] rfl rfl hq;exact aG Ag hS (ay (py [3,4] [.slice (some ⟨b5,0,none⟩) (bO s).length c6,vI (J (aJ+1))] [] (ug2 hm)));refine λhm=>bl ?_;cases hm;exact te;intro _ _ H hS;refine GS [vS (iL dk)] [2] [(2,[],vS (iL dk))] [λwz=>∀w',Below wz.heap.size wz w'→(convert 115 9 (.slice (some ⟨b5,0,none⟩) (bO s).length c6)).run prog w'=.ok (vS (iL dk)) w'] H (by kernel_rfl) ⟨OB (E:=5) (by kernel_rfl) (by kernel_rfl) (by kernel_rfl) (hS.rw 0 rfl).1 (hS.rw 0 rfl).2,trivial⟩ λ_ _ qG hb=>?_;replace hS:=hS.below hb;replace hS:SH M _ w [] _:=hS.aV [] rfl;refine aG qG hS (aL ?_);cases hm;exact bf [] bo

def UH(v_:List aq)(i:Int)(p:xG):Option (fc×Int×Bool):=Option.bind (xI v_ i 4 []) λy9=>cond y9 (none) (Option.bind (xI v_ i 9 [46]) λdH=>cond dH (none) (Option.bind (xI v_ i 19 []) λdD=>cond dD (none) (Option.bind (xI v_ i 16 []) λfT=>Option.bind (cond fT (xI v_ (J (i+1)) 1 []) (some default)) λgk=>cond (cond fT gk false) (none) (Option.bind (xI v_ i 16 []) λib=>Option.bind (cond ib (xI v_ (J (i+1)) 2 []) (some default)) λsc=>cond (cond ib sc false) (none) (Option.bind (xI v_ i 16 []) λlp=>some (fc.mk 0 [] 0 [] false (yS.mk 0 0) false ([]:List bw),i,!lp))))))
theorem a9o{ax:Gh}(v_)(i)(p)(r)(hm:UH v_ i p=some r):Dm 300 [vL ax v_,vI i,vG [vI p.dX,vB p.has]] [eI ae v_ ax] (λ(aI:Gh)=>.tuple ⟨[.agg ⟨e2 r.1 (gL [aI])⟩,vI r.2.1,vB r.2.2]⟩) (λaI=>[eO 117 bG r.1.aa aI]):=by
 rw[UH]at hm;refine gY (call300 _) func300 ntmps300 λM X w=>(aF ?_);refine uM [] [0] [2] (oB [vI p.dX,vB p.has] rfl) λb1=>uM [] [0,1] [] (oA [vU 0,vN,vU 0,vN,vF,vI 0,vI 0,vF,vO]) λb4=>uP 4 [] (ay (ah (aC ?_)));obtain⟨y9,oy,hm⟩:=a8 hm;refine gZ [kr λ_ hS=>Af (ax:=ax) _ _ _ _ _ oy _ (aA aU (hS.im 2 rfl))] hm ?_;intro hm;obtain⟨dH,ku,hm⟩:=a8 hm;refine uI [kr λ_ hS=>Af (ax:=ax) _ _ _ _ _ ku _ (aA aU (hS.im 2 rfl))] hm ?_ ?_;refine λhm=>ah ?_;intro _ _ kv hS;exact cD hm;intro hm;obtain⟨dD,nM,hm⟩:=a8 hm;refine gZ [kr λ_ hS=>Af (ax:=ax) _ _ _ _ _ nM _ (aA aU (hS.im 2 rfl))] hm ?_;intro hm;obtain⟨fT,tG,gk,rk,hm⟩:=pA hm;refine gZ [kr λ_ hS=>Af (ax:=ax) _ _ _ _ _ tG _ (aA aU (hS.im 2 rfl)),eY (gT fT) λ_ hS hg=>Af (ax:=ax) _ _ _ _ _ (bT (hg.1) rk) _ (aA aU (hS.im 2 rfl))] hm ?_;intro hm;obtain⟨ib,xB,sc,KP,hm⟩:=pA hm;refine gZ [kr λ_ hS=>Af (ax:=ax) _ _ _ _ _ xB _ (aA aU (hS.im 2 rfl)),eY (gT ib) λ_ hS hg=>Af (ax:=ax) _ _ _ _ _ (bT (hg.1) KP) _ (aA aU (hS.im 2 rfl))] hm (λhm=>ag (aF ?_));obtain⟨lp,EQ,hm⟩:=a8 hm;refine uB 6 [0,1,5] [129,130,134] [vG [vU 0,vN,vU 0,vN,vF,vI 0,vI 0,vF,vO],vI i,vB (!lp)] [kr λ_ hS=>Af (ax:=ax) _ _ _ _ _ EQ _ (aA aU (hS.im 2 rfl))] (uL [0] [1,2] [129] (oS [vU 0,vN,vU 0,vN,vF,vI 0,vI 0,vF,vO] rfl rfl) (uB 9 [130,134] [7,8] [vI i,vB (!lp)] [] (ay (ai [0] (aL ?_)))));cases hm;exact da 117 bG (λ_ _ kR hS=>a0d kR rfl (r7 rfl (hS.bk 1 rfl) underlying167 rfl (by kernel_rfl)) rfl rfl ⟨_,rfl,Gh.nil,rfl,hS.aV [0] rfl⟩)

def UI(m:Nat)(s:a7):Nat→Int→Option Unit
 |0,_=>none
 |kk+1,v6=>cond (decide (v6<ln s)) (az (0≤v6∧v6<ln s)<|cond (bU s v6==0) (none) (UI m s kk (J (v6+1)))) (some ())
def UJ(m:Nat)(s:a7)(dS:Int):Option Bool:=Option.bind (UI m s m 0) λ(z3:Unit)=>some (decide (ln s≤dS))
theorem a9p(m)(s)(dS)(r)(hm:UJ m s dS=some r):Rt 307 [vS s,vI dS] (vB r):=by
 rw[UJ]at hm;refine dy (call307 _) func307 ntmps307 λM X w=>?_;refine uO [] ?_;obtain⟨z3,hz,hm⟩:=a8 hm;refine uK [] [] [] [] ?_ ?_;refine uA 5 (vI 0) [] (aC (eX [] [5] (λv6=>[vI v6]) (λ_=>[]) hz (λkk v6 hm=>?_)));rw[UI]at hm;refine ah (uI [] hm ?_ ?_);refine λhm=>ag (ah (aC ?_));obtain⟨xJ,hm⟩:=bY hm;refine gZ [kh xJ] hm ?_;intro hm;exact ag (fQ [] hm);refine λhm=>bl ?_;cases hm;exact te;cases hm;exact uZ [] []

def PB(m:Nat)(s:a7):Option Bool:=Option.bind (cond (!(s==[])) (UJ m s 64) (some default)) λy3=>some (cond (!(s==[])) y3 false)
theorem a1F(m)(s)(r)(hm:PB m s=some r):Rt 276 [vS s] (vB r):=by
 rw[PB]at hm;refine dy (call276 _) func276 ntmps276 λM X w=>?_;refine uO [] ?_;obtain⟨y3,cq,hm⟩:=a8 hm;cases hm;exact uZ [] [gg (gT (!(s==[]))) λhg=>a9p m _ _ _ (bT (hg.1) cq)]

def UK(m:Nat)(s:a7):Option Bool:=Option.bind (PB m s) λy3=>Option.bind (cond y3 (C4 m s) (some default)) λy4=>some (cond y3 (s==y4) false)
theorem a9q(m)(s)(r)(hm:UK m s=some r):Rt 320 [vS s] (vB r):=by
 rw[UK]at hm;refine dy (call320 _) func320 ntmps320 λM X w=>?_;refine uO [] ?_;obtain⟨y3,cq,y4,rh,hm⟩:=pA hm;cases hm;exact uZ [] [kc (a1F m _ _ cq),gg (gT y3) λhg=>HC m _ _ (bT (hg.1) rh)]

def a1G(m:Nat)(c_:gE):Nat→Int→Option Unit
 |0,_=>none
 |kk+1,bz=>cond (decide (bz<ln c_.bE)) (none) (some ())
def UL(m:Nat)(c_:gE)(p:xG):Option Bool:=lt (cond (!(c_.Tag==[])) (!(c_.Tag==[42])) false) λx9=>Option.bind (cond x9 (UK m c_.Tag) (some default)) λcF=>lt (cond (cond x9 (!cF) false) true (cond (c_.Tag==[]) (ln c_.bE==0) false)) λdV=>lt (cond dV true (decide (64<ln c_.bE))) λkT=>cond kT (none) (Option.bind (a1G m c_ m 0) λ(ie:Unit)=>some true)
theorem a9r{aE:Gh}(m)(c_)(p)(r)(hm:UL m c_ p=some r)(w)(hL:Rd [eI ox c_.bE aE] w):Rb 301 [vG [vS c_.Tag,vL aE c_.bE],vG [vI p.dX,vB p.has]] (vB r) w:=by
 rw[UL]at hm;refine cz hL (call301 _) func301 ntmps301 λM X w=>(aF ?_);refine uM [] [0] [0] (oB [vS c_.Tag,vL aE c_.bE] rfl) λb1=>uM [] [0,1] [1] (oB [vI p.dX,vB p.has] rfl) λb4=>uP 3 [] (ay (ah ?_));obtain⟨x9,qH,cF,lj,hm⟩:=pb hm;obtain⟨dV,ng,kT,sx,hm⟩:=eL hm;refine gZ [kb 1 0,bx (gT (!(c_.Tag==[]))) 1 0,bx (gT x9) 1 0,gg (gT x9) λhg=>a9q m _ _ (bT (hg.1) lj),bx (gF (cond x9 (!cF) false)) 1 0,bx ((c_.Tag==[])=true∧cond x9 (!cF) false=false∧True) 1 1,bx (gF dV) 1 1] hm (λhm=>ag ?_) (he:=by subst qH ng sx;kernel_rfl);obtain⟨ie,hz,hm⟩:=a8 hm;refine uK [2,3] [] [] [eB b4 [vI p.dX,vB p.has],eB b1 [vS c_.Tag,vL aE c_.bE],eI ox c_.bE aE] ?_ ?_;refine uA 5 (vI 0) [] (aC (eX [] [5] (λbz=>[vI bz]) (λ_=>[eB b4 [vI p.dX,vB p.has],eB b1 [vS c_.Tag,vL aE c_.bE],eI ox c_.bE aE]) hz (λkk bz hm=>?_)));rw[a1G]at hm;refine ah (uI [kb 1 1] hm ?_ ?_);refine λhm=>ag (ah (aC ?_));intro _ _ jU hS;exact cD hm;refine λhm=>bl ?_;cases hm;exact te;refine ai [] ?_;cases hm;exact uZ [] []

def a1H(m:Nat)(v_:List aq)(p:xG)(aW:a7):Nat→Int→Option (gE×Int×Bool)
 |0,_=>none
 |kk+1,v23=>Option.bind (UH v_ v23 p) λlp=>cond (!lp.2.2) (none) (cond (lp.2.1==v23) (Option.bind (UL m (gE.mk aW []) p) λgG=>some (gE.mk aW ([]:List fc),v23,gG)) (none))
def UM(m:Nat)(v_:List aq)(i:Int)(p:xG):Option (gE×Int×Bool):=Option.bind (xI v_ i 1 []) λdH=>cond dH (az (0≤i∧i<ln v_)<|Option.bind (C4 m (gi v_ i).aT.di) λaW=>a1H m v_ p aW m (J (i+1))) (none)
theorem a9s{ax:Gh}(m)(v_)(i)(p)(r)(hm:UM m v_ i p=some r):Dm 271 [vL ax v_,vI i,vG [vI p.dX,vB p.has]] [eI ae v_ ax] (λ(aI:Gh)=>vW [vG [vS r.1.Tag,vL aI r.1.bE],vI r.2.1,vB r.2.2]) (λaI=>[eO 167 ox r.1.bE aI]):=by
 rw[UM]at hm;refine gY (call271 _) func271 ntmps271 λM X w=>(aF ?_);refine uM [] [0] [2] (oB [vI p.dX,vB p.has] rfl) λb1=>uM [] [0,1] [] (oA [vN,vO]) λb4=>uP 4 [] (ay (aF (uM [] [0,1,2] [] (oA [vN,vO]) λb9=>ay (ah ?_))));obtain⟨dH,ku,hm⟩:=a8 hm;refine uR [] [9,15] [vP b9,vB dH] [kr λ_ hS=>Af (ax:=ax) _ _ _ _ _ ku _ (aA aU (hS.im 3 rfl))] (a0U hm (λhm=>aF ?_));obtain⟨fM,aW,mI,hm⟩:=kP hm;refine uB 8 [15] [22,23] [vS aW,vP b9] [ki 3 fM,kj 3 1 fM,kc (HC m _ _ mI)] (uL [0] [1,2,3] [22,23] (oS [vS aW,vO] rfl rfl) (ay (uW [] [0,1,5,6,9] [vL ax v_,vI (J (i+1)),vP b1,vP b4,vP b9] [] (aC (eX [] [1] (λv23=>[vI v23]) (λ_=>[eB b9 [vS aW,vO],eB b4 [vN,vO],eB b1 [vI p.dX,vB p.has],eI ae v_ ax]) hm (λkk v23 hm=>?_))))));rw[a1H]at hm;refine aC (aF (uB 3 [] [33,34,35] [vL ax v_,vI v23,vG [vI p.dX,vB p.has]] [kE 2 2] ?_));obtain⟨lp,EQ,hm⟩:=a8 hm;refine uQ [3] [0,1,2,3] [33,34,35] (a9o (ax:=ax) _ _ _ _ EQ) λlP=>uB 8 [36] [37,38,39] [.agg ⟨e2 lp.1 (gL [lP])⟩,vI lp.2.1,vB lp.2.2] [] (uM [] [0,1,2,3,4] [] (oA [vU 0,vN,vU 0,vN,vF,vI 0,vI 0,vF,vO]) λUN=>uL [0] [1,2,3,4,5] [37] (oS (e2 lp.1 (gL [lP])) rfl rfl) (uB 12 [38,39] [0,1,5,6,9,10,11,12] [vL ax v_,vI v23,vP b1,vP b4,vP b9,vP UN,vI lp.2.1,vB lp.2.2] [] (ay (ah (uz [12] [] hm (λhm=>ag (ah (uI [] hm ?_ ?_))))))));intro hm;obtain⟨gG,ER,hm⟩:=a8 hm;intro _ _ wy hS;refine rY (base:=fS [1,5,6,9] [vI v23,vP b1,vP b4,vP b9]) (L:=[eB UN (e2 lp.1 (gL [lP])),eO 117 bG lp.1.aa lP,eB b9 [vS aW,vO],eB b4 [vN,vO],eB b1 [vI p.dX,vB p.has],eI ae v_ ax]) 8 6 (λUO=>[vG [vS aW,vO],vI v23,vG [vS aW,vO],vG [vI p.dX,vB p.has],vB gG,undef,vI v23,vB gG]) (λUO=>[[],[],[],[],[],[eB b4 [vS aW,vO]],[],[]]) [[10],[],[10],[12],[],[11],[],[]] [[],[],[],[],[],[11],[],[]] [[0],[1],[2],[3],[2,3,4],[0,5],[1,6],[2,3,4,7]] [] (aj.aK (ks:=[1,5,6,9]) wy (by kernel_rfl)) (λ_ _ h=>by cases h) (by kernel_rfl) hS (by kernel_rfl) rfl rfl (by kernel_rfl) (by kernel_rfl) (by kernel_rfl) (nI (by kernel_rfl) _ _) ?a9t λ_ _ UO yX hv hS=>?alR
 case a9t=>
  refine⟨se (λ_ _=>[⟨some (vG [vS aW,vO]),rN b9 0 [vS aW,vO],λ_ hS=>(hS.bk 0 rfl).eW rfl⟩]),bA,se (λ_ _=>[⟨some (vG [vS aW,vO]),rN b9 0 [vS aW,vO],λ_ hS=>(hS.bk 0 rfl).eW rfl⟩]),se (λ_ _=>[⟨some (vG [vI p.dX,vB p.has]),rN b1 0 [vI p.dX,vB p.has],λ_ hS=>(hS.bk 0 rfl).eW rfl⟩]),se (λ_ _=>[⟨some (vB gG),rB 301 [vG [vS aW,vO],vG [vI p.dX,vB p.has]] (vB gG),λ_ _=>a9r (aE:=Gh.nil) m _ _ _ ER _ (aA aU (aM.nil (M:=F0) (g:=Gh.nil)))⟩]),?_,bA,bA,trivial⟩;intro o ho a w UO M Hb hv hO bR;obtain rfl:=cP ho;have H:=(Hb).add (hv 0 (by decide) (by decide) 47 rfl);have hS:=bR;have hd:=hS.hand [0] [] rfl rfl;refine bg.mono (r8 [vS aW,vO] H hd rfl rfl (by kernel_rfl) rfl rfl rfl) ?_;rintro v w2 hq;replace hS:=hS.join [0] [] rfl rfl hq;exact⟨gL [],(λ_ h=>by cases h),hS.aV [0] rfl⟩
 have wA:Fr 59 (fS [8,7,6] [vB gG,vI v23,vP b4]) _:=aj.add (aj.add (aj.aK (ks:=[6]) yX (by kernel_rfl)) (hv 6 7 rfl)) (hv 7 8 rfl);replace hS:SH M _ w [eB b4 [vS aW,vO],eB UN (e2 lp.1 (gL [lP])),eO 117 bG lp.1.aa lP,eB b9 [vS aW,vO],eB b1 [vI p.dX,vB p.has],eI ae v_ ax] _:=hS;clear hv yX;replace hS:=hS.aV [0,3,4,5] rfl;refine aG wA hS (aL ?_);cases hm;exact da 167 ox (λ_ _ wA hS=>a0d wA rfl (r7 rfl (hS.bk 1 rfl) underlying150 rfl (by kernel_rfl)) rfl rfl ⟨_,rfl,Gh.nil,rfl,hS.aV [0] rfl⟩);refine λhm=>ag ?_;intro _ _ wy hS;exact cD hm

def a1I(m:Nat)(p:xG)(dB:List aq):Nat→Int→Option (bw×Bool)
 |0,_=>none
 |kk+1,v25=>Option.bind (UM m dB v25 p) λdn=>cond (!dn.2.2) (none) (az (ln ([]:List gE)+ln ([dn.1]:List gE)≤137438953472)<|lt (([]:List gE)++([dn.1]:List gE)) λj6=>cond (dn.2.1==ln dB) (some (bw.mk 0 j6 ([]:List Int),decide (ln j6≤64))) (none))
def UP(m:Nat)(v_:List aq)(p:xG)(ji:Bool):Option (bw×Bool):=Option.bind (C3 m v_) λdB=>cond ji (none) (a1I m p dB m 0)
theorem a9u{ax:Gh}(m)(v_)(p)(ji)(r)(hm:UP m v_ p ji=some r)(M:Av)(w:World)(hS:S0 M [eI ae v_ ax] w):eJ prog 229 ⟨[vL ax v_,vG [vI p.dX,vB p.has],vB ji]⟩ w (λv w'=>∃(aI:Gh)(jx:Gh),v=.tuple ⟨[.agg ⟨e0 r.1 (gL [aI,jx])⟩,vB r.2]⟩∧SH M (aD [eI ae v_ ax]) w [eO 150 jJ r.1.bn aI,eO 5 (tI .u8) r.1.gj jx] w'):=⟨call229 _,by
 rw[UP]at hm;unfold S0 at hS;generalize aD [eI ae v_ ax]=X at hS⊢;refine dQ func229 rfl ntmps229 rfl λ_ H=>aG H hS (aF (fb [] [0] [0,2] [vL ax v_,vB ji] (oB [vI p.dX,vB p.has] rfl) λb1=>uM [] [0,1] [] (oA [vU 0,vO,vO]) λb4=>uP 3 [] (ay (aF (uM [] [0,1,2] [] (oA [vU 0,vO,vO]) λb9=>ay (aF (uB 1 [0] [8,15] [vP b9,vL ax v_] [] ?_)))))));obtain⟨dB,pH,hm⟩:=a8 hm;refine uQ [3] [0,1,2,3] [15] (Hz (ax:=ax) m _ _ pH) λg15=>uB 3 [16] [0] [vL g15 dB] [] (ay (ai [0,1,2,3] (uA 9 (vI 0) [] (ah (uR [2] [0,4,6,8,9,17] [vL g15 dB,vP b1,vP b4,vP b9,vI 0,vB ji] [] (Ei hm (λhm=>ag (aC (eX [17] [9] (λv25=>[vI v25]) (λ_=>[eI ae dB g15,eB b9 [vU 0,vO,vO],eB b4 [vU 0,vO,vO],eB b1 [vI p.dX,vB p.has]]) hm (λkk v25 hm=>?_))))))))));rw[a1I]at hm;refine aC (aF (uB 3 [9] [28,29,30] [vL g15 dB,vI v25,vG [vI p.dX,vB p.has]] [kE 3 2] ?_));obtain⟨dn,vc,hm⟩:=a8 hm;refine uQ [0] [0,1,2,3] [28,29,30] (a9s (ax:=g15) m _ _ _ _ vc) λhH=>uB 8 [31] [32,33,34] [vG [vS dn.1.Tag,vL hH dn.1.bE],vI dn.2.1,vB dn.2.2] [] (uM [] [0,1,2,3,4] [] (oA [vN,vO]) λb35=>uL [0] [1,2,3,4,5] [32] (oS [vS dn.1.Tag,vL hH dn.1.bE] rfl rfl) (uB 12 [33,34] [0,4,6,8,11,12,13] [vL g15 dB,vP b1,vP b4,vP b9,vP b35,vI dn.2.1,vB dn.2.2] [] (ay (ah (uz [13] [] hm (λhm=>ag (aF (uB 3 [11] [39,40] [vO,vG [vS dn.1.Tag,vL hH dn.1.bE]] [kb 3 1,kE 0 2] (kN [1,0,2,3,4,5] (uM [0] [0,1,2,3,4,5] [40] (oL jJ 150 (vG [vN,vO]) [dn.1] [gL [hH]] (λhd=>ba.cons (a1n (hd.im 0 rfl)) ba.nil) rfl) λnh=>?_))))))))));refine da 150 jJ ?_;obtain⟨EK,j6,UD,hm⟩:=cE hm;refine uM [0,1] [2,3,4,5,6,7] [39,41] (oP jJ (vG [vN,vO]) Gh.nil nh UD EK rfl rfl) λkS=>uB 6 [] [42,43] [vL kS j6,vA b9 1] [] (uL [5] [0,1,2,3,4,6,7] [42,43] (oS [vU 0,vL kS j6,vO] rfl rfl) (ay (ai [0,1,5,6,7] (ah (uI [] hm ?_ ?_)))));intro hm;intro _ _ ET hS;refine rY (base:=fS [6,8] [vP b4,vP b9]) (L:=[eB b9 [vU 0,vL kS j6,vO],eO 150 jJ j6 kS,eI ae dB g15,eB b4 [vU 0,vO,vO],eB b1 [vI p.dX,vB p.has]]) 7 5 (λUQ=>[vG [vU 0,vL kS j6,vO],vA b9 1,vL kS j6,vI (ln j6),vB (decide (ln j6≤64)),undef,vB (decide (ln j6≤64))]) (λUQ=>[[],[],[],[],[],[eB b4 [vU 0,vL kS j6,vO]],[]]) [[7,8],[7,8],[7,8],[8],[],[8,10],[]] [[],[],[],[],[],[10],[]] [[0],[1],[1,2],[1,2,3],[1,2,3,4],[0,5],[1,2,3,4,6]] [] (aj.aK (ks:=[6,8]) ET (by kernel_rfl)) (λ_ _ h=>by cases h) (by kernel_rfl) hS (by kernel_rfl) rfl rfl (by kernel_rfl) (by kernel_rfl) (by kernel_rfl) (nI (by kernel_rfl) _ _) ?a9v λ_ _ UQ sj hv hS=>?alS
 case a9v=>
  refine⟨se (λ_ _=>[⟨some (vG [vU 0,vL kS j6,vO]),rN b9 0 [vU 0,vL kS j6,vO],λ_ hS=>(hS.bk 0 rfl).eW rfl⟩]),bA,se (λ_ _=>[⟨some (vL kS j6),rA b9 1 (vL kS j6),λ_ hS=>(hS.bk 0 rfl).c9 rfl⟩]),bA,bA,?_,bA,trivial⟩;intro o ho a w UQ M Hb hv hO bR;obtain rfl:=cP ho;have H:=(Hb).add (hv 0 (by decide) (by decide) 48 rfl);have hS:=bR;have hd:=hS.hand [1] [0] rfl rfl;refine bg.mono (r8 [vU 0,vL kS j6,vO] H hd rfl rfl (by kernel_rfl) rfl rfl rfl) ?_;rintro v w2 hq;replace hS:=hS.join [1] [0] rfl rfl hq;exact⟨gL [],(λ_ h=>by cases h),hS.aV [0,1] rfl⟩
 have C5:Fr 75 (fS [7,6] [vB (decide (ln j6≤64)),vP b4]) _:=aj.add (aj.aK (ks:=[6]) sj (by kernel_rfl)) (hv 6 7 rfl);replace hS:SH M _ w [eB b4 [vU 0,vL kS j6,vO],eB b9 [vU 0,vL kS j6,vO],eO 150 jJ j6 kS,eI ae dB g15,eB b1 [vI p.dX,vB p.has]] _:=hS;clear hv sj;refine aG C5 hS (aL ?_);cases hm;exact da 5 (tI .u8) (λ_ _ C5 hS=>qt C5 rfl (r7 rfl (hS.bk 1 rfl) underlying117 rfl (by kernel_rfl)) rfl ⟨_,rfl,kS,Gh.nil,rfl,hS.aV [3,0] rfl⟩);refine λhm=>ag ?_;intro _ _ ET hS;exact cD hm⟩

def UR(m:Nat)(p:xG)(ji:Bool)(cF:List (List aq)):Nat→List bw→Int→Option (List bw)
 |0,_,_=>none
 |kk+1,v21,v23=>cond (decide (v23<ln cF)) (az (0≤v23∧v23<ln cF)<|Option.bind (UP m (gi cF v23) p ji) λee=>cond ee.2 (az (ln v21+ln ([ee.1]:List bw)≤137438953472)<|lt (v21++([ee.1]:List bw)) λC6=>UR m p ji cF kk C6 (J (v23+1))) (none)) (some v21)
def US(m:Nat)(v_:List aq)(p:xG)(ji:Bool)(HD:Bool):Option ((List bw)×Bool):=Option.bind (Hy m v_ 18) λcF=>Option.bind (UR m p ji cF m ([]:List bw) 0) λ(fC:List bw)=>some (fC,true)
theorem a9w{ax:Gh}(m)(v_)(p)(ji)(HD)(r)(hm:US m v_ p ji HD=some r):Dm 179 [vL ax v_,vG [vI p.dX,vB p.has],vB ji,vB HD] [eI ae v_ ax] (λ(aI:Gh)=>vW [vL aI r.1,vB r.2]) (λaI=>[eO 117 bG r.1 aI]):=by
 rw[US]at hm;refine gY (call179 _) func179 ntmps179 λM X w=>(aF ?_);refine uM [] [0] [1] (oB [vI p.dX,vB p.has] rfl) λb1=>uP 3 [] (ay (uA 10 vO [] (aF (uB 1 [0] [15] [vL ax v_] [] ?_))));obtain⟨cF,lj,hm⟩:=a8 hm;refine uQ [1] [0,1] [15] (Py (ax:=ax) m _ _ _ lj) λg11=>uB 3 [16] [11] [vL g11 cF] [] (ay (ai [0,1] ?_));obtain⟨fC,hz,hm⟩:=a8 hm;refine h9 [2,3,5,11] [10] (λ(pV:Gh)=>[vL pV fC]) (λpV=>[eO 117 bG fC pV,eO 33 (Ty.sl ae) cF g11,eB b1 [vI p.dX,vB p.has]]) ?_ ?_;refine uR [] [2,3,5,10,11,12] [vB ji,vB HD,vP b1,vO,vL g11 cF,vI 0] [] (aC (da 117 bG (n8 [] [10,12] (λv21 v23 g22=>[vL g22 v21,vI v23]) (λv21 _ g22=>[eO 117 bG v21 g22,eO 33 (Ty.sl ae) cF g11,eB b1 [vI p.dX,vB p.has]]) Gh.nil hz (λkk v21 v23 g22 hm=>?_))));rw[UR]at hm;refine ah (uI [] hm ?_ ?_);refine λhm=>ag (ah (aC ?_));obtain⟨tH,ee,wB,hm⟩:=kP hm;intro _ _ KX hS;refine rY (base:=fS [2,3,5,10,11,12] [vB ji,vB HD,vP b1,vL g22 v21,vL g11 cF,vI v23]) (L:=[eO 117 bG v21 g22,eO 33 (Ty.sl ae) cF g11,eB b1 [vI p.dX,vB p.has]]) 13 3 (λj7=>[vL g11 cF,vI v23,.pointer (some ⟨ab g11.a,ao g11.a+v23.toNat*1,none⟩),.slice (g11.s v23.toNat 0).a (gi cF v23).length (g11.s v23.toNat 0).c,vG [vI p.dX,vB p.has],vB ji,.tuple ⟨[.agg ⟨e0 ee.1 (j7 6)⟩,vB ee.2]⟩,.tuple ⟨[.agg ⟨e0 ee.1 (j7 6)⟩,vB ee.2]⟩,.agg ⟨e0 ee.1 (j7 6)⟩,vB ee.2,.pointer (some ⟨ab (j7 10 0).a,0,none⟩),undef,vB ee.2]) (λj7=>[[],[],[],[eI ae (gi cF v23) (g11.s v23.toNat 0)],[],[],[eO 150 jJ ee.1.bn (j7 6 0),eO 5 (tI .u8) ee.1.gj (j7 6 1)],[],[],[],[eB (ab (j7 10 0).a) [vU 0,vO,vO]],[eB (ab (j7 10 0).a) (e0 ee.1 (j7 6))],[]]) [[],[],[14],[14],[15],[],[3],[],[6],[6],[],[6,10],[]] [[],[],[],[],[],[],[],[],[],[],[],[10],[]] [[0],[1],[0,1,2],[0,1,2,3],[4],[5],[0,1,2,3,4,5,6],[0,1,2,3,4,5,6,7],[0,1,2,3,4,5,6,7,8],[0,1,2,3,4,5,6,7,9],[10],[0,1,2,3,4,5,6,7,8,10,11],[0,1,2,3,4,5,6,7,9,12]] [] (aj.aK (ks:=[2,3,5,10,11,12]) KX (by kernel_rfl)) (λ_ _ h=>by cases h) (by kernel_rfl) hS (by kernel_rfl) rfl rfl (by kernel_rfl) (by kernel_rfl) (by kernel_rfl) (nI (by kernel_rfl) _ _) ?UT λ_ _ j7 xK hv hS=>?a9x
 case UT=>
  refine⟨bA,bA,se (λ_ _=>[⟨none,λ_=>eg g11.a∧0≤v23∧v23<ln cF,λ_ hS=>(hS.bD 0 rfl).iK tH⟩]),?_,se (λ_ _=>[⟨some (vG [vI p.dX,vB p.has]),rN b1 0 [vI p.dX,vB p.has],λ_ hS=>(hS.bk 0 rfl).eW rfl⟩]),bA,?_,bA,bA,bA,?_,?_,bA,trivial⟩;intro o ho a w j7 M Hb hv hO bR;obtain rfl:=cP ho;have H:=(Hb).add (hv 2 (by decide) (by decide) 26 rfl);have hS:=bR;refine bg.mono (pu [.slice (g11.s v23.toNat 0).a (gi cF v23).length (g11.s v23.toNat 0).c] (.slice (g11.s v23.toNat 0).a (gi cF v23).length (g11.s v23.toNat 0).c) (some (λwz=>V.c9 ⟨ab g11.a,ao g11.a+v23.toNat*1,none⟩ (.slice (g11.s v23.toNat 0).a (gi cF v23).length (g11.s v23.toNat 0).c) wz)) [] H rfl (by kernel_rfl) (λq e=>by cases e;exact((hS.bD 0 rfl).c9 tH 0 rfl))) ?_;rintro v w2 ⟨rfl,hq⟩;replace hS:=hS.below hq.below;replace hS:=hS.eF (fH ((hS.ow 0 rfl).el tH));exact⟨gL [],λ_ _=>rfl,hS.aV [0,1] rfl⟩;intro o ho a w j7 M Hb hv hO bR;obtain rfl:=cP ho;have H:=(((Hb).add (hv 3 (by decide) (by decide) 27 rfl)).add (hv 4 (by decide) (by decide) 28 rfl)).add (hv 5 (by decide) (by decide) 29 rfl);have hS:=bR;have hd:=hS.hand [0] [0] rfl rfl;refine bg.mono (df H rfl rfl (a9u (ax:=g11.s v23.toNat 0) m _ _ _ _ wB _ _ hd)) ?_;rintro v w2 hq;obtain⟨pd,eG,rfl,hq⟩:=hq;replace hS:=hS.join [0] [0] rfl rfl hq;exact⟨gL [pd,eG],λ_ _=>rfl,hS.aV [0,1,2] rfl⟩;intro o ho a w j7 M Hb hv hO bR;obtain rfl:=cP ho;have H:=Hb;have hS:=bR;have hd:=hS.hand [] [] rfl rfl;refine bg.mono (vR [vU 0,vO,vO] (z:=vG [vU 0,vO,vO]) hd (by kernel_rfl) rfl) ?_;rintro v w2 hq;obtain⟨HE,rfl,hq⟩:=hq;replace hS:=hS.join [] [] rfl rfl hq;exact⟨gL [Gh.mk (some ⟨HE,0,none⟩) 0 λ_ _=>.nil],λ_ _=>rfl,hS.aV [0] rfl⟩;intro o ho a w j7 M Hb hv hO bR;obtain rfl:=cP ho;have H:=((Hb).add (hv 10 (by decide) (by decide) 13 rfl)).add (hv 8 (by decide) (by decide) 31 rfl);have hS:=bR;have hd:=hS.hand [2] [0,1] rfl rfl;refine bg.mono (r8 (e0 ee.1 (j7 6)) H hd rfl rfl (by kernel_rfl) rfl rfl rfl) ?_;rintro v w2 hq;replace hS:=hS.join [2] [0,1] rfl rfl hq;exact⟨gL [],(λ_ h=>by cases h),hS.aV [0,1,2] rfl⟩
 have mj:Fr 41 (fS [14,13,2,3,5,10,11,12] [vB ee.2,.pointer (some ⟨ab (j7 10 0).a,0,none⟩),vB ji,vB HD,vP b1,vL g22 v21,vL g11 cF,vI v23]) _:=aj.add (aj.add (aj.aK (ks:=[2,3,5,10,11,12]) xK (by kernel_rfl)) (hv 10 13 rfl)) (hv 12 14 rfl);replace hS:SH M _ w [eI ae (gi cF v23) (g11.s v23.toNat 0),eO 150 jJ ee.1.bn (j7 6 0),eO 5 (tI .u8) ee.1.gj (j7 6 1),eB (ab (j7 10 0).a) (e0 ee.1 (j7 6)),eO 117 bG v21 g22,eO 33 (Ty.sl ae) cF g11,eB b1 [vI p.dX,vB p.has]] _:=hS;clear hv xK;generalize ab (j7 10 0).a=PC at mj hS;generalize j7 6 0=pG at mj hS;generalize j7 6 1=pc at mj hS;replace hS:=hS.aV [1,2,3,4,5,6] rfl;refine aG mj hS (uR [14] [13,33] [vP PC,vB ee.2] [] (a0U hm (λhm=>dC (uB 2 [10,13,33] [34,35] [vL g22 v21,.agg ⟨e0 ee.1 (gL [pG,pc])⟩] [kE 2 3] (kN [0,1,2,3,4,5] (kN [1,0,2,3,4,5] (uM [1,0] [0,1,2,3,4,5] [35] (oL bG 117 (vG [vU 0,vO,vO]) [ee.1] [gL [pG,pc]] (λhd=>ba.cons (a1m (hd.im 0 rfl) (hd.im 1 rfl)) ba.nil) rfl) λjy=>?_)))))));obtain⟨Ah,C6,UU,hm⟩:=cE hm;exact uM [4,0] [1,2,3,5,6] [34,36] (oP bG (vG [vU 0,vO,vO]) g22 jy UU Ah rfl rfl) λoE=>uB 5 [37] [10] [vL oE C6] [] (ay (ai [0,5,6] (xw [] oE hm)));refine λhm=>bl ?_;cases hm;exact tg g22;intro pV;refine ai [0] (uR [10] [8,9] [vL pV fC,vT] [] (aL ?_));cases hm;exact dm pV [0] fk

def a1J(m:Nat)(l_:List bw)(v9:Int)(jV:Int):Nat→Int→Int→Option Int
 |0,_,_=>none
 |kk+1,v26,fm=>lt (decide (fm<ln (gi (gi l_ v9).bn jV).bE)) λwC=>cond wC (none) (some v26)
def UW(m:Nat)(l_:List bw)(v9:Int):Nat→Int→Int→Option Int
 |0,_,_=>none
 |kk+1,aX,jV=>az (0≤v9∧v9<ln l_)<|cond (decide (jV<ln (gi l_ v9).bn)) (Option.bind (az (0≤jV∧jV<ln (gi l_ v9).bn)<|a1J m l_ v9 jV m aX 0) λ(z20:Int)=>UW m l_ v9 kk z20 (J (jV+1))) (some aX)
def UX(m:Nat)(l_:List bw):Nat→Int→Int→Option Int
 |0,_,_=>none
 |kk+1,v8,v9=>cond (decide (v9<ln l_)) (Option.bind (UW m l_ v9 m v8 0) λ(z12:Int)=>UX m l_ kk z12 (J (v9+1))) (some v8)
def UY(m:Nat)(l_:List bw):Option Int:=Option.bind (UX m l_ m (ln l_) 0) λ(z5:Int)=>some z5
theorem a9y{a6:Gh}(m)(l_)(r)(hm:UY m l_=some r)(w)(hL:Rd [eI bG l_ a6] w):Rb 180 [vL a6 l_] (vI r) w:=by
 rw[UY]at hm;refine cz hL (call180 _) func180 ntmps180 λM X w=>?_;refine uO [] (uA 3 (vI (ln l_)) [] ?_);obtain⟨z5,hz,hm⟩:=a8 hm;refine uK [0] [3] [vI z5] [eI bG l_ a6] ?_ ?_;refine uA 4 (vI 0) [] (aC (jd [] [3,4] (λv8 v9=>[vI v8,vI v9]) (λ_ _=>[eI bG l_ a6]) hz (λkk v8 v9 hm=>?_)));rw[UX]at hm;refine ah (uI [] hm ?_ ?_);refine λhm=>ag ?_;obtain⟨z12,hz,hm⟩:=a8 hm;refine uK [] [3] [vI z12] [eI bG l_ a6] ?_ ?_;refine aC (uA 5 (vI 0) [] (aC (jd [] [0,4,3,5] (λaX jV=>[vL a6 l_,vI v9,vI aX,vI jV]) (λ_ _=>[eI bG l_ a6]) hz (λkk aX jV hm=>?_))));rw[UW]at hm;refine ah ?_;obtain⟨dR,hm⟩:=bY hm;refine uI [ki 0 dR,kj 0 1 dR] hm ?_ ?_;refine λhm=>ag ?_;obtain⟨z20,hz,hm⟩:=a8 hm;refine uK [] [3] [vI z20] [eI bG l_ a6] ?_ ?_;refine aC ?_;obtain⟨kQ,hm⟩:=bY hz;refine uA 6 (.slice ((a6.s v9.toNat 0).s jV.toNat 0).a (gi (gi l_ v9).bn jV).bE.length ((a6.s v9.toNat 0).s jV.toNat 0).c) [ki 0 dR,kj 0 1 dR,⟨none,λ_=>eg (a6.s v9.toNat 0).a∧0≤jV∧jV<ln (gi l_ v9).bn,λ_ hS=>(ld ((hS.im 0 rfl).el dR)).iK kQ⟩,⟨some (.slice ((a6.s v9.toNat 0).s jV.toNat 0).a (gi (gi l_ v9).bn jV).bE.length ((a6.s v9.toNat 0).s jV.toNat 0).c),λwz=>V.c9 ⟨ab (a6.s v9.toNat 0).a,ao (a6.s v9.toNat 0).a+jV.toNat*2+1,none⟩ (.slice ((a6.s v9.toNat 0).s jV.toNat 0).a (gi (gi l_ v9).bn jV).bE.length ((a6.s v9.toNat 0).s jV.toNat 0).c) wz,λ_ hS=>(ld ((hS.im 0 rfl).el dR)).c9 kQ 1 rfl⟩] (uA 7 (vI 0) [] (aC (jd [] [3,7] (λv26 fm=>[vI v26,vI fm]) (λ_ _=>[eI bG l_ a6]) hm (λkk v26 fm hm=>?_))));rw[a1J]at hm;refine ah ?_;obtain⟨wC,KY,hm⟩:=bc hm;refine uI [] hm ?_ ?_ (he:=by subst KY;kernel_rfl);refine λhm=>ag (ah (aC ?_));intro _ _ qG hS;exact cD hm;refine λhm=>bl ?_;cases hm;exact te;exact jI [] hm;refine λhm=>bl ?_;cases hm;exact te;exact jI [] hm;refine λhm=>bl ?_;cases hm;exact te;refine ai [] ?_;cases hm;exact uZ [] []

def UZ(m:Nat)(v_:List aq):Option ((List bw)×Int):=Option.bind (US m v_ (xG.mk 0 false) false false) λy5=>cond (!y5.2) (none) (Option.bind (UY m y5.1) λdB=>cond (decide (64<dB)) (none) (some (y5.1,0)))
theorem a9z{ax:Gh}(m)(v_)(r)(hm:UZ m v_=some r):Dm 131 [vL ax v_] [eI ae v_ ax] (λ(aI:Gh)=>vW [vL aI r.1,vI r.2]) (λaI=>[eO 117 bG r.1 aI]):=by
 rw[UZ]at hm;refine gY (call131 _) func131 ntmps131 λM X w=>?_;refine uO [] (aF (uB 2 [0] [7,8] [vL ax v_,vG [vI 0,vF]] [] ?_));obtain⟨y5,j4,hm⟩:=a8 hm;refine uQ [0] [0] [7,8] (a9w (ax:=ax) m _ _ _ _ _ j4) λg6=>uB 8 [9] [4,5] [vL g6 y5.1,vB y5.2] [] (ay (ai [0] (ah (uz [5] [] hm (λhm=>ag (ah ?_))))));obtain⟨dB,pH,hm⟩:=a8 hm;refine gZ [kr λ_ hS=>a9y (a6:=g6) m _ _ pH _ (aA aU (hS.bD 0 rfl))] hm (λhm=>ag (uR [4] [2,3] [vL g6 y5.1,vI 0] [] (aL ?_)));cases hm;exact dm g6 [0] fk

def V0(m:Nat)(v_:List aq):Option (cR×Bool):=Option.bind (C3 m v_) λy8=>az ((ln y8==0)=false→0≤(0:Int)∧(0:Int)<ln y8)<|lt (cond (ln y8==0) true ((gi y8 (0:Int)).aT.af !=1)) λsa=>cond sa (some (cR.mk [] ([]:List aq) false,false)) (none)
theorem a9A{ax:Gh}(m)(v_)(r)(hm:V0 m v_=some r):Dm 182 [vL ax v_] [eI ae v_ ax] (λ(aI:Gh)=>.tuple ⟨[.agg ⟨e8 r.1 (gL [aI])⟩,vB r.2]⟩) (λaI=>[eO 171 ae r.1.Value aI]):=by
 rw[V0]at hm;refine gY (call182 _) func182 ntmps182 λM X w=>(aF ?_);refine uM [] [0] [] (oA [vN,vO,vF]) λb1=>uP 2 [] (ay (aF (uB 1 [0] [5] [vL ax v_] [] ?_)));obtain⟨y8,lg,hm⟩:=a8 hm;refine uQ [1] [0,1] [5] (Hz (ax:=ax) m _ _ lg) λg9=>uB 3 [6] [0] [vL g9 y8] [] (ay (ai [0,1] (ah ?_)));obtain⟨fM,sa,Et,hm⟩:=cE hm;refine uI [jH (gF (ln y8==0)) 0 λhg=>fM hg.1,km (gF (ln y8==0)) 0 0 λhg=>fM hg.1] hm ?_ ?_ (he:=by subst Et;kernel_rfl);refine λhm=>aF (uB 1 [0] [18] [vG [vN,vO,vF]] [] (uL [1] [0] [18] (oS [vN,vO,vF] rfl rfl) (uB 3 [] [2,3] [vP b1,vF] [] (ay (ai [0] (aL ?_))))));cases hm;exact da 171 ae (dm Gh.nil [0] (mA 1 underlying35));refine λhm=>ag ?_;intro _ _ nQ hS;exact cD hm

def V1(m:Nat)(y7:List (List aq)):Nat→Int→Option Unit
 |0,_=>none
 |kk+1,cg=>cond (cond (decide (cg<ln y7)) true false) (az (0≤cg∧cg<ln y7)<|Option.bind (V0 m (gi y7 cg)) λcM=>cond cM.2 (none) (V1 m y7 kk (J (cg+1)))) (some ())
def V2(m:Nat)(v_:List aq):Option (List cR):=Option.bind (Hy m v_ 17) λy7=>Option.bind (V1 m y7 m 0) λ(j5:Unit)=>some ([]:List cR)
theorem a9B{ax:Gh}(m)(v_)(r)(hm:V2 m v_=some r):Dm 132 [vL ax v_] [eI ae v_ ax] (λ(aI:Gh)=>vL aI r) (λaI=>[eO 35 dA r aI]):=by
 rw[V2]at hm;refine gY (call132 _) func132 ntmps132 λM X w=>?_;refine uO [] (uA 3 vO [] (aF (uB 1 [0] [8] [vL ax v_] [] ?_)));obtain⟨y7,sb,hm⟩:=a8 hm;refine uQ [0] [0] [8] (Py (ax:=ax) m _ _ _ sb) λg8=>uB 3 [9] [4] [vL g8 y7] [] (ay (ai [0] ?_));obtain⟨j5,hz,hm⟩:=a8 hm;refine uK [4] [] [] [eO 33 (Ty.sl ae) y7 g8] ?_ ?_;refine uA 5 (vI 0) [] (aC (eX [] [4,3,5] (λcg=>[vL g8 y7,vO,vI cg]) (λ_=>[eO 33 (Ty.sl ae) y7 g8]) hz (λkk cg hm=>?_)));rw[V1]at hm;refine ah (uI [] hm ?_ ?_);refine λhm=>ag (ah (aC (aF ?_)));obtain⟨C7,hm⟩:=bY hm;refine uB 4 [] [25] [.slice (g8.s cg.toNat 0).a (gi y7 cg).length (g8.s cg.toNat 0).c] [kI 0 C7,kJ 0 0 C7] ?_;intro _ _ mh hS;replace hS:=hS.eF (fH ((hS.ow 0 rfl).el C7));obtain⟨cM,nU,hm⟩:=a8 hm;exact aG mh hS (uQ [0] [0,1] [25] (a9A (ax:=g8.s cg.toNat 0) m _ _ nU) λgu=>uB 8 [26] [27,28] [.agg ⟨e8 cM.1 (gL [gu])⟩,vB cM.2] [] (uM [] [0,1,2] [] (oA [vN,vO,vF]) λKZ=>uL [0] [1,2,3] [27] (oS (e8 cM.1 (gL [gu])) rfl rfl) (uB 11 [28] [7] [vB cM.2] [] (ay (ai [0,1,3] (uR [7] [3,4,5,6,29] [vO,vL g8 y7,vI cg,vP KZ,vB cM.2] [] (Ei hm (λhm=>ag (uW [6,29] [5] [vI (J (cg+1))] [] (ai [2] (ug1 hm)))))))))));refine λhm=>bl ?_;cases hm;exact te;refine ai [] (uR [3] [2] [vO] [] (aL ?_));cases hm;exact da 35 dA (dm Gh.nil [0] bo)

def HF(m:Nat)(a_:a7)(b_:a7):Option Bool:=Option.bind (C4 m a_) λy3=>Option.bind (C4 m b_) λy4=>some (y3==y4)
theorem PD(m)(a_)(b_)(r)(hm:HF m a_ b_=some r):Rt 133 [vS a_,vS b_] (vB r):=by
 rw[HF]at hm;refine dy (call133 _) func133 ntmps133 λM X w=>?_;refine uO [] ?_;obtain⟨y3,cq,y4,rh,hm⟩:=pA hm;cases hm;exact uZ [] [kc (HC m _ _ cq),kc (HC m _ _ rh)]

def PE(m:Nat)(v_:List aq)(i:Int)(s:a7):Option Bool:=az (decide (i<ln v_)=true→0≤i∧i<ln v_)<|lt (cond (decide (i<ln v_)) ((gi v_ i).aT.af==1) false) λx4=>az (x4=true→0≤i∧i<ln v_)<|Option.bind (cond x4 (HF m (gi v_ i).aT.di s) (some default)) λy6=>some (cond x4 y6 false)
theorem a1K{ax:Gh}(m)(v_)(i)(s)(r)(hm:PE m v_ i s=some r)(w)(hL:Rd [eI ae v_ ax] w):Rb 233 [vL ax v_,vI i,vS s] (vB r) w:=by
 rw[PE]at hm;refine cz hL (call233 _) func233 ntmps233 λM X w=>?_;refine uO [] ?_;obtain⟨mf,x4,nb,hm⟩:=cE hm;obtain⟨Ew,y6,gO,hm⟩:=kP hm;refine uR [0,1,2] [6] [vB (cond x4 y6 false)] [jH (gT (decide (i<ln v_))) 0 λhg=>mf hg.1,km (gT (decide (i<ln v_))) 0 0 λhg=>mf hg.1,jH (gT x4) 0 λhg=>Ew hg.1,km (gT x4) 0 1 λhg=>Ew hg.1,gg (gT x4) λhg=>PD m _ _ _ (bT (hg.1) gO)] (ai [] (aL ?_)) (he:=by subst nb;kernel_rfl);cases hm;exact bf [] bo

def PF(v_:List aq)(i:Int)(k_:Int):Option Bool:=az (decide (i<ln v_)=true→0≤i∧i<ln v_)<|lt (cond (decide (i<ln v_)) ((gi v_ i).aT.af==k_) false) λx4=>some x4
theorem a1L{ax:Gh}(v_)(i)(k_)(r)(hm:PF v_ i k_=some r)(w)(hL:Rd [eI ae v_ ax] w):Rb 235 [vL ax v_,vI i,vU k_] (vB r) w:=by
 rw[PF]at hm;refine cz hL (call235 _) func235 ntmps235 λM X w=>?_;refine uO [] ?_;obtain⟨mf,x4,nb,hm⟩:=cE hm;refine uR [0,1,2] [6] [vB x4] [jH (gT (decide (i<ln v_))) 0 λhg=>mf hg.1,km (gT (decide (i<ln v_))) 0 0 λhg=>mf hg.1] (ai [] (aL ?_)) (he:=by subst nb;kernel_rfl);cases hm;exact bf [] bo

def V3(m:Nat)(s:a7):Nat→Int→Option Unit
 |0,_=>none
 |kk+1,v12=>cond (decide (v12<ln s)) (az (0≤v12∧v12<ln s)<|cond (bU s v12==0) (none) (V3 m s kk (J (v12+1)))) (some ())
def V4(m:Nat)(s:a7):Option Bool:=lt (cond (s==[]) true (decide (64<ln s))) λx3=>Option.bind (cond x3 (some default) (C4 m s)) λy4=>lt (cond (cond x3 true (!(s==y4))) true (s==[97,110,100])) λx5=>lt (cond (cond x5 true (s==[111,114])) true (s==[110,111,116])) λx6=>cond (cond x6 true (s==[111,110,108,121])) (none) (Option.bind (V3 m s m 0) λ(z9:Unit)=>some true)
theorem a9C(m)(s)(r)(hm:V4 m s=some r):Rt 237 [vS s] (vB r):=by
 rw[V4]at hm;refine dy (call237 _) func237 ntmps237 λM X w=>?_;refine uO [] (ah ?_);obtain⟨x3,iT,y4,rh,hm⟩:=pb hm;obtain⟨x5,EP,x6,pB,hm⟩:=eL hm;refine gZ [gg (gF x3) λhg=>HC m _ _ (bF (hg.1) rh)] hm (λhm=>ag ?_) (he:=by subst iT EP pB;kernel_rfl);obtain⟨z9,hz,hm⟩:=a8 hm;refine uK [0] [] [] [] ?_ ?_;refine uA 3 (vI 0) [] (aC (eX [] [3] (λv12=>[vI v12]) (λ_=>[]) hz (λkk v12 hm=>?_)));rw[V3]at hm;refine ah (uI [] hm ?_ ?_);refine λhm=>ag (ah (aC ?_));obtain⟨fM,hm⟩:=bY hm;refine gZ [kh fM] hm ?_;intro hm;exact ag (fQ [] hm);refine λhm=>bl ?_;cases hm;exact te;cases hm;exact uZ [] []

def a1M(m:Nat)(v_:List aq):Nat→Int→Option Int
 |0,_=>none
 |kk+1,v4=>Option.bind (PF v_ v4 13) λy5=>cond y5 (none) (some v4)
def V5(m:Nat)(v_:List aq)(i:Int):Option Int:=Option.bind (a1M m v_ m i) λ(z3:Int)=>some z3
theorem a9D{ax:Gh}(m)(v_)(i)(r)(hm:V5 m v_ i=some r)(w)(hL:Rd [eI ae v_ ax] w):Rb 234 [vL ax v_,vI i] (vI r) w:=by
 rw[V5]at hm;refine cz hL (call234 _) func234 ntmps234 λM X w=>?_;refine uO [] ?_;obtain⟨z3,hz,hm⟩:=a8 hm;refine uK [0] [1] [vI z3] [eI ae v_ ax] ?_ ?_;refine aC (eX [] [1] (λv4=>[vI v4]) (λ_=>[eI ae v_ ax]) hz (λkk v4 hm=>?_));rw[a1M]at hm;refine ah ?_;obtain⟨y5,j4,hm⟩:=a8 hm;refine uI [kr λ_ hS=>a1L (ax:=ax) _ _ _ _ j4 _ (aA aU (hS.im 0 rfl))] hm ?_ ?_;refine λhm=>ag (aC ?_);intro _ _ H7 hS;exact cD hm;refine λhm=>bl ?_;cases hm;exact te;refine ai [] ?_;cases hm;exact uZ [] []

def a1N(m:Nat)(y6:List aq):Nat→Int→Option Unit
 |0,_=>none
 |kk+1,fD=>cond (decide (fD<ln y6)) (none) (some ())
def V6(m:Nat)(v_:List aq):Option bq:=Option.bind (C3 m v_) λy6=>Option.bind (PE m y6 0 [110,111,116]) λib=>Option.bind (cond ib (some default) (PE m y6 0 [111,110,108,121])) λdb=>cond (cond ib true db) (none) (Option.bind (PF y6 0 1) λdn=>cond dn (az (0≤(0:Int)∧(0:Int)<ln y6)<|Option.bind (C4 m (gi y6 (0:Int)).aT.di) λfW=>Option.bind (V4 m fW) λkU=>cond (!kU) (none) (az (ln ([]:List bq)+ln ([bq.mk 4 fW 0 (cR.mk [] [] false) []]:List bq)≤137438953472)<|lt (([]:List bq)++([bq.mk 4 fW 0 (cR.mk [] [] false) []]:List bq)) λqI=>Option.bind (Option.bind (V5 m y6 1) λkV=>a1N m y6 m kV) λ(EU:Unit)=>cond ib (none) (some (bq.mk 1 [] 0 (cR.mk [] ([]:List aq) false) qI)))) (none))
theorem a9E{ax:Gh}(m)(v_)(r)(hm:V6 m v_=some r)(M:Av)(w:World)(hS:S0 M [eI ae v_ ax] w):eJ prog 185 ⟨[vL ax v_]⟩ w (λv w'=>∃(aI:Gh)(jx:Gh),v=.agg ⟨e4 r (gL [aI,jx])⟩∧SH M (aD [eI ae v_ ax]) w [eO 171 ae r.aQ.Value aI,eO 38 bu r.aa jx] w'):=⟨call185 _,by
 rw[V6]at hm;unfold S0 at hS;generalize aD [eI ae v_ ax]=X at hS⊢;refine dQ func185 rfl ntmps185 rfl λ_ H=>aG H hS (aF (fb [] [0] [0] [vL ax v_] (oA [vU 0,vN,vI 0,vN,vO,vF,vO]) λb1=>ay (aF (uB 1 [0] [2,11] [vP b1,vL ax v_] [] ?_))));obtain⟨y6,gO,hm⟩:=a8 hm;refine uQ [1] [0,1] [11] (Hz (ax:=ax) m _ _ gO) λg7=>uB 3 [12] [0] [vL g7 y6] [] (ay (ai [0,1] (aF (uB 1 [] [13] [vG [vU 1,vN,vI 0,vN,vO,vF,vO]] [] (uM [] [0,1] [] (oA [vU 0,vN,vI 0,vN,vO,vF,vO]) λC8=>uL [0] [1,2] [13] (oS [vU 1,vN,vI 0,vN,vO,vF,vO] rfl rfl) (ay (uR [] [0,2,3,4] [vL g7 y6,vP b1,vP C8,vI 0] [] ?_)))))));obtain⟨ib,xB,hm⟩:=a8 hm;refine uA 5 (vB ib) [kr λ_ hS=>a1K (ax:=g7) m _ _ _ _ xB _ (aA aU (hS.im 1 rfl))] (ah ?_);obtain⟨db,oF,hm⟩:=a8 hm;refine gZ [eY (gF ib) λ_ hS hg=>a1K (ax:=g7) m _ _ _ _ (bF (hg.1) oF) _ (aA aU (hS.im 1 rfl))] hm (λhm=>ag (ah ?_));obtain⟨dn,vc,hm⟩:=a8 hm;refine TJ [kr λ_ hS=>a1L (ax:=g7) _ _ _ _ vc _ (aA aU (hS.im 1 rfl))] hm ?_;intro hm;obtain⟨a1O,fW,Ai,hm⟩:=kP hm;refine uA 6 (vS fW) [ki 1 a1O,kj 1 1 a1O,kc (HC m _ _ Ai)] (ah ?_);obtain⟨kU,yY,hm⟩:=a8 hm;refine gZ [kc (a9C m _ _ yY)] hm (λhm=>ag (dC (uB 4 [6] [43,45] [vO,vG [vU 4,vS fW,vI 0,vN,vO,vF,vO]] [kb 0 6] (uM [] [0,1,2] [45] (oL bu 38 (vG [vU 0,vN,vI 0,vN,vO,vF,vO]) [bq.mk 4 fW 0 (cR.mk [] [] false) []] [gL [Gh.nil,Gh.nil]] (λ_=>ba.cons (U9 aM.nil aM.nil) ba.nil) rfl) λpc=>da 38 bu ?_))));obtain⟨sA,qI,V7,hm⟩:=cE hm;refine uM [0,1] [2,3,4] [43,46] (oP bu (vG [vU 0,vN,vI 0,vN,vO,vF,vO]) Gh.nil pc V7 sA rfl rfl) λig=>uB 7 [] [47,48] [vL ig qI,vA C8 6] [] ?_;refine pz [2] [0,1,3,4] [0,2,3,4,5] [vL g7 y6,vP b1,vP C8,vI 0,vB ib] (oS [vU 1,vN,vI 0,vN,vO,vF,vL ig qI] rfl rfl) (ay (ai [0,1,3,4] ?_));obtain⟨EU,hz,hm⟩:=a8 hm;refine uK [0,4] [] [] [eB C8 [vU 1,vN,vI 0,vN,vO,vF,vL ig qI],eO 38 bu qI ig,eI ae y6 g7,eB b1 [vU 0,vN,vI 0,vN,vO,vF,vO]] ?_ ?_;obtain⟨kV,EV,hm⟩:=a8 hz;refine uA 4 (vI kV) [kr λ_ hS=>a9D (ax:=g7) m _ _ _ EV _ (aA aU (hS.im 2 rfl))] (aC (eX [] [4] (λfD=>[vI fD]) (λ_=>[eB C8 [vU 1,vN,vI 0,vN,vO,vF,vL ig qI],eO 38 bu qI ig,eI ae y6 g7,eB b1 [vU 0,vN,vI 0,vN,vO,vF,vO]]) hm (λkk fD hm=>?_)));rw[a1N]at hm;refine ah (uI [] hm ?_ ?_);refine λhm=>ag (ah (aC (ah ?_)));intro _ _ xD hS;exact cD hm;refine λhm=>bl ?_;cases hm;exact te;refine ai [0,1,3] (ah (uz [5] [] hm (λhm=>ag (aF (uB 1 [3] [104] [vG [vU 1,vN,vI 0,vN,vO,vF,vL ig qI]] [⟨some (vG [vU 1,vN,vI 0,vN,vO,vF,vL ig qI]),rN C8 0 [vU 1,vN,vI 0,vN,vO,vF,vL ig qI],λ_ hS=>(hS.bk 0 rfl).eW rfl⟩] (uL [2] [0,1] [104] (oS [vU 1,vN,vI 0,vN,vO,vF,vL ig qI] rfl rfl) (ay (ai [0,2] (aL ?_)))))))));cases hm;refine da 171 ae ?_;exact λ_ _ V8 hS=>ur V8 rfl (r7 rfl (hS.bk 1 rfl) underlying38 rfl (by kernel_rfl)) ⟨_,rfl,Gh.nil,ig,rfl,hS.aV [0,2] rfl⟩⟩

def V9(m:Nat)(cM:List (List aq)):Nat→Int→List bq→Option (List bq)
 |0,_,_=>none
 |kk+1,cX,gv=>cond (decide (cX<ln cM)) (az (0≤cX∧cX<ln cM)<|Option.bind (V6 m (gi cM cX)) λoG=>az (ln gv+ln ([oG]:List bq)≤137438953472)<|lt (gv++([oG]:List bq)) λAj=>V9 m cM kk (J (cX+1)) Aj) (some gv)
def Va(m:Nat)(v_:List aq):Option (bq×Bool):=Option.bind (C3 m v_) λy8=>cond (ln y8==0) (none) (Option.bind (Hy m v_ 18) λcM=>Option.bind (V9 m cM m 0 ([]:List bq)) λ(z31:List bq)=>some (bq.mk 2 [] 0 (cR.mk [] ([]:List aq) false) z31,decide (ln cM≤64)))
theorem a9F{ax:Gh}(m)(v_)(r)(hm:Va m v_=some r)(M:Av)(w:World)(hS:S0 M [eI ae v_ ax] w):eJ prog 134 ⟨[vL ax v_]⟩ w (λv w'=>∃(aI:Gh)(jx:Gh),v=.tuple ⟨[.agg ⟨e4 r.1 (gL [aI,jx])⟩,vB r.2]⟩∧SH M (aD [eI ae v_ ax]) w [eO 171 ae r.1.aQ.Value aI,eO 38 bu r.1.aa jx] w'):=⟨call134 _,by
 rw[Va]at hm;unfold S0 at hS;generalize aD [eI ae v_ ax]=X at hS⊢;refine dQ func134 rfl ntmps134 rfl λ_ H=>aG H hS (aF (fb [] [0] [0] [vL ax v_] (oA [vU 0,vN,vI 0,vN,vO,vF,vO]) λb1=>uP 2 [] (ay (ah (aF (uB 1 [] [7] [vL ax v_] [] ?_))))));obtain⟨y8,lg,hm⟩:=a8 hm;refine uQ [1] [0,1] [7] (Hz (ax:=ax) m _ _ lg) λg9=>uB 4 [8] [10] [vB (ln y8==0)] [] (ay (ai [1,2] (Ei hm (λhm=>ag (aF (uB 1 [10] [12] [vG [vU 2,vN,vI 0,vN,vO,vF,vO]] [] (uM [] [0,1] [] (oA [vU 0,vN,vI 0,vN,vO,vF,vO]) λic=>uL [0] [1,2] [12] (oS [vU 2,vN,vI 0,vN,vO,vF,vO] rfl rfl) (ay (aF (uB 1 [0] [2,4,13] [vP b1,vP ic,vL ax v_] [] ?_))))))))));obtain⟨cM,nU,hm⟩:=a8 hm;refine uQ [2] [0,1,2] [13] (Py (ax:=ax) m _ _ _ nU) λgu=>uB 3 [14] [5] [vL gu cM] [] (ay (ai [0,1,2] ?_));obtain⟨z31,hz,hm⟩:=a8 hm;refine h9 [] [] (λ(jM:Gh)=>[]) (λjM=>[eO 38 bu z31 jM,eO 33 (Ty.sl ae) cM gu,eB ic [vU 2,vN,vI 0,vN,vO,vF,vL jM z31],eB b1 [vU 0,vN,vI 0,vN,vO,vF,vO]]) ?_ ?_;refine uA 6 (vI 0) [] (aC (da 38 bu (n8 [] [6] (λcX _ _=>[vI cX]) (λ_ gv cV=>[eO 38 bu gv cV,eO 33 (Ty.sl ae) cM gu,eB ic [vU 2,vN,vI 0,vN,vO,vF,vL cV gv],eB b1 [vU 0,vN,vI 0,vN,vO,vF,vO]]) Gh.nil hz (λkk cX gv cV hm=>?_))));rw[V9]at hm;refine ah (uI [] hm ?_ ?_);refine λhm=>ag (ah (aC ?_));obtain⟨pF,oG,L0,hm⟩:=kP hm;obtain⟨L1,Aj,a9G,hm⟩:=cE hm;intro _ _ tK hS;refine Ek (base:=fS [2,4,5,6] [vP b1,vP ic,vL gu cM,vI cX]) (L:=[eO 38 bu gv cV,eO 33 (Ty.sl ae) cM gu,eB ic [vU 2,vN,vI 0,vN,vO,vF,vL cV gv],eB b1 [vU 0,vN,vI 0,vN,vO,vF,vO]]) 11 4 (λj8=>[vA ic 6,vL cV gv,vL gu cM,vI cX,.pointer (some ⟨ab gu.a,ao gu.a+cX.toNat*1,none⟩),.slice (gu.s cX.toNat 0).a (gi cM cX).length (gu.s cX.toNat 0).c,.agg ⟨e4 oG (j8 6)⟩,vK (j8 7 0) 1,.slice (j8 8 0).a Aj.length (j8 8 0).c,vA ic 6,undef]) (λj8=>[[],[],[],[],[],[eI ae (gi cM cX) (gu.s cX.toNat 0)],[eO 171 ae oG.aQ.Value (j8 6 0),eO 38 bu oG.aa (j8 6 1)],[eO 38 bu ([oG]:List bq) (j8 7 0),eI bu oG.aa (j8 6 1),eI ae oG.aQ.Value (j8 6 0)],[eO 38 bu Aj (j8 8 0)],[],[eB ic [vU 2,vN,vI 0,vN,vO,vF,.slice (j8 8 0).a Aj.length (j8 8 0).c]]]) [[11,13],[11,13],[],[],[12],[12],[5],[6],[7,11],[8,13],[8,13]] [[],[],[],[],[],[],[],[6],[11],[],[13]] [[0],[0,1],[2],[3],[2,3,4],[2,3,4,5],[2,3,4,5,6],[2,3,4,5,6,7],[0,1,2,3,4,5,6,7,8],[9],[0,1,2,3,4,5,6,7,8,9,10]] [] (aj.aK (ks:=[2,4,5,6]) tK (by kernel_rfl)) (λ_ _ h=>by cases h) (by kernel_rfl) hS (by kernel_rfl) rfl rfl (by kernel_rfl) (by kernel_rfl) (by kernel_rfl) (nI (by kernel_rfl) _ _) ?a9H λ_ _ j8 sB hv hS=>?alT
 case a9H=>
  refine⟨bA,se (λ_ _=>[⟨some (vL cV gv),rA ic 6 (vL cV gv),λ_ hS=>(hS.bk 1 rfl).c9 rfl⟩]),bA,bA,se (λ_ _=>[⟨none,λ_=>eg gu.a∧0≤cX∧cX<ln cM,λ_ hS=>(hS.bD 0 rfl).iK pF⟩]),?_,?_,?_,?_,bA,?_,trivial⟩;intro o ho a w j8 M Hb hv hO bR;obtain rfl:=cP ho;have H:=(Hb).add (hv 4 (by decide) (by decide) 25 rfl);have hS:=bR;refine bg.mono (pu [.slice (gu.s cX.toNat 0).a (gi cM cX).length (gu.s cX.toNat 0).c] (.slice (gu.s cX.toNat 0).a (gi cM cX).length (gu.s cX.toNat 0).c) (some (λwz=>V.c9 ⟨ab gu.a,ao gu.a+cX.toNat*1,none⟩ (.slice (gu.s cX.toNat 0).a (gi cM cX).length (gu.s cX.toNat 0).c) wz)) [] H rfl (by kernel_rfl) (λq e=>by cases e;exact((hS.bD 0 rfl).c9 pF 0 rfl))) ?_;rintro v w2 ⟨rfl,hq⟩;replace hS:=hS.below hq.below;replace hS:=hS.eF (fH ((hS.ow 0 rfl).el pF));exact⟨gL [],λ_ _=>rfl,hS.aV [0,1] rfl⟩;intro o ho a w j8 M Hb hv hO bR;obtain rfl:=cP ho;have H:=(Hb).add (hv 5 (by decide) (by decide) 26 rfl);have hS:=bR;have hd:=hS.hand [0] [0] rfl rfl;refine bg.mono (df H rfl rfl (a9E (ax:=gu.s cX.toNat 0) m _ _ L0 _ _ hd)) ?_;rintro v w2 hq;obtain⟨jz,nh,rfl,hq⟩:=hq;replace hS:=hS.join [0] [0] rfl rfl hq;exact⟨gL [jz,nh],λ_ _=>rfl,hS.aV [0,1,2] rfl⟩;intro o ho a w j8 M Hb hv hO bR;obtain rfl:=cP ho;have H:=(Hb).add (hv 6 (by decide) (by decide) 27 rfl);have hS:=bR;replace hS:=SH.gz (hS.aV [0,1] rfl);replace hS:=SH.gz (hS.aV [1,0] rfl);have hd:=hS.hand [1,0] [0,1] rfl rfl;refine bg.mono (oM bu 38 (vG [vU 0,vN,vI 0,vN,vO,vF,vO]) [oG] [gL [j8 6 0,j8 6 1]] H hd rfl (ba.cons (U9 (hd.im 0 rfl) (hd.im 1 rfl)) ba.nil)) ?_;rintro v w2 hq;obtain⟨oH,rfl,hq⟩:=hq;replace hS:=hS.join [1,0] [0,1] rfl rfl hq;exact⟨gL [oH],λ_ _=>rfl,hS.aV [0,1,2] rfl⟩;intro o ho a w j8 M Hb hv hO bR;obtain rfl:=cP ho;have H:=((Hb).add (hv 1 (by decide) (by decide) 22 rfl)).add (hv 7 (by decide) (by decide) 28 rfl);have hS:=bR;have hd:=hS.hand [3,0] [1,2] rfl rfl;refine bg.mono (Ea (T:=bu) (zv:=vG [vU 0,vN,vI 0,vN,vO,vF,vO]) (g1:=cV) (g2:=j8 7 0) (l1:=gv) (l2:=([oG]:List bq)) Aj a9G.symm H hd rfl rfl rfl rfl rfl rfl rfl (by kernel_rfl) (by kernel_rfl) rfl rfl L1) ?_;rintro v w2 hq;obtain⟨PG,rfl,hq⟩:=hq;replace hS:=hS.join [3,0] [1,2] rfl rfl hq;exact⟨gL [PG],λ_ _=>rfl,hS.aV [0,1,2,3] rfl⟩;intro o ho a w j8 M Hb hv hO bR;obtain rfl:=cP ho;have H:=((Hb).add (hv 8 (by decide) (by decide) 29 rfl)).add (hv 9 (by decide) (by decide) 30 rfl);have hS:=bR;have hd:=hS.hand [1] [0] rfl rfl;refine bg.mono (r8 [vU 2,vN,vI 0,vN,vO,vF,.slice (j8 8 0).a Aj.length (j8 8 0).c] H hd rfl rfl (by kernel_rfl) rfl rfl rfl) ?_;rintro v w2 hq;replace hS:=hS.join [1] [0] rfl rfl hq;exact⟨gL [],(λ_ h=>by cases h),hS.aV [0,1] rfl⟩
 have L2:Fr 35 (fS [2,4,5,6] [vP b1,vP ic,vL gu cM,vI cX]) _:=aj.aK (ks:=[2,4,5,6]) sB (by kernel_rfl);replace hS:SH M _ w [eI ae (gi cM cX) (gu.s cX.toNat 0),eO 38 bu ([oG]:List bq) (j8 7 0),eI bu oG.aa (j8 6 1),eI ae oG.aQ.Value (j8 6 0),eO 38 bu Aj (j8 8 0),eB ic [vU 2,vN,vI 0,vN,vO,vF,.slice (j8 8 0).a Aj.length (j8 8 0).c],eO 33 (Ty.sl ae) cM gu,eB b1 [vU 0,vN,vI 0,vN,vO,vF,vO]] _:=hS;clear hv sB;generalize j8 7 0=wD at L2 hS;generalize j8 6 1=L5 at L2 hS;generalize j8 6 0=ij at L2 hS;generalize j8 8 0=qA at L2 hS;replace hS:=hS.aV [4,5,6,7] rfl;exact aG L2 hS (uV 6 (vI (J (cX+1))) [] (ai [0,2,1,3] (wc qA hm)));refine λhm=>bl ?_;cases hm;exact tg cV;intro jM;refine aF (uB 4 [4,5] [31,34] [vG [vU 2,vN,vI 0,vN,vO,vF,vL jM z31],vB (decide (ln cM≤64))] [⟨some (vG [vU 2,vN,vI 0,vN,vO,vF,vL jM z31]),rN ic 0 [vU 2,vN,vI 0,vN,vO,vF,vL jM z31],λ_ hS=>(hS.bk 2 rfl).eW rfl⟩] (uL [3] [0,1,2] [31] (oS [vU 2,vN,vI 0,vN,vO,vF,vL jM z31] rfl rfl) (uB 6 [34] [3] [vB (decide (ln cM≤64))] [] (ay (ai [0,1] (aL ?_))))));cases hm;refine da 171 ae ?_;exact λ_ _ H71 hS=>qt H71 rfl (r7 rfl (hS.bk 1 rfl) underlying38 rfl (by kernel_rfl)) rfl ⟨_,rfl,Gh.nil,jM,rfl,hS.aV [0,2] rfl⟩⟩

def Vb(m:Nat)(l_:List a7):Nat→Int→Option Unit
 |0,_=>none
 |kk+1,v9=>cond (decide (v9<ln l_)) (az (0≤v9∧v9<ln l_)<|Option.bind (PB m (gi l_ v9)) λjj=>cond (!jj) (none) (Vb m l_ kk (J (v9+1)))) (some ())
def Vc(m:Nat)(l_:List a7):Option Bool:=lt (cond (decide (ln l_<1)) true (decide (16<ln l_))) λx3=>cond x3 (none) (Option.bind (Vb m l_ m 0) λ(z6:Unit)=>some true)
theorem a9I{a6:Gh}(m)(l_)(r)(hm:Vc m l_=some r)(w)(hL:Rd [eI tS l_ a6] w):Rb 242 [vL a6 l_] (vB r) w:=by
 rw[Vc]at hm;refine cz hL (call242 _) func242 ntmps242 λM X w=>?_;refine uO [] (ah ?_);obtain⟨x3,iT,hm⟩:=bc hm;refine gZ [] hm (λhm=>ag ?_) (he:=by subst iT;kernel_rfl);obtain⟨z6,hz,hm⟩:=a8 hm;refine uK [0] [] [] [eI tS l_ a6] ?_ ?_;refine uA 3 (vI 0) [] (aC (eX [] [3] (λv9=>[vI v9]) (λ_=>[eI tS l_ a6]) hz (λkk v9 hm=>?_)));rw[Vb]at hm;refine ah (uI [] hm ?_ ?_);refine λhm=>ag (ah (aC ?_));obtain⟨nc,jj,xL,hm⟩:=kP hm;refine gZ [ki 0 nc,kj 0 0 nc,kc (a1F m _ _ xL)] hm ?_;intro hm;exact ag (fQ [] hm);refine λhm=>bl ?_;cases hm;exact te;refine ai [] ?_;cases hm;exact uZ [] []

def Vd(m:Nat)(y5:List aq):Nat→List a7→Int→Option (List a7)
 |0,_,_=>none
 |kk+1,bz,v20=>cond (decide (v20<ln y5)) (az (0≤v20∧v20<ln y5)<|cond (Int.tmod v20 2==0) (cond ((gi y5 v20).aT.af !=1) (none) (az (ln bz+ln ([(gi y5 v20).aT.di]:List a7)≤137438953472)<|lt (bz++([(gi y5 v20).aT.di]:List a7)) λEW=>Vd m y5 kk EW (J (v20+1)))) (none)) (some bz)
def PH(m:Nat)(v_:List aq):Option ((List a7)×Bool):=Option.bind (C3 m v_) λy5=>Option.bind (Vd m y5 m ([]:List a7) 0) λ(j5:List a7)=>Option.bind (cond (Int.tmod (ln y5) 2==1) (Vc m j5) (some default)) λy56=>lt (cond (Int.tmod (ln y5) 2==1) y56 false) λsC=>some (j5,sC)
theorem a1P{ax:Gh}(m)(v_)(r)(hm:PH m v_=some r):Dm 188 [vL ax v_] [eI ae v_ ax] (λ(aI:Gh)=>vW [vL aI r.1,vB r.2]) (λaI=>[eO 9 tS r.1 aI]):=by
 rw[PH]at hm;refine gY (call188 _) func188 ntmps188 λM X w=>?_;refine uO [] (aF (uB 1 [0] [7] [vL ax v_] [] ?_));obtain⟨y5,j4,hm⟩:=a8 hm;refine uQ [0] [0] [7] (Hz (ax:=ax) m _ _ j4) λg6=>uB 3 [8] [0] [vL g6 y5] [] (ay (ai [0] (uA 4 vO [] ?_)));obtain⟨j5,hz,hm⟩:=a8 hm;refine h9 [] [4] (λ(jK:Gh)=>[vL jK j5]) (λjK=>[eO 9 tS j5 jK,eI ae y5 g6]) ?_ ?_;refine uA 5 (vI 0) [] (aC (da 9 tS (n8 [] [0,4,5] (λbz v20 g19=>[vL g6 y5,vL g19 bz,vI v20]) (λbz _ g19=>[eO 9 tS bz g19,eI ae y5 g6]) Gh.nil hz (λkk bz v20 g19 hm=>?_))));rw[Vd]at hm;refine ah (uI [] hm ?_ ?_);refine λhm=>ag (ah (aC (aF ?_)));obtain⟨lq,hm⟩:=bY hm;refine uB 5 [] [19] [.agg ⟨e7 (gi y5 v20).aT⟩] [ki 1 lq,⟨some (.agg ⟨e7 (gi y5 v20).aT⟩),λwz=>V.bH (ab g6.a) (ao g6.a+v20.toNat*6) (e7 (gi y5 v20).aT) 0 wz,λ_ hS=>(hS.im 1 rfl).dp lq 0 rfl⟩] (uM [] [0,1] [] (oA [vU 0,vN,vI 0,vN,vF]) λb26=>uL [0] [1,2] [19] (oS (e7 (gi y5 v20).aT) rfl rfl) (ay (TJ [⟨none,λ_=>(2:Int)≠0,λ_ _=>(by show(2:Int)≠0;decide)⟩] hm (λhm=>ah (gZ [kb 0 0] hm (λhm=>ag (dC (uB 3 [4,6] [26,28] [vL g19 bz,vS (gi y5 v20).aT.di] [kb 0 1] (uM [] [0,1,2] [28] (oL tS 9 vN [(gi y5 v20).aT.di] [gL []] (λ_=>ba.cons trivial ba.nil) rfl) λcV=>?_)))))))));obtain⟨pF,EW,Ve,hm⟩:=cE hm;exact uM [2,0] [1,3] [26,29] (oP tS vN g19 cV Ve pF rfl rfl) λjy=>uB 6 [30] [0,4,5] [vL g6 y5,vL jy EW,vI v20] [] (ay (ai [0,3] (xw [] jy hm)));refine λhm=>bl ?_;cases hm;exact tg g19;intro jK;obtain⟨y56,a9J,sC,L6,hm⟩:=jq hm;refine uR [0,4] [2,3] [vL jK j5,vB sC] [⟨none,λ_=>(2:Int)≠0,λ_ _=>(by show(2:Int)≠0;decide)⟩,eY (gT (Int.tmod (ln y5) 2==1)) λ_ hS hg=>a9I (a6:=jK) m _ _ (bT (hg.1) a9J) _ (aA aU (hS.bD 0 rfl))] (ai [0] (aL ?_)) (he:=by subst L6;kernel_rfl);cases hm;exact dm jK [0] fk

def Vf(m:Nat)(jN:List (List aq)):Nat→Int→List (List a7)→Option (List (List a7))
 |0,_,_=>none
 |kk+1,tL,C9=>cond (decide (tL<ln jN)) (az (0≤tL∧tL<ln jN)<|Option.bind (PH m (gi jN tL)) λyZ=>cond (!yZ.2) (none) (az (ln C9+ln ([yZ.1]:List (List a7))≤137438953472)<|lt (C9++([yZ.1]:List (List a7))) λPI=>Vf m jN kk (J (tL+1)) PI)) (some C9)
def Vg(m:Nat)(c_:pD):Option (bp×Bool):=cond c_.Hw (Option.bind (C3 m c_.ni) λfL=>cond (ln fL==0) (none) (Option.bind (PH m c_.ni) λee=>some (bp.mk 4 ([]:List bw) ([]:List cR) (bq.mk 0 [] 0 (cR.mk [] ([]:List aq) false) ([]:List bq)) ([ee.1]:List (List a7)) ([]:List bp),ee.2))) (Option.bind (Hy m c_.ni 18) λjN=>Option.bind (Vf m jN m 0 ([]:List (List a7))) λ(lr:List (List a7))=>some (bp.mk 5 ([]:List bw) ([]:List cR) (bq.mk 0 [] 0 (cR.mk [] ([]:List aq) false) ([]:List bq)) lr ([]:List bp),decide (ln jN≤64)))
theorem a9K{aE aw:Gh}(m)(c_)(r)(hm:Vg m c_=some r)(M:Av)(w:World)(hS:S0 M [eI ae c_.ni aE,eI ae c_.qC aw] w):eJ prog 136 ⟨[.agg ⟨C1 c_ (gL [aE,aw])⟩]⟩ w (λv w'=>∃(aI:Gh)(jx:Gh)(L7:Gh)(L8:Gh)(L9:Gh)(Lb:Gh),v=.tuple ⟨[.agg ⟨e5 r.1 (gL [aI,jx,L7,L8,L9,Lb])⟩,vB r.2]⟩∧SH M (aD [eI ae c_.ni aE,eI ae c_.qC aw]) w [eO 117 bG r.1.dE aI,eO 35 dA r.1.cW jx,eO 171 ae r.1.aS.aQ.Value L7,eO 38 bu r.1.aS.aa L8,eO 66 (Ty.sl tS) r.1.bK L9,eO 42 bJ r.1.br Lb] w'):=⟨call136 _,by
 rw[Vg]at hm;unfold S0 at hS;generalize aD [eI ae c_.ni aE,eI ae c_.qC aw]=X at hS⊢;refine dQ func136 rfl ntmps136 rfl λ_ H=>aG H hS (aF (fb [] [0,1] [] [] (oB (C1 c_ (gL [aE,aw])) rfl) λb1=>uM [] [0,1,2] [] (oA [vU 0,vO,vO,vU 0,vN,vI 0,vN,vO,vF,vO,vO,vO]) λb4=>uP 3 [] (ay (ah (uI [kb 1 3] hm ?_ ?_)))));refine λhm=>aF (uB 1 [] [14] [vG [vU 4,vO,vO,vU 0,vN,vI 0,vN,vO,vF,vO,vO,vO]] [] (uM [] [0,1,2,3] [] (oA [vU 0,vO,vO,vU 0,vN,vI 0,vN,vO,vF,vO,vO,vO]) λLd=>uL [0] [1,2,3,4] [14] (oS [vU 4,vO,vO,vU 0,vN,vI 0,vN,vO,vF,vO,vO,vO] rfl rfl) (ay (ah (aF (uB 2 [] [16] [vL aE c_.ni] [kb 2 1] ?_))))));obtain⟨fL,uT,hm⟩:=a8 hm;refine uQ [3] [0,1,2,3,4] [16] (Hz (ax:=aE) m _ _ uT) λg21=>uB 5 [17] [1,2,4,19] [vP b1,vP b4,vP Ld,vB (ln fL==0)] [] (ay (ai [1,2,3,4,5] (Ei hm (λhm=>ag (aF (uB 2 [1,19] [23] [vL aE c_.ni] [kb 2 1] ?_))))));obtain⟨ee,wB,hm⟩:=a8 hm;refine uQ [3] [0,1,2,3,4] [23] (a1P (ax:=aE) m _ _ wB) λpd=>uB 8 [24] [5,6] [vL pd ee.1,vB ee.2] [] (ay (ai [0,1,2] (aF (uB 1 [5] [27] [vL pd ee.1] [] (kN [0,1,2] (uM [0] [0,1,2] [27] (oL (Ty.sl tS) 66 vO [ee.1] [gL [pd]] (λhd=>ba.cons (hd.im 0 rfl) ba.nil) rfl) λiV=>uB 3 [] [28,29] [vK iV 1,vA Ld 10] [] ?_))))));refine pz [2] [0,1,3] [2,4,6] [vP b4,vP Ld,vB ee.2] (oS [vU 4,vO,vO,vU 0,vN,vI 0,vN,vO,vF,vO,vK iV 1,vO] rfl rfl) (ay (ai [0,1,3] (aF (uB 2 [4,6] [30,31] [vG [vU 4,vO,vO,vU 0,vN,vI 0,vN,vO,vF,vO,vK iV 1,vO],vB ee.2] [⟨some (vG [vU 4,vO,vO,vU 0,vN,vI 0,vN,vO,vF,vO,vK iV 1,vO]),rN Ld 0 [vU 4,vO,vO,vU 0,vN,vI 0,vN,vO,vF,vO,vK iV 1,vO],λ_ hS=>(hS.bk 0 rfl).eW rfl⟩] (uL [2] [0,1] [30] (oS [vU 4,vO,vO,vU 0,vN,vI 0,vN,vO,vF,vO,vK iV 1,vO] rfl rfl) (uB 4 [31] [3] [vB ee.2] [] (ay (ai [0,2] (aL ?_)))))))));cases hm;exact da 117 bG (da 35 dA (da 171 ae (da 38 bu (da 42 bJ (λ_ _ wF hS=>qt wF rfl (r7 rfl (hS.bk 5 rfl) underlying42 rfl (by kernel_rfl)) rfl ⟨_,rfl,Gh.nil,Gh.nil,Gh.nil,Gh.nil,iV,Gh.nil,rfl,hS.aV [4,3,2,1,6,0] rfl⟩)))));refine λhm=>ag (aF (uB 1 [] [32] [vG [vU 5,vO,vO,vU 0,vN,vI 0,vN,vO,vF,vO,vO,vO]] [] (uM [] [0,1,2,3] [] (oA [vU 0,vO,vO,vU 0,vN,vI 0,vN,vO,vF,vO,vO,vO]) λEX=>uL [0] [1,2,3,4] [32] (oS [vU 5,vO,vO,vU 0,vN,vI 0,vN,vO,vF,vO,vO,vO] rfl rfl) (ay (aF (uB 2 [1] [34] [vL aE c_.ni] [kb 2 1] ?_))))));obtain⟨jN,EY,hm⟩:=a8 hm;refine uQ [3] [0,1,2,3,4] [34] (Py (ax:=aE) m _ _ _ EY) λiU=>uB 4 [35] [2,7,8] [vP b4,vP EX,vL iU jN] [] (ay (ai [0,1,2] ?_));obtain⟨lr,hz,hm⟩:=a8 hm;refine h9 [] [] (λ(jA:Gh)=>[]) (λjA=>[eO 66 (Ty.sl tS) lr jA,eO 33 (Ty.sl ae) jN iU,eB EX [vU 5,vO,vO,vU 0,vN,vI 0,vN,vO,vF,vO,vL jA lr,vO],eB b4 [vU 0,vO,vO,vU 0,vN,vI 0,vN,vO,vF,vO,vO,vO]]) ?_ ?_;refine uA 9 (vI 0) [] (aC (da 66 (Ty.sl tS) (n8 [] [9] (λtL _ _=>[vI tL]) (λ_ C9 qJ=>[eO 66 (Ty.sl tS) C9 qJ,eO 33 (Ty.sl ae) jN iU,eB EX [vU 5,vO,vO,vU 0,vN,vI 0,vN,vO,vF,vO,vL qJ C9,vO],eB b4 [vU 0,vO,vO,vU 0,vN,vI 0,vN,vO,vF,vO,vO,vO]]) Gh.nil hz (λkk tL C9 qJ hm=>?_))));rw[Vf]at hm;refine ah (uI [] hm ?_ ?_);refine λhm=>ag (ah (aC (aF ?_)));obtain⟨HG,hm⟩:=bY hm;refine uB 4 [] [46] [.slice (iU.s tL.toNat 0).a (gi jN tL).length (iU.s tL.toNat 0).c] [kI 1 HG,kJ 1 0 HG] ?_;intro _ _ za hS;replace hS:=hS.eF (fH ((hS.ow 1 rfl).el HG));obtain⟨yZ,a9L,hm⟩:=a8 hm;refine aG za hS (uQ [0] [0,1,2,3,4] [46] (a1P (ax:=iU.s tL.toNat 0) m _ _ a9L) λiM=>uB 10 [47] [10,11] [vL iM yZ.1,vB yZ.2] [] (ay (ai [0,2,3,4,5] (ah (uR [11] [2,7,8,9,10,51] [vP b4,vP EX,vL iU jN,vI tL,vL iM yZ.1,vB (!yZ.2)] [] (Ei hm (λhm=>ag (dC (uB 3 [10,51] [54,55] [vL qJ C9,vL iM yZ.1] [kb 3 10] (kN [0,1,2,3,4] (uM [0] [0,1,2,3,4] [55] (oL (Ty.sl tS) 66 vO [yZ.1] [gL [iM]] (λhd=>ba.cons (hd.im 0 rfl) ba.nil) rfl) λVh=>?_)))))))))));obtain⟨a9M,PI,a9N,hm⟩:=cE hm;exact uM [2,0] [1,3,4,5] [54,56] (oP (Ty.sl tS) vO qJ Vh a9N a9M rfl rfl) λzb=>uB 6 [] [57,58] [vL zb PI,vA EX 10] [] (uL [4] [0,1,2,3,5] [57,58] (oS [vU 5,vO,vO,vU 0,vN,vI 0,vN,vO,vF,vO,vL zb PI,vO] rfl rfl) (ay (ai [0,1,4,5] (uV 9 (vI (J (tL+1))) [] (ai [1,2,0,3] (wc zb hm))))));refine λhm=>bl ?_;cases hm;exact tg qJ;intro jA;refine aF (uB 4 [7,8] [59,62] [vG [vU 5,vO,vO,vU 0,vN,vI 0,vN,vO,vF,vO,vL jA lr,vO],vB (decide (ln jN≤64))] [⟨some (vG [vU 5,vO,vO,vU 0,vN,vI 0,vN,vO,vF,vO,vL jA lr,vO]),rN EX 0 [vU 5,vO,vO,vU 0,vN,vI 0,vN,vO,vF,vO,vL jA lr,vO],λ_ hS=>(hS.bk 2 rfl).eW rfl⟩] (uL [3] [0,1,2] [59] (oS [vU 5,vO,vO,vU 0,vN,vI 0,vN,vO,vF,vO,vL jA lr,vO] rfl rfl) (uB 6 [62] [3] [vB (decide (ln jN≤64))] [] (ay (ai [0,1] (aL ?_))))));cases hm;refine da 117 bG (da 35 dA (da 171 ae (da 38 bu (da 42 bJ ?_))));exact λ_ _ a9O hS=>qt a9O rfl (r7 rfl (hS.bk 5 rfl) underlying42 rfl (by kernel_rfl)) rfl ⟨_,rfl,Gh.nil,Gh.nil,Gh.nil,Gh.nil,jA,Gh.nil,rfl,hS.aV [4,3,2,1,6,0] rfl⟩⟩

def Vi(m:Nat)(c_:pD):Option (bp×Bool):=cond (c_.At==[]) (Option.bind (UZ m c_.ni) λjj=>cond (cond (!c_.Hw) true (jj.2 !=0)) (none) (Option.bind (V2 m c_.qC) λcM=>some (bp.mk 1 jj.1 cM (bq.mk 0 [] 0 (cR.mk [] ([]:List aq) false) ([]:List bq)) ([]:List (List a7)) ([]:List bp),true))) (Option.bind (HF m c_.At [109,101,100,105,97]) λtM=>cond (cond tM c_.Hw false) (Option.bind (Va m c_.ni) λgG=>some (bp.mk 2 ([]:List bw) ([]:List cR) gG.1 ([]:List (List a7)) ([]:List bp),gG.2)) (Option.bind (HF m c_.At [115,117,112,112,111,114,116,115]) λVj=>cond (cond Vj c_.Hw false) (none) (Option.bind (HF m c_.At [108,97,121,101,114]) λy74=>cond y74 (Option.bind (Vg m c_) λEZ=>some (EZ.1,EZ.2)) (none))))
theorem a9P{aE aw:Gh}(m)(c_)(r)(hm:Vi m c_=some r)(M:Av)(w:World)(hS:S0 M [eI ae c_.ni aE,eI ae c_.qC aw] w):eJ prog 89 ⟨[.agg ⟨C1 c_ (gL [aE,aw])⟩]⟩ w (λv w'=>∃(aI:Gh)(jx:Gh)(L7:Gh)(L8:Gh)(L9:Gh)(Lb:Gh),v=.tuple ⟨[.agg ⟨e5 r.1 (gL [aI,jx,L7,L8,L9,Lb])⟩,vB r.2]⟩∧SH M (aD [eI ae c_.ni aE,eI ae c_.qC aw]) w [eO 117 bG r.1.dE aI,eO 35 dA r.1.cW jx,eO 171 ae r.1.aS.aQ.Value L7,eO 38 bu r.1.aS.aa L8,eO 66 (Ty.sl tS) r.1.bK L9,eO 42 bJ r.1.br Lb] w'):=⟨call89 _,by
 rw[Vi]at hm;unfold S0 at hS;generalize aD [eI ae c_.ni aE,eI ae c_.qC aw]=X at hS⊢;refine dQ func89 rfl ntmps89 rfl λ_ H=>aG H hS (aF (fb [] [0,1] [] [] (oB (C1 c_ (gL [aE,aw])) rfl) λb1=>uM [] [0,1,2] [] (oA [vU 0,vO,vO,vU 0,vN,vI 0,vN,vO,vF,vO,vO,vO]) λb4=>uP 3 [] (ay (ah (uI [kb 1 0] hm ?_ ?_)))));refine λhm=>aF (uB 2 [] [15] [vL aE c_.ni] [kb 1 1] ?_);obtain⟨jj,xL,hm⟩:=a8 hm;refine uQ [2] [0,1,2,3] [15] (a9z (ax:=aE) m _ _ xL) λg14=>uB 8 [16] [4,5] [vL g14 jj.1,vI jj.2] [] (ay (ah (uz [5] [kb 2 3] hm (λhm=>ag (aF (uB 3 [1,4] [27,29] [vL g14 jj.1,vL aw c_.qC] [kb 2 2] ?_))))));obtain⟨cM,nU,hm⟩:=a8 hm;refine TI [4] [0,1,2,3,4] [2,27] [vP b4,vL g14 jj.1] (a9B (ax:=aw) m _ _ nU) λgu=>uB 5 [27,30] [31] [vG [vU 1,vL g14 jj.1,vL gu cM,vU 0,vN,vI 0,vN,vO,vF,vO,vO,vO]] [] (uL [2] [0,1,3,4,5] [31] (oS [vU 1,vL g14 jj.1,vL gu cM,vU 0,vN,vI 0,vN,vO,vF,vO,vO,vO] rfl rfl) (uB 7 [] [3] [vT] [] (ay (ai [0,1,2] (aL ?_)))));cases hm;exact da 171 ae (da 38 bu (da 66 (Ty.sl tS) (da 42 bJ (λ_ _ j3 hS=>qt j3 rfl (r7 rfl (hS.bk 4 rfl) underlying42 rfl (by kernel_rfl)) rfl ⟨_,rfl,g14,gu,Gh.nil,Gh.nil,Gh.nil,Gh.nil,rfl,hS.aV [6,5,3,2,1,0] rfl⟩))));refine λhm=>ag (ah ?_);obtain⟨tM,Le,hm⟩:=a8 hm;refine uA 38 (vB (cond tM c_.Hw false)) [kb 1 0,kc (PD m _ _ _ Le),bx (gT tM) 1 3] (rX (λhc=>?_) (λhc=>?a9Q))
 case a9Q=>
  replace hm:=bF hc hm;refine ag (ah ?_);obtain⟨Vj,a9R,hm⟩:=a8 hm;refine uz [38] [kb 1 0,kc (PD m _ _ _ a9R),bx (gT Vj) 1 3] hm (λhm=>ag (ah ?_));obtain⟨y74,a9S,hm⟩:=a8 hm;refine uI [kb 1 0,kc (PD m _ _ _ a9S)] hm ?_ ?_;refine λhm=>aF (uB 1 [1] [67] [.agg ⟨C1 c_ (gL [aE,aw])⟩] [kE 1 4] ?_);obtain⟨EZ,a9T,hm⟩:=a8 hm;intro _ _ H78 hS;have hd:=hS.hand [2,3] [0,1,2,3] rfl rfl;refine eZ [68,2] [(2,[],vP b4)] H78 rfl rfl rfl rfl (df H78 rfl rfl (a9K (aE:=aE) (aw:=aw) m _ _ a9T _ _ hd)) (λ_=>rfl) λ_ _ v PJ hq=>?_;obtain⟨qJ,Ak,wx,kw,iM,Vk,rfl,hq⟩:=hq;replace hS:=hS.join [2,3] [0,1,2,3] rfl rfl hq;refine aG PJ hS (gh 4 [2,69,70] [vP b4,.agg ⟨e5 EZ.1 (gL [qJ,Ak,wx,kw,iM,Vk])⟩,vB EZ.2] [] (uL [6] [0,1,2,3,4,5,7,8,9] [69] (oS (e5 EZ.1 (gL [qJ,Ak,wx,kw,iM,Vk])) rfl rfl) (uB 6 [70] [3] [vB EZ.2] [] (ay (ai [0,1,2,3,4,5,6] (aL ?_))))));cases hm;exact λ_ _ HH hS=>qt HH rfl (r7 rfl (hS.bk 0 rfl) underlying42 rfl (by kernel_rfl)) rfl ⟨_,rfl,qJ,Ak,wx,kw,iM,Vk,rfl,hS.aV [1,2,3,4,5,6] rfl⟩;refine λhm=>ag ?_;intro _ _ PK hS;exact cD hm
 replace hm:=bT hc hm;refine aF (uB 2 [1,38] [41] [vL aE c_.ni] [kb 1 1] ?_);obtain⟨gG,ER,hm⟩:=a8 hm;intro _ _ pe hS;have hd:=hS.hand [2] [0,1,2,3] rfl rfl;refine eZ [42,2] [(2,[],vP b4)] pe rfl rfl rfl rfl (df pe rfl rfl (a9F (ax:=aE) m _ _ ER _ _ hd)) (λ_=>rfl) λ_ _ v wF hq=>?_;obtain⟨nh,oH,rfl,hq⟩:=hq;replace hS:=hS.join [2] [0,1,2,3] rfl rfl hq;refine aG wF hS (gh 6 [2,43,44] [vP b4,.agg ⟨e4 gG.1 (gL [nh,oH])⟩,vB gG.2] [] (uM [] [0,1,2,3,4,5] [] (oA [vU 0,vN,vI 0,vN,vO,vF,vO]) λb54=>uL [0] [1,2,3,4,5,6] [43] (oS (e4 gG.1 (gL [nh,oH])) rfl rfl) (uB 9 [44] [7] [vB gG.2] [] (ay (ai [0,1,2,3] (aF (uB 3 [6,7] [2,46,47] [vP b4,vG [vU 2,vO,vO,vU gG.1.af,vS gG.1.bm,vI gG.1.cN,vS gG.1.aQ.bm,vL nh gG.1.aQ.Value,vB gG.1.aQ.jr,vL oH gG.1.aa,vO,vO],vB gG.2] [kE 0 7] (uL [3] [0,1,2] [46] (oS [vU 2,vO,vO,vU gG.1.af,vS gG.1.bm,vI gG.1.cN,vS gG.1.aQ.bm,vL nh gG.1.aQ.Value,vB gG.1.aQ.jr,vL oH gG.1.aa,vO,vO] rfl rfl) (uB 5 [47] [3] [vB gG.2] [] (ay (ai [0,2,3] (aL ?_))))))))))));cases hm;refine da 117 bG (da 35 dA (da 66 (Ty.sl tS) (da 42 bJ ?_)));exact λ_ _ Vl hS=>qt Vl rfl (r7 rfl (hS.bk 4 rfl) underlying42 rfl (by kernel_rfl)) rfl ⟨_,rfl,Gh.nil,Gh.nil,nh,oH,Gh.nil,Gh.nil,rfl,hS.aV [3,2,5,6,1,0] rfl⟩⟩

def PL(cJ:Int):Bool:=lt (cond (cond (cJ==2) true (cJ==3)) true (cJ==4)) λx3=>x3
theorem a9U(cJ:Int):Rt 90 [vU cJ] (vB (PL cJ)):=by
 generalize hm:PL cJ=r;rw[PL]at hm;refine dy (call90 _) func90 ntmps90 λM X w=>?_;refine uO [] ?_;obtain⟨x3,iT,hm⟩:=bc hm;refine uR [0] [2] [vB x3] [] (aL ?_) (he:=by subst iT;kernel_rfl);subst hm;exact bf [] bo

def a9V(dW:(List aq)→Bool→Int→Option ((List bp)×Int)):Prop:=∀(ax:Gh)(M:Av)(v_:List aq)(top:Bool)(room:Int)(r:(List bp)×Int),dW v_ top room=some r→∀w,S0 M [eI ae v_ ax] w→Calls prog 59 ⟨[vL ax v_,vB top,vI room]⟩ w (λe w'=>∃v,e=.returned v∧∃(aI:Gh),v=vW [vL aI r.1,vI r.2]∧SH M (aD [eI ae v_ ax]) w [eO 42 bJ r.1 aI] w')
def Vm(m:Nat)(y7:List pD)(a1Q:(List aq)→Bool→Int→Option ((List bp)×Int)):Nat→Int→List bp→Int→Option (Int×(List bp))
 |0,_,_,_=>none
 |kk+1,bz,eH,v21=>lt (cond (decide (v21<ln y7)) (decide (0<bz)) false) λml=>cond ml (Option.bind (az (0≤v21∧v21<ln y7)<|Option.bind (Vi m (gi y7 v21)) λdx=>cond (!dx.2) (some (bz,eH)) (Option.bind (cond (PL dx.1.af) (Option.bind (a1Q (gi y7 v21).qC false (J (bz-1))) λxM=>some (xM.2,xM.1)) (some (J (bz-1),dx.1.br))) λ(z59:Int×(List bp))=>az (ln eH+ln ([bp.mk dx.1.af dx.1.dE dx.1.cW dx.1.aS dx.1.bK z59.2]:List bp)≤137438953472)<|lt (eH++([bp.mk dx.1.af dx.1.dE dx.1.cW dx.1.aS dx.1.bK z59.2]:List bp)) λVn=>some (z59.1,Vn))) λ(z25:Int×(List bp))=>Vm m y7 a1Q kk z25.1 z25.2 (J (v21+1))) (some (bz,eH))
def PM(m:Nat):Nat→List aq→Bool→Int→Option ((List bp)×Int)
 |0,_,_,_=>none
 |k+1,v_,top,room=>Option.bind (UC m v_ top) λy7=>Option.bind (Vm m y7 (PM m k) m room ([]:List bp) 0) λ(j5:Int×(List bp))=>some (j5.2,j5.1)
theorem a9W(m:Nat):∀(k:Nat),a9V (PM m k):=by
 intro k
 induction k with
 |zero=>intro ax M v_ top room r hm;exact cD hm
 |succ k ih=>
  intro ax M v_ top room r hm w hS;rw[PM]at hm;unfold S0 at hS;generalize aD [eI ae v_ ax]=X at hS⊢;refine dQ func59 rfl ntmps59 rfl λ_ H=>aG H hS (cy [0,1,2] [vL ax v_,vB top,vI room] [] (uA 8 vO [] (aF (uB 2 [0,1] [13,14] [vL ax v_,vB top] [] ?_))));obtain⟨y7,sb,hm⟩:=a8 hm;refine uQ [0] [0] [13,14] (a9j (ax:=ax) m _ _ _ sb) λg8=>uB 4 [15] [9] [vL g8 y7] [] (ay (ai [0] ?_));obtain⟨j5,hz,hm⟩:=a8 hm;refine h9 [9] [2,8] (λ(HI:Gh)=>[vI j5.1,vL HI j5.2]) (λHI=>[eO 42 bJ j5.2 HI,eO 162 pW y7 g8]) ?_ ?_;refine uA 10 (vI 0) [] (aC (da 42 bJ (P1 [] [9,2,8,10] (λbz eH v21 g20=>[vL g8 y7,vI bz,vL g20 eH,vI v21]) (λ_ eH _ g20=>[eO 42 bJ eH g20,eO 162 pW y7 g8]) Gh.nil hz (λkk bz eH v21 g20 hm=>?_))));rw[Vm]at hm;refine ah ?_;obtain⟨ml,vd,hm⟩:=bc hm;refine uI [] hm ?_ ?_ (he:=by subst vd;kernel_rfl);refine λhm=>ag ?_;obtain⟨z25,hz,hm⟩:=a8 hm;refine h9 [] [2,8] (λ(pI:Gh)=>[vI z25.1,vL pI z25.2]) (λpI=>[eO 42 bJ z25.2 pI,eO 162 pW y7 g8]) ?_ ?_;refine aC (aF ?_);obtain⟨lv,hm⟩:=bY hz;refine uB 4 [] [30] [.agg ⟨C1 (gi y7 v21) (g8.s v21.toNat)⟩] [kI 1 lv,⟨some (.agg ⟨C1 (gi y7 v21) (g8.s v21.toNat)⟩),λwz=>V.bH (ab g8.a) (ao g8.a+v21.toNat*4) (C1 (gi y7 v21) (g8.s v21.toNat)) 0 wz,λ_ hS=>(hS.bD 1 rfl).dp lv 0 rfl⟩] ?_;intro _ _ li hS;replace hS:=hS.eF (a9h ((hS.ow 1 rfl).el lv));replace hS:=hS.eF (a1E ((hS.ow 2 rfl).el lv));obtain⟨dx,F1,hm⟩:=a8 hm;have hd:=hS.hand [1,0] [0,1,2,3] rfl rfl;refine eZ [31,2,8,9,10] (fS [2,8,9,10] [vI bz,vL g20 eH,vL g8 y7,vI v21]) li rfl rfl rfl rfl (df li rfl rfl (a9P (aE:=g8.s v21.toNat 0) (aw:=g8.s v21.toNat 1) m _ _ F1 _ _ hd)) (λ_=>rfl) λ_ _ v wG hq=>?_;obtain⟨eG,pC,rn,iV,pc,nn,rfl,hq⟩:=hq;replace hS:=hS.join [1,0] [0,1,2,3] rfl rfl hq;refine aG wG hS (gh 8 [2,8,9,10,32,33] [vI bz,vL g20 eH,vL g8 y7,vI v21,.agg ⟨e5 dx.1 (gL [eG,pC,rn,iV,pc,nn])⟩,vB dx.2] [] (uM [] [0,1,2,3,4,5,6,7,8,9] [] (oA [vU 0,vO,vO,vU 0,vN,vI 0,vN,vO,vF,vO,vO,vO]) λLg=>uL [0] [1,2,3,4,5,6,7,8,9,10] [32] (oS (e5 dx.1 (gL [eG,pC,rn,iV,pc,nn])) rfl rfl) (uB 11 [33] [12] [vB dx.2] [] (ay (ai [0,1,2,3,4,5,6,9,10] (ah (uJ [12] [] hm ?_ ?_)))))));refine λhm=>bl ?_;cases hm;exact ai [7,8] (tg g20);refine λhm=>ag (uR [] [2,8,9,10,11] [vI (J (bz-1)),vL g20 eH,vL g8 y7,vI v21,vP Lg] [] ?_);obtain⟨z59,hz,hm⟩:=a8 hm;refine h9 [] [2] (λ(pg:Gh)=>[vI z59.1]) (λpg=>[eO 42 bJ z59.2 pg,eB Lg [vU dx.1.af,vL eG dx.1.dE,vL pC dx.1.cW,vU dx.1.aS.af,vS dx.1.aS.bm,vI dx.1.aS.cN,vS dx.1.aS.aQ.bm,vL rn dx.1.aS.aQ.Value,vB dx.1.aS.aQ.jr,vL iV dx.1.aS.aa,vL pc dx.1.bK,vL pg z59.2],eO 117 bG dx.1.dE eG,eO 35 dA dx.1.cW pC,eO 171 ae dx.1.aS.aQ.Value rn,eO 38 bu dx.1.aS.aa iV,eO 66 (Ty.sl tS) dx.1.bK pc,eO 42 bJ eH g20,eO 162 pW y7 g8]) ?_ ?_;refine uI [kb 0 0,kc (a9U dx.1.af)] hz ?_ ?_;refine λhm=>dC (uB 6 [2] [46,47] [.slice (g8.s v21.toNat 1).a (gi y7 v21).qC.length (g8.s v21.toNat 1).c,vI (J (bz-1))] [kI 8 lv,kJ 8 2 lv] ?_);intro _ _ mK hS;replace hS:=hS.eF (a1E ((hS.ow 8 rfl).el lv));obtain⟨xM,Vo,hm⟩:=a8 hm;refine aG mK hS (uM [0] [0,1,2,3,4,5,6,7,8,9] [46,47] (λ_ _ mK hd=>df mK rfl rfl (⟨call59 _,ih (g8.s v21.toNat 1) _ _ _ _ _ Vo _ hd⟩:eJ _ _ _ _ _)) λsD=>uB 11 [48] [49,50,51] [vL sD xM.1,vI xM.2,vA Lg 11] [] (uL [2] [0,1,3,4,5,6,7,8,9,10] [49,51] (oS [vU dx.1.af,vL eG dx.1.dE,vL pC dx.1.cW,vU dx.1.aS.af,vS dx.1.aS.bm,vI dx.1.aS.cN,vS dx.1.aS.aQ.bm,vL rn dx.1.aS.aQ.Value,vB dx.1.aS.aQ.jr,vL iV dx.1.aS.aa,vL pc dx.1.bK,vL sD xM.1] rfl rfl) (uB 13 [50] [2] [vI xM.2] [] (ay (ai [0,1,3,4,5,6,7,8,9,10] ?_)))));cases hm;exact ai [1,0,2,3,4,5,6,8,9] (tg sD);refine λhm=>ag ?_;cases hm;exact ai [6,0,1,2,3,4,5,7,8] (tg nn);intro pg;refine dC (uB 2 [8,11] [52,53] [vL g20 eH,vG [vU dx.1.af,vL eG dx.1.dE,vL pC dx.1.cW,vU dx.1.aS.af,vS dx.1.aS.bm,vI dx.1.aS.cN,vS dx.1.aS.aQ.bm,vL rn dx.1.aS.aQ.Value,vB dx.1.aS.aQ.jr,vL iV dx.1.aS.aa,vL pc dx.1.bK,vL pg z59.2]] [kE 1 12] (kN [2,0,1,3,4,5,6,7,8] (kN [3,0,1,2,4,5,6,7,8] (kN [4,0,1,2,3,5,6,7,8] (kN [5,0,1,2,3,4,6,7,8] (kN [6,0,1,2,3,4,5,7,8] (kN [5,0,1,2,3,4,6,7,8] (uM [5,4,3,2,1,0] [0,1,2,3,4,5,6,7,8] [53] (oL bJ 42 (vG [vU 0,vO,vO,vU 0,vN,vI 0,vN,vO,vF,vO,vO,vO]) [bp.mk dx.1.af dx.1.dE dx.1.cW dx.1.aS dx.1.bK z59.2] [gL [eG,pC,rn,iV,pc,pg]] (λhd=>ba.cons (Ub (hd.im 0 rfl) (hd.im 1 rfl) (hd.im 2 rfl) (hd.im 3 rfl) (hd.im 4 rfl) (hd.im 5 rfl)) ba.nil) rfl) λVp=>?_))))))));obtain⟨Vq,Vn,a9X,hm⟩:=cE hm;refine uM [8,0] [1,2,3,4,5,6,7,9] [52,54] (oP bJ (vG [vU 0,vO,vO,vU 0,vN,vI 0,vN,vO,vF,vO,vO,vO]) g20 Vp a9X Vq rfl rfl) λlQ=>uB 5 [55] [8] [vL lQ Vn] [] (ay (ai [0,9] ?_));cases hm;exact tg lQ;intro pI;exact a0X [] pI hm;refine λhm=>bl ?_;cases hm;exact tg g20;intro HI;refine ai [0] (uR [2,8] [6,7] [vL HI j5.2,vI j5.1] [] (aL ?_));cases hm;exact dm HI [0] fk
def a1R(m:Nat)(v_:List aq)(top:Bool)(room:Int):Option ((List bp)×Int):=PM m m v_ top room
theorem a9Y{ax:Gh}(m)(v_)(top)(room)(r)(hm:a1R m v_ top room=some r)(M:Av)(w:World)(hS:S0 M [eI ae v_ ax] w):eJ prog 59 ⟨[vL ax v_,vB top,vI room]⟩ w (λv w'=>∃(aI:Gh),v=vW [vL aI r.1,vI r.2]∧SH M (aD [eI ae v_ ax]) w [eO 42 bJ r.1 aI] w'):=⟨call59 _,a9W m m ax M v_ top room r hm w hS⟩

def Vr(m:Nat)(s:a7):Option (tE×Int):=Option.bind (UA m s) λy8=>cond (y8.2 !=0) (none) (Option.bind (a1R m y8.1 true 64) λgk=>some (tE.mk gk.1,0))
theorem a9Z(m)(s)(r)(hm:Vr m s=some r):Dm 42 [vS s] [] (λ(aI:Gh)=>vW [vG [vL aI r.1.br],vI r.2]) (λaI=>[eO 42 bJ r.1.br aI]):=by
 rw[Vr]at hm;refine gY (call42 _) func42 ntmps42 λM X w=>(aF ?_);refine uM [] [] [] (oA [vO]) λb1=>uP 2 [] (ay (aF (uB 1 [0] [9] [vS s] [] ?_)));obtain⟨y8,lg,hm⟩:=a8 hm;refine uQ [] [0] [9] (a9f m _ _ lg) λg9=>uB 7 [10] [4,5] [vL g9 y8.1,vI y8.2] [] (ay (ah (gZ [] hm (λhm=>ag (aF (uB 1 [4,5] [18] [vL g9 y8.1] [] (kN [0,1] ?_)))))));obtain⟨gk,rk,hm⟩:=a8 hm;refine uQ [0] [0,1] [18] (a9Y (ax:=g9) m _ _ _ _ rk) λg20=>uB 7 [19] [2,6] [vP b1,vL g20 gk.1] [] (ay (ai [0,2] (aF (uB 2 [6] [23] [vG [vL g20 gk.1]] [] (uL [1] [0] [23] (oS [vL g20 gk.1] rfl rfl) (uB 4 [] [3] [vI 0] [] (ay (aL ?_))))))));cases hm;exact dm g20 [1] (mA 0 underlying48)

def Vs(m:Nat)(jW:Int)(s:a7):Option fJ:=Option.bind (Vr m s) λy6=>some (fJ.mk jW (tE.mk y6.1.br))
theorem aa0(m)(jW)(s)(r)(hm:Vs m jW s=some r):Dm 24 [vU jW,vS s] [] (λ(aI:Gh)=>vG [vU r.gN,vL aI r.ed.br]) (λaI=>[eO 42 bJ r.ed.br aI]):=by
 rw[Vs]at hm;refine gY (call24 _) func24 ntmps24 λM X w=>(aF ?_);refine uM [] [] [] (oA [vU 0,vO]) λb1=>ay (aF (uB 1 [1] [4,8] [vP b1,vS s] [] ?_));obtain⟨y6,gO,hm⟩:=a8 hm;refine uQ [] [0] [8] (a9Z m _ _ gO) λg7=>uB 5 [9] [10,11] [vG [vL g7 y6.1.br],vI y6.2] [] (uM [] [0,1] [] (oA [vO]) λLd=>uL [0] [1,2] [10] (oS [vL g7 y6.1.br] rfl rfl) (uB 8 [11] [] [] [] (ay (aF (uB 3 [0,5] [4,14] [vP b1,vG [vU jW,vL g7 y6.1.br]] [kE 0 1] (uL [2] [0,1] [14] (oS [vU jW,vL g7 y6.1.br] rfl rfl) (ay (ai [0,2] (aL ?_)))))))));cases hm;exact dm g7 [1] (Hp 0 underlying50)

def PN(m:Nat)(s:a7):Option (List fJ):=Option.bind (Vs m 3 s) λy5=>some ([y5]:List fJ)
theorem a1S(m)(s)(r)(hm:PN m s=some r):Dm 9 [vS s] [] (λ(aI:Gh)=>vL aI r) (λaI=>[eO 50 gr r aI]):=by
 rw[PN]at hm;refine gY (call9 _) func9 ntmps9 λM X w=>?_;refine uO [] (aF (uB 1 [0] [3] [vS s] [] ?_));obtain⟨y5,j4,hm⟩:=a8 hm;refine uQ [] [] [3] (aa0 m _ _ _ j4) λg6=>kN [0] (uM [0] [0] [4] (oL gr 50 (vG [vU 0,vO]) [y5] [gL [g6]] (λhd=>ba.cons (a1o (hd.im 0 rfl)) ba.nil) rfl) λg10=>uB 4 [5] [2] [vK g10 1] [] (ay (ai [0] (aL ?_))));cases hm;exact dm g10 [0] bo

theorem aa1(x0:a7)(x1:Int)(w:World):Rb 243 [vS x0,vU x1] (vI (GZ x0 x1)) w:=a6T func243 (by kernel_rfl) rfl (by kernel_rfl) (by kernel_rfl) _ _ w

structure Al where
  rules:Int
  depth:Int
  bad:Bool
instance:Inhabited Al:=⟨⟨default,default,default⟩⟩
def aa2:Ty Al where
  z:=3
  enc:=λx g=>[vI x.rules,vI x.depth,vB x.bad]
  bP:=λ_ _ _ _=>True
  len:=λ_ _=>rfl
  one:=λ_ _=>rfl
  kp:=λ_ _ _=>trivial
  bW:=λ_ _=>trivial
  fresh:=λ_=>trivial
def HJ(x:Al):List Value:=aa2.enc x (gL [])
def stringslite_IndexByte(s:a7)(c_:Int):Int:=(GZ s c_)
theorem a1T(s:a7)(c_:Int):Rt 190 [vS s,vU c_] (vI (stringslite_IndexByte s c_)):=by
 generalize hm:stringslite_IndexByte s c_=r;rw[stringslite_IndexByte]at hm;refine dy (call190 _) func190 ntmps190 λM X w=>?_;refine uO [] (uR [0,1] [4] [vI (GZ s c_)] [⟨some (vI (GZ s c_)),rB 243 [vS s,vU c_] (vI (GZ s c_)),λ_ _=>aa1 _ _ _⟩] (aL ?_));subst hm;exact bf [] bo

def strings_IndexByte(s:a7)(c_:Int):Int:=(stringslite_IndexByte s c_)
theorem Lh(s:a7)(c_:Int):Rt 139 [vS s,vU c_] (vI (strings_IndexByte s c_)):=by
 generalize hm:strings_IndexByte s c_=r;rw[strings_IndexByte]at hm;refine dy (call139 _) func139 ntmps139 λM X w=>?_;refine uO [] (uR [0,1] [4] [vI (stringslite_IndexByte s c_)] [kc (a1T s c_)] (aL ?_));subst hm;exact bf [] bo

def PO(s:a7):Bool:=lt (cond (s==[]) true (decide (64<ln s))) λx3=>lt (cond x3 true (decide (0≤strings_IndexByte s 0))) λx4=>x4
theorem aa3(s:a7):Rt 138 [vS s] (vB (PO s)):=by
 generalize hm:PO s=r;rw[PO]at hm;refine dy (call138 _) func138 ntmps138 λM X w=>?_;refine uO [] ?_;obtain⟨x3,iT,x4,nb,hm⟩:=eL hm;refine uR [0] [2] [vB x4] [gg (gF x3) λhg=>Lh s 0] (aL ?_) (he:=by subst iT nb;kernel_rfl);subst hm;exact bf [] bo

def HK(m:Nat)(s:List a7):Nat→Int→Option (Sum Int Unit)
 |0,_=>none
 |kk+1,v6=>cond (decide (v6<ln s)) (az (0≤v6∧v6<ln s)<|cond (PO (gi s v6)) (some (.inl v6)) (HK m s kk (J (v6+1)))) (some (.inr ()))
def PP(m:Nat)(s:List a7):Option Int:=Option.bind (HK m s m 0) λ(z3:Sum Int Unit)=>de z3 λdY=>some (-1)
theorem aa4{aY:Gh}(m)(s)(r)(hm:PP m s=some r)(w)(hL:Rd [eI tS s aY] w):Rb 189 [vL aY s,.func (.func 138) ⟨[]⟩ ⟨[]⟩] (vI r) w:=by
 rw[PP]at hm;refine cz hL (call189 _) func189 ntmps189 λM X w=>?_;refine uO [] ?_;obtain⟨z3,hz,fU⟩:=a8 hm;refine uS (z:=z3) [0,1] [] (λdY=>[]) (λdY=>[eI tS s aY]) ?_ ?_;refine uR [] [7,8] [vI (ln s),vI 0] [] (aC (eX [] [8] (λv6=>[vI v6]) (λ_=>[eI tS s aY]) hz (λkk v6 hm=>?_)));rw[HK]at hm;refine uA 9 (vB (decide (v6<ln s))) [] (ah (uC hm ?_ ?_));refine λhm=>ag (ah (aC (uR [9] [5] [vI v6] [] ?_)));obtain⟨eA,hm⟩:=bY hm;refine uI [ki 0 eA,kj 0 0 eA,kc (aa3 (gi s v6))] hm ?_ ?_;intro hm;cases hm;have hm:=fU;cases hm;exact uZ [] [];intro hm;exact ag (fQ [] hm);refine λhm=>bl ?_;cases hm;exact ts;rintro dY rfl;replace hm:=dO fU;refine ai [] ?_;cases hm;exact uZ [] []

def PQ(m:Nat)(s:List a7):Option Bool:=Option.bind (PP m s) λy3=>some (decide (0≤y3))
theorem aa5{aY:Gh}(m)(s)(r)(hm:PQ m s=some r)(w)(hL:Rd [eI tS s aY] w):Rb 137 [vL aY s,.func (.func 138) ⟨[]⟩ ⟨[]⟩] (vB r) w:=by
 rw[PQ]at hm;refine cz hL (call137 _) func137 ntmps137 λM X w=>?_;refine uO [] ?_;obtain⟨y3,cq,hm⟩:=a8 hm;refine uR [0,1] [4] [vB (decide (0≤y3))] [kr λ_ hS=>aa4 (aY:=aY) m _ _ cq _ (aA aU (hS.im 0 rfl))] (ai [] (aL ?_));cases hm;exact bf [] bo

def Li(m:Nat)(l_:List a7):Option Bool:=lt (cond (decide (0<ln l_)) (decide (ln l_≤16)) false) λx3=>Option.bind (cond x3 (PQ m l_) (some default)) λy4=>some (cond x3 (!y4) false)
theorem aa6{a6:Gh}(m)(l_)(r)(hm:Li m l_=some r)(w)(hL:Rd [eI tS l_ a6] w):Rb 94 [vL a6 l_] (vB r) w:=by
 rw[Li]at hm;refine cz hL (call94 _) func94 ntmps94 λM X w=>?_;refine uO [] ?_;obtain⟨x3,iT,y4,rh,hm⟩:=pb hm;refine uR [0] [2] [vB (cond x3 (!y4) false)] [eY (gT x3) λ_ hS hg=>aa5 (aY:=a6) m _ _ (bT (hg.1) rh) _ (aA aU (hS.im 0 rfl))] (ai [] (aL ?_)) (he:=by subst iT;kernel_rfl);cases hm;exact bf [] bo

def PR(m:Nat)(l_:List a7):Option Bool:=Option.bind (Li m l_) λy3=>some (!y3)
theorem aa7{a6:Gh}(m)(l_)(r)(hm:PR m l_=some r)(w)(hL:Rd [eI tS l_ a6] w):Rb 93 [vL a6 l_] (vB r) w:=by
 rw[PR]at hm;refine cz hL (call93 _) func93 ntmps93 λM X w=>?_;refine uO [] ?_;obtain⟨y3,cq,hm⟩:=a8 hm;refine uR [0] [2] [vB (!y3)] [kr λ_ hS=>aa6 (a6:=a6) m _ _ cq _ (aA aU (hS.im 0 rfl))] (ai [] (aL ?_));cases hm;exact bf [] bo

def HM(m:Nat)(s:List (List a7)):Nat→Int→Option (Sum Int Unit)
 |0,_=>none
 |kk+1,v6=>cond (decide (v6<ln s)) (az (0≤v6∧v6<ln s)<|Option.bind (PR m (gi s v6)) λdH=>cond dH (some (.inl v6)) (HM m s kk (J (v6+1)))) (some (.inr ()))
def PS(m:Nat)(s:List (List a7)):Option Int:=Option.bind (HM m s m 0) λ(z3:Sum Int Unit)=>de z3 λdY=>some (-1)
theorem aa8{aY:Gh}(m)(s)(r)(hm:PS m s=some r)(w)(hL:Rd [eI (Ty.sl tS) s aY] w):Rb 18 [vL aY s,.func (.func 93) ⟨[]⟩ ⟨[]⟩] (vI r) w:=by
 rw[PS]at hm;refine cz hL (call18 _) func18 ntmps18 λM X w=>?_;refine uO [] ?_;obtain⟨z3,hz,fU⟩:=a8 hm;refine uS (z:=z3) [0,1] [] (λdY=>[]) (λdY=>[eI (Ty.sl tS) s aY]) ?_ ?_;refine uR [] [7,8] [vI (ln s),vI 0] [] (aC (eX [] [8] (λv6=>[vI v6]) (λ_=>[eI (Ty.sl tS) s aY]) hz (λkk v6 hm=>?_)));rw[HM]at hm;refine uA 9 (vB (decide (v6<ln s))) [] (ah (uC hm ?_ ?_));refine λhm=>ag (ah (aC (uR [9] [5] [vI v6] [] ?_)));obtain⟨eA,dH,ku,hm⟩:=kP hm;refine uI [ki 0 eA,kj 0 0 eA,kr λ_ hS=>aa7 (a6:=aY.s v6.toNat 0) m _ _ ku _ (aA aU (fH ((hS.im 0 rfl).el eA)))] hm ?_ ?_;intro hm;cases hm;have hm:=fU;cases hm;exact uZ [] [];intro hm;exact ag (fQ [] hm);refine λhm=>bl ?_;cases hm;exact ts;rintro dY rfl;replace hm:=dO fU;refine ai [] ?_;cases hm;exact uZ [] []

def Lj(m:Nat)(s:List (List a7)):Option Bool:=Option.bind (PS m s) λy3=>some (decide (0≤y3))
theorem aa9{aY:Gh}(m)(s)(r)(hm:Lj m s=some r)(w)(hL:Rd [eI (Ty.sl tS) s aY] w):Rb 92 [vL aY s,.func (.func 93) ⟨[]⟩ ⟨[]⟩] (vB r) w:=by
 rw[Lj]at hm;refine cz hL (call92 _) func92 ntmps92 λM X w=>?_;refine uO [] ?_;obtain⟨y3,cq,hm⟩:=a8 hm;refine uR [0,1] [4] [vB (decide (0≤y3))] [kr λ_ hS=>aa8 (aY:=aY) m _ _ cq _ (aA aU (hS.im 0 rfl))] (ai [] (aL ?_));cases hm;exact bf [] bo

def aaa(dW:(List bw)→Option Int):Prop:=∀(a6:Gh)(M:Av)(l_:List bw)(r:Int),dW l_=some r→∀w,S0 M [eI bG l_ a6] w→Calls prog 95 ⟨[vL a6 l_]⟩ w (λe w'=>∃v,e=.returned v∧v=vI r∧SH M (aD [eI bG l_ a6]) w [] w')
def Ca(m:Nat)(l_:List bw)(v9:Int)(v24:Int)(Cb:(List bw)→Option Int):Nat→Int→Int→Option Int
 |0,_,_=>none
 |kk+1,dh,dq=>lt (decide (dq<ln (gi (gi l_ v9).bn v24).bE)) λnj=>cond nj (Option.bind (az (0≤dq∧dq<ln (gi (gi l_ v9).bn v24).bE)<|lt (gi (gi (gi l_ v9).bn v24).bE dq).af λnV=>lt (gi (gi (gi l_ v9).bn v24).bE dq).bm λwH=>lt (gi (gi (gi l_ v9).bn v24).bE dq).Op λCc=>lt (gi (gi (gi l_ v9).bn v24).bE dq).Value λCd=>lt (gi (gi (gi l_ v9).bn v24).bE dq).uE λsE=>lt (gi (gi (gi l_ v9).bn v24).bE dq).iS.A λxN=>lt (gi (gi (gi l_ v9).bn v24).bE dq).iS.B λj9=>lt (gi (gi (gi l_ v9).bn v24).bE dq).Of λAm=>lt (cond (cond (nV==9) true (nV==10)) (!Am) false) λpX=>lt (cond pX (xN==0&&(j9==1&&true)) false) λva=>lt (cond (nV==3) true (cond (decide (9≤nV)) (!va) false)) λve=>cond ve (Option.bind (Cb (gi (gi (gi l_ v9).bn v24).bE dq).aa) λVt=>lt (if dh<J (Vt+1)then J (Vt+1)else dh) λuU=>some uU) (some dh)) λ(sF:Int)=>Ca m l_ v9 v24 Cb kk sF (J (dq+1))) (some dh)
def Ce(m:Nat)(l_:List bw)(v9:Int)(Cb:(List bw)→Option Int):Nat→Int→Int→Option Int
 |0,_,_=>none
 |kk+1,v23,v24=>cond (decide (v24<ln (gi l_ v9).bn)) (Option.bind (az (0≤v24∧v24<ln (gi l_ v9).bn)<|Ca m l_ v9 v24 Cb m v23 0) λ(fX:Int)=>Ce m l_ v9 Cb kk fX (J (v24+1))) (some v23)
def Cf(m:Nat)(l_:List bw)(Cb:(List bw)→Option Int):Nat→Int→Int→Option Int
 |0,_,_=>none
 |kk+1,v8,v9=>cond (decide (v9<ln l_)) (Option.bind (az (0≤v9∧v9<ln l_)<|Ce m l_ v9 Cb m v8 0) λ(z12:Int)=>Cf m l_ Cb kk z12 (J (v9+1))) (some v8)
def sG(m:Nat):Nat→List bw→Option Int
 |0,_=>none
 |k+1,l_=>Option.bind (Cf m l_ (sG m k) m 0 0) λ(z5:Int)=>some z5
theorem aab(m:Nat):∀(k:Nat),aaa (sG m k):=by
 intro k
 induction k with
 |zero=>intro a6 M l_ r hm;exact cD hm
 |succ k ih=>
  intro a6 M l_ r hm w hS;rw[sG]at hm;unfold S0 at hS;generalize aD [eI bG l_ a6]=X at hS⊢;refine dQ func95 rfl ntmps95 rfl λ_ H=>aG H hS (cy [0] [vL a6 l_] [] (uA 3 (vI 0) [] ?_));obtain⟨z5,hz,hm⟩:=a8 hm;refine uK [0] [3] [vI z5] [eI bG l_ a6] ?_ ?_;refine uR [0] [12,13,14] [vL a6 l_,vI (ln l_),vI 0] [] (aC (jd [] [3,14] (λv8 v9=>[vI v8,vI v9]) (λ_ _=>[eI bG l_ a6]) hz (λkk v8 v9 hm=>?_)));rw[Cf]at hm;refine uA 15 (vB (decide (v9<ln l_))) [] (ah (uC hm ?_ ?_));refine λhm=>ag ?_;obtain⟨z12,hz,hm⟩:=a8 hm;refine uK [15] [3] [vI z12] [eI bG l_ a6] ?_ ?_;refine aC (aF ?_);obtain⟨bX,hm⟩:=bY hz;refine uB 2 [15] [3,12,13,14,17] [vI v8,vL a6 l_,vI (ln l_),vI v9,.agg ⟨e0 (gi l_ v9) (a6.s v9.toNat)⟩] [ki 0 bX,⟨some (.agg ⟨e0 (gi l_ v9) (a6.s v9.toNat)⟩),λwz=>V.bH (ab a6.a) (ao a6.a+v9.toNat*3) (e0 (gi l_ v9) (a6.s v9.toNat)) 0 wz,λ_ hS=>(hS.im 0 rfl).dp bX 0 rfl⟩] (uM [] [0] [] (oA [vU 0,vO,vO]) λsH=>uL [0] [1] [17] (oS (e0 (gi l_ v9) (a6.s v9.toNat)) rfl rfl) (ay (uR [5] [19,20,21] [.slice (a6.s v9.toNat 0).a (gi l_ v9).bn.length (a6.s v9.toNat 0).c,vI (ln (gi l_ v9).bn),vI 0] [kb 0 1] (ai [1] (aC (jd [] [3,21] (λv23 v24=>[vI v23,vI v24]) (λ_ _=>[eI bG l_ a6]) hm (λkk v23 v24 hm=>?_)))))));rw[Ce]at hm;refine uA 22 (vB (decide (v24<ln (gi l_ v9).bn))) [] (ah (uC hm ?_ ?_));refine λhm=>ag ?_;obtain⟨fX,hz,hm⟩:=a8 hm;refine uK [22] [3] [vI fX] [eI bG l_ a6] ?_ ?_;refine aC (aF ?_);obtain⟨ph,hm⟩:=bY hz;refine uB 2 [22] [3,12,13,14,19,20,21,24] [vI v23,vL a6 l_,vI (ln l_),vI v9,.slice (a6.s v9.toNat 0).a (gi l_ v9).bn.length (a6.s v9.toNat 0).c,vI (ln (gi l_ v9).bn),vI v24,vG [vS (gi (gi l_ v9).bn v24).Tag,.slice ((a6.s v9.toNat 0).s v24.toNat 0).a (gi (gi l_ v9).bn v24).bE.length ((a6.s v9.toNat 0).s v24.toNat 0).c]] [⟨none,λ_=>eg (a6.s v9.toNat 0).a∧0≤v24∧v24<ln (gi l_ v9).bn,λ_ hS=>(ld ((hS.im 0 rfl).el bX)).iK ph⟩,⟨some (vG [vS (gi (gi l_ v9).bn v24).Tag,.slice ((a6.s v9.toNat 0).s v24.toNat 0).a (gi (gi l_ v9).bn v24).bE.length ((a6.s v9.toNat 0).s v24.toNat 0).c]),λwz=>V.bH (ab (a6.s v9.toNat 0).a) (ao (a6.s v9.toNat 0).a+v24.toNat*2) [vS (gi (gi l_ v9).bn v24).Tag,.slice ((a6.s v9.toNat 0).s v24.toNat 0).a (gi (gi l_ v9).bn v24).bE.length ((a6.s v9.toNat 0).s v24.toNat 0).c] 0 wz,λ_ hS=>(ld ((hS.im 0 rfl).el bX)).dp ph 0 rfl⟩] (uM [] [0] [] (oA [vN,vO]) λKZ=>uL [0] [1] [24] (oS [vS (gi (gi l_ v9).bn v24).Tag,.slice ((a6.s v9.toNat 0).s v24.toNat 0).a (gi (gi l_ v9).bn v24).bE.length ((a6.s v9.toNat 0).s v24.toNat 0).c] rfl rfl) (ay (uR [7] [26,27,28] [.slice ((a6.s v9.toNat 0).s v24.toNat 0).a (gi (gi l_ v9).bn v24).bE.length ((a6.s v9.toNat 0).s v24.toNat 0).c,vI (ln (gi (gi l_ v9).bn v24).bE),vI 0] [kb 0 1] (ai [1] (aC (jd [] [3,28] (λdh dq=>[vI dh,vI dq]) (λ_ _=>[eI bG l_ a6]) hm (λkk dh dq hm=>?_)))))));rw[Ca]at hm;obtain⟨nj,xF,hm⟩:=bc hm;refine uA 29 (vB nj) [] (ah (uC hm ?_ ?_)) (he:=by subst xF;kernel_rfl);refine λhm=>ag ?_;obtain⟨sF,hz,hm⟩:=a8 hm;refine uK [29] [3] [vI sF] [eI bG l_ a6] ?_ ?_;refine aC (aF ?_);obtain⟨Lk,nV,Ll,hm⟩:=cE hz;obtain⟨wH,Lm,Cc,Vu,hm⟩:=eL hm;obtain⟨Cd,Vv,sE,Ln,hm⟩:=eL hm;obtain⟨xN,Vw,j9,F2,hm⟩:=eL hm;obtain⟨Am,Vx,hm⟩:=bc hm;refine uB 2 [29] [3,12,13,14,19,20,21,26,27,28,31] [vI dh,vL a6 l_,vI (ln l_),vI v9,.slice (a6.s v9.toNat 0).a (gi l_ v9).bn.length (a6.s v9.toNat 0).c,vI (ln (gi l_ v9).bn),vI v24,.slice ((a6.s v9.toNat 0).s v24.toNat 0).a (gi (gi l_ v9).bn v24).bE.length ((a6.s v9.toNat 0).s v24.toNat 0).c,vI (ln (gi (gi l_ v9).bn v24).bE),vI dq,vG [vU nV,vS wH,vU Cc,vS Cd,vB sE,vI xN,vI j9,vB Am,.slice (((a6.s v9.toNat 0).s v24.toNat 0).s dq.toNat 0).a (gi (gi (gi l_ v9).bn v24).bE dq).aa.length (((a6.s v9.toNat 0).s v24.toNat 0).s dq.toNat 0).c]] [⟨none,λ_=>eg ((a6.s v9.toNat 0).s v24.toNat 0).a∧0≤dq∧dq<ln (gi (gi l_ v9).bn v24).bE,λ_ hS=>(rc ((ld ((hS.im 0 rfl).el bX)).el ph)).iK Lk⟩,⟨some (.agg ⟨e2 (gi (gi (gi l_ v9).bn v24).bE dq) (((a6.s v9.toNat 0).s v24.toNat 0).s dq.toNat)⟩),λwz=>V.bH (ab ((a6.s v9.toNat 0).s v24.toNat 0).a) (ao ((a6.s v9.toNat 0).s v24.toNat 0).a+dq.toNat*9) (e2 (gi (gi (gi l_ v9).bn v24).bE dq) (((a6.s v9.toNat 0).s v24.toNat 0).s dq.toNat)) 0 wz,λ_ hS=>(rc ((ld ((hS.im 0 rfl).el bX)).el ph)).dp Lk 0 rfl⟩] (uM [] [0] [] (oA [vU 0,vN,vU 0,vN,vF,vI 0,vI 0,vF,vO]) λb55=>(uL [0] [1] [31] (oS [vU nV,vS wH,vU Cc,vS Cd,vB sE,vI xN,vI j9,vB Am,.slice (((a6.s v9.toNat 0).s v24.toNat 0).s dq.toNat 0).a (gi (gi (gi l_ v9).bn v24).bE dq).aa.length (((a6.s v9.toNat 0).s v24.toNat 0).s dq.toNat 0).c] rfl rfl) (ay (uA 10 (vB (cond (nV==9) true (nV==10))) [kb 0 0,bx (gF (nV==9)) 0 0] ?_)))) (he:=by subst Ll Lm Vu Vv Ln Vw F2 Vx;kernel_rfl);obtain⟨pX,Ao,va,EM,hm⟩:=eL hm;refine uR [10] [11] [vB va] [bx (gT (cond (nV==9) true (nV==10))) 0 7,⟨some (vG [vI xN,vI j9]),λwz=>pX=true∧True→V.bH b55 5 [vI xN,vI j9] 0 wz,λ_ hS=>λhg=>(hS.bk 0 rfl).eW rfl⟩] ?_ (he:=by subst Ao EM;kernel_rfl);obtain⟨ve,Lo,hm⟩:=bc hm;refine uJ [11] [kb 0 0,bx (gF (nV==3)) 0 0] hm ?_ ?_ (he:=by subst Lo;kernel_rfl);intro hm;obtain⟨Vt,aac,uU,KT,hm⟩:=jq hm;refine uW [9] [3] [vI uU] [kb 0 8,kr λ_ hS=>gA (aA aU (BR ((rc ((ld ((hS.im 1 rfl).el bX)).el ph)).el Lk))) (call95 _) (λw' h'=>ih (((a6.s v9.toNat 0).s v24.toNat 0).s dq.toNat 0) F0 _ _ aac w' h')] (ai [1] ?_) (he:=by subst KT;kernel_rfl);cases hm;exact te;refine λhm=>ag ?_;cases hm;exact ai [1] te;exact jI [] hm;refine λhm=>bl ?_;cases hm;exact te;exact jI [] hm;refine λhm=>bl ?_;cases hm;exact te;exact jI [] hm;refine λhm=>bl ?_;cases hm;exact te;refine ai [] ?_;cases hm;exact uZ [] []
def a1U(m:Nat)(l_:List bw):Option Int:=sG m m l_
theorem aad{a6:Gh}(m)(l_)(r)(hm:a1U m l_=some r)(w)(hL:Rd [eI bG l_ a6] w):Rb 95 [vL a6 l_] (vI r) w:=gA hL (call95 _) (λw' h=>aab m m a6 F0 l_ r hm w' h)

structure jk where
  dX:Int
  has:Bool
instance:Inhabited jk:=⟨⟨default,default⟩⟩
def alU:Ty jk where
  z:=2
  enc:=λx g=>[vI x.dX,vB x.has]
  bP:=λ_ _ _ _=>True
  len:=λ_ _=>rfl
  one:=λ_ _=>rfl
  kp:=λ_ _ _=>trivial
  bW:=λ_ _=>trivial
  fresh:=λ_=>trivial
def Lp(s:a7)(most:Int):Bool:=lt (cond (decide (most<ln s)) true (decide (0≤strings_IndexByte s 0))) λx3=>x3
theorem a1V(s:a7)(most:Int):Rt 281 [vS s,vI most] (vB (Lp s most)):=by
 generalize hm:Lp s most=r;rw[Lp]at hm;refine dy (call281 _) func281 ntmps281 λM X w=>?_;refine uO [] ?_;obtain⟨x3,iT,hm⟩:=bc hm;refine uR [0,1] [4] [vB x3] [gg (gF (decide (most<ln s))) λhg=>Lh s 0] (aL ?_) (he:=by subst iT;kernel_rfl);subst hm;exact bf [] bo

def Ch(s:a7):Bool:=lt (cond (!(s==[])) (!(Lp s 64)) false) λx3=>x3
theorem a1W(s:a7):Rt 277 [vS s] (vB (Ch s)):=by
 generalize hm:Ch s=r;rw[Ch]at hm;refine dy (call277 _) func277 ntmps277 λM X w=>?_;refine uO [] ?_;obtain⟨x3,iT,hm⟩:=bc hm;refine uR [0] [2] [vB x3] [gg (gT (!(s==[]))) λhg=>a1V s 64] (aL ?_) (he:=by subst iT;kernel_rfl);subst hm;exact bf [] bo

def Ci(m:Nat)(s:a7):Nat→Int→List Int→Option (List Int)
 |0,_,_=>none
 |kk+1,aJ,aX=>cond (decide (aJ<ln (bO s))) (Option.bind (az (0≤aJ∧aJ<ln (bO s))<|lt (cond (decide (65≤gi aX aJ)) (decide (gi aX aJ≤90)) false) λml=>cond ml (lt (yE aX aJ (fZ .or .u8 (gi aX aJ) 32)) λwI=>some wI) (some aX)) λ(jl:List Int)=>Ci m s kk (J (aJ+1)) jl) (some aX)
def Ap(m:Nat)(s:a7):Option a7:=Option.bind (Ci m s m 0 (bO s)) λ(dk:List Int)=>some (iL dk)
theorem Lq(m)(s)(r)(hm:Ap m s=some r):Rt 197 [vS s] (vS r):=by
 rw[Ap]at hm;refine dy (call197 _) func197 ntmps197 λM X w=>?_;refine uO [] (aF (uB 1 [0] [6] [vS s] [] ?_));intro _ _ H4 hS;have hd:=hS.hand [] [] rfl rfl;refine eZ [7] [] H4 rfl rfl rfl rfl (Kq (E:=5) H4 hd rfl (by kernel_rfl) (by kernel_rfl) (by kernel_rfl)) (λ_=>rfl) λ_ _ v H8 hq=>?_;obtain⟨b5,c6,rfl,UG,hq⟩:=hq;replace hS:=hS.join [] [] rfl rfl hq;refine aG H8 hS (gh 3 [3] [.slice (some ⟨b5,0,none⟩) (bO s).length c6] [] (ay ?_));obtain⟨dk,hz,hm⟩:=a8 hm;refine uK [] [] [] [aB.row .u8 b5 dk (ln (bO s))] ?_ ?_;refine uR [] [8,9,10] [.slice (some ⟨b5,0,none⟩) (bO s).length c6,vI (ln (bO s)),vI 0] [] (aC (jd [] [10] (λaJ _=>[vI aJ]) (λ_ aX=>[aB.row .u8 b5 aX (ln (bO s))]) hz (λkk aJ aX hm=>?_)));rw[Ci]at hm;refine uA 11 (vB (decide (aJ<ln (bO s)))) [] (ah (uC hm ?_ ?_));refine λhm=>ag ?_;obtain⟨jl,hz,hm⟩:=a8 hm;refine uK [11] [] [] [aB.row .u8 b5 jl (ln (bO s))] ?_ ?_;refine aC ?_;obtain⟨kW,hm⟩:=bY hz;refine uR [11] [3,4,5,8,9,10] [.slice (some ⟨b5,0,none⟩) (bO s).length c6,vI aJ,vU (gi aX aJ),.slice (some ⟨b5,0,none⟩) (bO s).length c6,vI (ln (bO s)),vI aJ] [⟨none,λ_=>eg (some ⟨b5,0,none⟩)∧0≤aJ∧aJ<ln (bO s),λ_ _=>⟨rfl,kW⟩⟩,⟨some (vU (gi aX aJ)),λwz=>V.c9 ⟨b5,0+aJ.toNat*1,none⟩ (vU (gi aX aJ)) wz,λ_ hS=>Rw.H0 (hS.rw 0 rfl) kW⟩] ?_;obtain⟨ml,vd,hm⟩:=bc hm;refine uJ [5] [] hm ?_ ?_ (he:=by subst vd;kernel_rfl);refine λhm=>dC (uB 6 [4] [25,26] [vU (fZ .or .u8 (gi aX aJ) 32),.pointer (some ⟨b5,0+aJ.toNat*1,none⟩)] [⟨none,λ_=>eg (some ⟨b5,0,none⟩)∧0≤aJ∧aJ<ln (bO s),λ_ _=>⟨rfl,kW⟩⟩,⟨some (vU (gi aX aJ)),λwz=>V.c9 ⟨b5,0+aJ.toNat*1,none⟩ (vU (gi aX aJ)) wz,λ_ hS=>Rw.H0 (hS.rw 0 rfl) kW⟩,⟨none,λ_=>eg (some ⟨b5,0,none⟩)∧0≤aJ∧aJ<ln (bO s),λ_ _=>⟨rfl,kW⟩⟩] ?_);intro _ _ lm hS;have hd:=hS.hand [0] [] rfl rfl;refine vZ [3,8,9,10] (fS [3,8,9,10] [.slice (some ⟨b5,0,none⟩) (bO s).length c6,.slice (some ⟨b5,0,none⟩) (bO s).length c6,vI (ln (bO s)),vI aJ]) lm rfl rfl rfl (OJ lm hd rfl rfl (by kernel_rfl) kW) rfl λ_ _ li hq=>?_;obtain⟨_,hq⟩:=hq;obtain⟨wI,F3,hm⟩:=bc hm;rw[←F3]at hq;replace hS:=hS.join [0] [] rfl rfl hq;refine aG li hS (ay ?_);cases hm;exact te;refine λhm=>ag ?_;cases hm;exact te;exact jI [] hm;refine λhm=>bl ?_;cases hm;exact te;intro _ _ H hS;refine GS [vS (iL dk)] [2] [(2,[],vS (iL dk))] [λwz=>∀w',Below wz.heap.size wz w'→(convert 115 9 (.slice (some ⟨b5,0,none⟩) (bO s).length c6)).run prog w'=.ok (vS (iL dk)) w'] H (by kernel_rfl) ⟨OB (E:=5) (by kernel_rfl) (by kernel_rfl) (by kernel_rfl) (hS.rw 0 rfl).1 (hS.rw 0 rfl).2,trivial⟩ λ_ _ mj hb=>?_;replace hS:=hS.below hb;replace hS:SH M _ w [] _:=hS.aV [] rfl;refine aG mj hS (aL ?_);cases hm;exact bf [] bo

def HN(m:Nat)(s:a7):Option Bool:=Option.bind (cond (Ch s) (Ap m s) (some default)) λy3=>some (cond (Ch s) (y3==s) false)
theorem a1X(m)(s)(r)(hm:HN m s=some r):Rt 245 [vS s] (vB r):=by
 rw[HN]at hm;refine dy (call245 _) func245 ntmps245 λM X w=>?_;refine uO [] ?_;obtain⟨y3,cq,hm⟩:=a8 hm;cases hm;exact uZ [] [kc (a1W s),gg (gT (Ch s)) λhg=>Lq m _ _ (bT (hg.1) cq)]

def Lt(x_:fc):Bool×Bool:=lt (cond (x_.af==9) (x_.af==9) (x_.af==10)) λ(z8:Bool)=>cond z8 ((x_.Of,false)) (lt (cond (x_.af==11) (x_.af==11) (x_.af==12)) λ(cH:Bool)=>cond cH ((true,true)) (lt (cond (x_.af==13) (x_.af==13) (x_.af==14)) λ(z24:Bool)=>cond z24 ((true,false)) ((false,true))))
theorem aae{dM:Gh}(x_:fc)(w)(hL:Rd [eI bG x_.aa dM] w):Rb 278 [.agg ⟨e2 x_ (gL [dM])⟩] (vW [vB (Lt x_).1,vB (Lt x_).2]) w:=by
 generalize hm:Lt x_=r;rw[Lt]at hm;refine cz hL (call278 _) func278 ntmps278 λM X w=>(aF ?_);refine uM [] [0] [0] (oB (e2 x_ (gL [dM])) rfl) λb1=>uP 3 [] (ay (ah (uA 5 (vU x_.af) [kb 0 0] (aC ?_))));obtain⟨z8,hz,hm⟩:=bc hm;refine uK [] [6] [vB z8] [eB b1 (e2 x_ (gL [dM])),eI bG x_.aa dM] ?_ ?_;replace hm:=hz.symm;refine uA 6 (vB (x_.af==9)) [] (uC hm ?_ ?_);refine λhm=>ag ?_;subst hm;exact te;refine λhm=>uV 6 (vB (x_.af==10)) [] ?_;subst hm;exact te;refine rX (λhc=>?c38) (λhc=>?_)
 case c38=>
  replace hm:=bT hc hm;refine uR [1,5,6] [2,3] [vB x_.Of,vF] [kb 0 7] (ai [] (aL ?_));subst hm;exact bf [] fk
 replace hm:=bF hc hm;obtain⟨cH,hz,hm⟩:=bc hm;refine uK [1,6] [11] [vB cH] [eB b1 (e2 x_ (gL [dM])),eI bG x_.aa dM] ?_ ?_;replace hm:=hz.symm;refine uR [1,6] [11] [vB (x_.af==11)] [] (uC hm ?_ ?_);refine λhm=>ag ?_;subst hm;exact te;refine λhm=>uV 11 (vB (x_.af==12)) [] ?_;subst hm;exact te;refine ai [] (uC hm ?_ ?_);refine λhm=>uR [5,11] [2,3] [vT,vT] [] (aL ?_);subst hm;exact bf [] fk;intro hm;obtain⟨z24,hz,hm⟩:=bc hm;refine uK [5,11] [14] [vB z24] [] ?_ ?_;replace hm:=hz.symm;refine uR [11] [14] [vB (x_.af==13)] [] (uC hm ?_ ?_);refine λhm=>ag ?_;subst hm;exact te;refine λhm=>uW [5] [14] [vB (x_.af==14)] [] ?_;subst hm;exact te;refine uC hm ?_ ?_;refine λhm=>uR [14] [2,3] [vT,vF] [] (aL ?_);subst hm;exact bf [] fk;refine λhm=>ag (uR [14] [2,3] [vF,vT] [] (aL ?_));subst hm;exact bf [] fk

def HO(p:jk)(cJ:Int):jk×Bool:=lt (cond (p.dX==3) true (cond p.has (cJ==14) false)) λdV=>cond dV ((jk.mk 0 false,false)) ((jk.mk (J (p.dX+1)) (cond p.has true (cJ==14)),true))
theorem aaf(p:jk)(cJ:Int):Rt 279 [vG [vI p.dX,vB p.has],vU cJ] (vW [vG [vI (HO p cJ).1.dX,vB (HO p cJ).1.has],vB (HO p cJ).2]):=by
 generalize hm:HO p cJ=r;rw[HO]at hm;refine dy (call279 _) func279 ntmps279 λM X w=>(aF ?_);refine uM [] [] [0] (oB [vI p.dX,vB p.has] rfl) λb1=>uM [] [0] [] (oA [vI 0,vF]) λb4=>uP 3 [] (ay (uR [1] [6] [vB (cJ==14)] [] (ah ?_)));obtain⟨dV,ng,hm⟩:=bc hm;refine uI [kb 1 0,bx (gF (p.dX==3)) 1 1] hm ?_ ?_ (he:=by subst ng;kernel_rfl);refine λhm=>aF (uB 1 [2,6] [19] [vG [vI 0,vF]] [] (uL [0] [1] [19] (oS [vI 0,vF] rfl rfl) (uB 3 [] [5] [vF] [] (ay (ai [0] (aL ?_))))));subst hm;exact bf [] (mA 0 underlying230);refine λhm=>ag (aF (uB 9 [2,6] [28] [vG [vI (J (p.dX+1)),vB (cond p.has true (cJ==14))]] [kb 1 0,kb 1 1] (uL [0] [1] [28] (oS [vI (J (p.dX+1)),vB (cond p.has true (cJ==14))] rfl rfl) (uB 11 [] [5] [vT] [] (ay (ai [0] (aL ?_)))))));subst hm;exact bf [] (mA 0 underlying230)

def F4(n_:Int):Bool:=lt (cond (decide ((-1000000000)≤n_)) (decide (n_≤1000000000)) false) λx3=>x3
theorem a1Y(n_:Int):Rt 308 [vI n_] (vB (F4 n_)):=by
 generalize hm:F4 n_=r;rw[F4]at hm;refine dy (call308 _) func308 ntmps308 λM X w=>?_;refine uO [] ?_;obtain⟨x3,iT,hm⟩:=bc hm;refine uR [0] [2] [vB x3] [] (aL ?_) (he:=by subst iT;kernel_rfl);subst hm;exact bf [] bo

def PT(a_:yS):Int:=lt (cond (!(F4 a_.A)) true (!(F4 a_.B))) λx6=>cond x6 (8) (0)
theorem aag(a_:yS):Rt 282 [vG [vI a_.A,vI a_.B]] (vI (PT a_)):=by
 generalize hm:PT a_=r;rw[PT]at hm;refine dy (call282 _) func282 ntmps282 λM X w=>(aF ?_);refine uM [] [] [0] (oB [vI a_.A,vI a_.B] rfl) λb1=>uP 2 [] (ay (ah ?_));obtain⟨x6,pB,hm⟩:=bc hm;refine uR [1] [12] [vB x6] [kb 0 0,kc (a1Y a_.A),bx (gF (!(F4 a_.A))) 0 1,gg (gF (!(F4 a_.A))) λhg=>a1Y a_.B] (ai [] (uC hm ?_ ?_)) (he:=by subst pB;kernel_rfl);refine λhm=>uR [12] [2] [vI 8] [] (aL ?_);subst hm;exact bf [] bo;refine λhm=>ag (uR [12] [2] [vI 0] [] (aL ?_));subst hm;exact bf [] bo

def Aq(dW:bw→jk→Bool→Option Bool):Prop:=∀(aE:Gh)(aw:Gh)(M:Av)(c_:bw)(p:jk)(ji:Bool)(r:Bool),dW c_ p ji=some r→∀w,S0 M [eI jJ c_.bn aE,eI (tI .u8) c_.gj aw] w→Calls prog 142 ⟨[.agg ⟨e0 c_ (gL [aE,aw])⟩,vG [vI p.dX,vB p.has],vB ji]⟩ w (λe w'=>∃v,e=.returned v∧v=vB r∧SH M (aD [eI jJ c_.bn aE,eI (tI .u8) c_.gj aw]) w [] w')
def PU(m:Nat)(fN:bw→jk→Bool→Option Bool)(c_:bw)(vf:Int)(vg:Bool)(PV:Int)(Vy:a7)(Vz:Int)(VA:a7)(VB:Bool)(VC:Int)(VD:Int)(VE:Bool)(PW:List bw):Option Bool:=Option.bind (fN c_ (jk.mk vf vg) (PV==14)) λy6=>some (!y6)
theorem aah{aE aw:Gh}{bC:Nat}{cT:Nat}{VF:Gh}(m)(fN)(sI:Aq fN)(c_)(vf)(vg)(PV)(Vy)(Vz)(VA)(VB)(VC)(VD)(VE)(PW)(r)(hm:PU m fN c_ vf vg PV Vy Vz VA VB VC VD VE PW=some r)(w)(hL:Rd [eI jJ c_.bn aE,eI (tI .u8) c_.gj aw,aB.ro bC [vI vf,vB vg],aB.ro cT [vU PV,vS Vy,vU Vz,vS VA,vB VB,vI VC,vI VD,vB VE,vL VF PW],eI bG PW VF] w):Rb 280 [.agg ⟨e0 c_ (gL [aE,aw])⟩,vP bC,vP cT] (vB r) w:=by
 rw[PU]at hm;refine cz hL (call280 _) func280 ntmps280 λM X w=>(aF ?_);refine uM [] [0,1,2,3,4] [0] (oB (e0 c_ (gL [aE,aw])) rfl) λb1=>uP 2 [] (ay ?_);obtain⟨y6,gO,hm⟩:=a8 hm;refine uR [1,2,3] [4] [vB (!y6)] [kE 0 3,⟨some (vG [vI vf,vB vg]),rN bC 0 [vI vf,vB vg],λ_ hS=>(hS.ro 3 rfl).eW rfl⟩,ko 4 0,kr λ_ hS=>gA (aA (aA aU (hS.im 2 rfl)) (hS.im 1 rfl)) (call142 _) (λw' h'=>sI aE aw F0 _ _ _ _ gO w' h')] (ai [] (aL ?_));cases hm;exact bf [] bo
def Lu(m:Nat)(fN:bw→jk→Bool→Option Bool)(s:List bw)(kz:Int)(kA:Bool)(tN:Int)(tO:a7)(tP:Int)(tQ:a7)(tR:Bool)(tT:Int)(tU:Int)(tV:Bool)(pY:List bw):Nat→Int→Option (Sum Int Unit)
 |0,_=>none
 |kk+1,v6=>cond (decide (v6<ln s)) (az (0≤v6∧v6<ln s)<|Option.bind (PU m fN (gi s v6) kz kA tN tO tP tQ tR tT tU tV pY) λdH=>cond dH (some (.inl v6)) (Lu m fN s kz kA tN tO tP tQ tR tT tU tV pY kk (J (v6+1)))) (some (.inr ()))
def PX(m:Nat)(fN:bw→jk→Bool→Option Bool)(s:List bw)(kz:Int)(kA:Bool)(tN:Int)(tO:a7)(tP:Int)(tQ:a7)(tR:Bool)(tT:Int)(tU:Int)(tV:Bool)(pY:List bw):Option Int:=Option.bind (Lu m fN s kz kA tN tO tP tQ tR tT tU tV pY m 0) λ(z3:Sum Int Unit)=>de z3 λdY=>some (-1)
theorem aai{aY:Gh}{iH:Nat}{xO:Nat}{vh:Gh}(m)(fN)(sI:Aq fN)(s)(kz)(kA)(tN)(tO)(tP)(tQ)(tR)(tT)(tU)(tV)(pY)(r)(hm:PX m fN s kz kA tN tO tP tQ tR tT tU tV pY=some r)(w)(hL:Rd [eI bG s aY,aB.ro iH [vI kz,vB kA],aB.ro xO [vU tN,vS tO,vU tP,vS tQ,vB tR,vI tT,vI tU,vB tV,vL vh pY],eI bG pY vh] w):Rb 191 [vL aY s,.func (.func 280) ⟨[]⟩ ⟨[vP iH,vP xO]⟩] (vI r) w:=by
 rw[PX]at hm;refine cz hL (call191 _) func191 ntmps191 λM X w=>?_;refine uO [] ?_;obtain⟨z3,hz,fU⟩:=a8 hm;refine uS (z:=z3) [0,1] [] (λdY=>[]) (λdY=>[eI bG s aY,aB.ro iH [vI kz,vB kA],aB.ro xO [vU tN,vS tO,vU tP,vS tQ,vB tR,vI tT,vI tU,vB tV,vL vh pY],eI bG pY vh]) ?_ ?_;refine uR [] [7,8] [vI (ln s),vI 0] [] (aC (eX [] [8] (λv6=>[vI v6]) (λ_=>[eI bG s aY,aB.ro iH [vI kz,vB kA],aB.ro xO [vU tN,vS tO,vU tP,vS tQ,vB tR,vI tT,vI tU,vB tV,vL vh pY],eI bG pY vh]) hz (λkk v6 hm=>?_)));rw[Lu]at hm;refine uA 9 (vB (decide (v6<ln s))) [] (ah (uC hm ?_ ?_));refine λhm=>ag (ah (aC (uR [9] [5] [vI v6] [] ?_)));obtain⟨eA,dH,ku,hm⟩:=kP hm;refine uI [ki 0 eA,⟨some (.agg ⟨e0 (gi s v6) (aY.s v6.toNat)⟩),λwz=>V.bH (ab aY.a) (ao aY.a+v6.toNat*3) (e0 (gi s v6) (aY.s v6.toNat)) 0 wz,λ_ hS=>(hS.im 0 rfl).dp eA 0 rfl⟩,kr λ_ hS=>aah (aE:=aY.s v6.toNat 0) (aw:=aY.s v6.toNat 1) (bC:=iH) (cT:=xO) (VF:=vh) m _ sI _ _ _ _ _ _ _ _ _ _ _ _ _ ku _ (aA (aA (iR (iR (aA aU (hS.im 3 rfl)) (hS.ro 2 rfl)) (hS.ro 1 rfl)) (P9 ((hS.im 0 rfl).el eA))) (ld ((hS.im 0 rfl).el eA)))] hm ?_ ?_;intro hm;cases hm;have hm:=fU;cases hm;exact uZ [] [];intro hm;exact ag (fQ [] hm);refine λhm=>bl ?_;cases hm;exact ts;rintro dY rfl;replace hm:=dO fU;refine ai [] ?_;cases hm;exact uZ [] []
def Lv(m:Nat)(fN:bw→jk→Bool→Option Bool)(s:List bw)(kz:Int)(kA:Bool)(tN:Int)(tO:a7)(tP:Int)(tQ:a7)(tR:Bool)(tT:Int)(tU:Int)(tV:Bool)(pY:List bw):Option Bool:=Option.bind (PX m fN s kz kA tN tO tP tQ tR tT tU tV pY) λy3=>some (decide (0≤y3))
theorem aaj{aY:Gh}{iH:Nat}{xO:Nat}{vh:Gh}(m)(fN)(sI:Aq fN)(s)(kz)(kA)(tN)(tO)(tP)(tQ)(tR)(tT)(tU)(tV)(pY)(r)(hm:Lv m fN s kz kA tN tO tP tQ tR tT tU tV pY=some r)(w)(hL:Rd [eI bG s aY,aB.ro iH [vI kz,vB kA],aB.ro xO [vU tN,vS tO,vU tP,vS tQ,vB tR,vI tT,vI tU,vB tV,vL vh pY],eI bG pY vh] w):Rb 140 [vL aY s,.func (.func 280) ⟨[]⟩ ⟨[vP iH,vP xO]⟩] (vB r) w:=by
 rw[Lv]at hm;refine cz hL (call140 _) func140 ntmps140 λM X w=>?_;refine uO [] ?_;obtain⟨y3,cq,hm⟩:=a8 hm;refine uR [0,1] [4] [vB (decide (0≤y3))] [kr λ_ hS=>aai (aY:=aY) (iH:=iH) (xO:=xO) (vh:=vh) m _ sI _ _ _ _ _ _ _ _ _ _ _ _ _ cq _ (aA (iR (iR (aA aU (hS.im 3 rfl)) (hS.ro 2 rfl)) (hS.ro 1 rfl)) (hS.im 0 rfl))] (ai [] (aL ?_));cases hm;exact bf [] bo
def Lw(m:Nat)(fN:bw→jk→Bool→Option Bool)(x_:fc)(p:jk):Option Bool:=lt (Lt x_) λy9=>Option.bind (cond y9.1 (lt (HO p x_.af) λdD=>lt (cond (!dD.2) true (cond (!y9.2) (ln x_.aa==0) false)) λmn=>Option.bind (cond mn (some default) (Lv m fN x_.aa dD.1.dX dD.1.has x_.af x_.bm x_.Op x_.Value x_.uE x_.iS.A x_.iS.B x_.Of x_.aa)) λlp=>cond (cond mn true lp) (some (.inl false)) (some (.inr ()))) (cond (decide (0<ln x_.aa)) (some (.inl false)) (some (.inr ())))) λ(z12:Sum Bool Unit)=>de z12 λVG=>lt (cond (!(x_.af==3)) (cond (cond (x_.Op !=0) true (!(x_.Value==[]))) true x_.uE) false) λpE=>lt (cond pE true (cond (!(cond (x_.af==9) true (x_.af==10))) (cond x_.Of true (!(x_.iS.A==0&&(x_.iS.B==0&&true)))) false)) λnp=>cond np (some false) (Option.bind (cond (x_.af==1) (some (x_.af==1)) (some (x_.af==2))) λ(lz:Bool)=>cond lz (some (Ch x_.bm)) (cond (x_.af==3) (Option.bind (HN m x_.bm) λLx=>lt (cond (cond Lx (decide (x_.Op≤6)) false) (!(Lp x_.Value 400)) false) λzd=>lt (cond zd (cond (x_.Op !=0) true (cond (x_.Value==[]) (!x_.uE) false)) false) λpX=>some pX) (lt (cond (x_.bm==[]) (decide (4≤x_.af)) false) λCj=>lt (cond (cond Cj (decide (x_.af≤14)) false) (cond (!(cond (x_.af==9) true (x_.af==10))) true (PT x_.iS==0)) false) λve=>some ve)))
theorem aak{dM:Gh}(m)(fN)(sI:Aq fN)(x_)(p)(r)(hm:Lw m fN x_ p=some r)(w)(hL:Rd [eI bG x_.aa dM] w):Rb 246 [.agg ⟨e2 x_ (gL [dM])⟩,vG [vI p.dX,vB p.has]] (vB r) w:=by
 rw[Lw]at hm;refine cz hL (call246 _) func246 ntmps246 λM X w=>(aF ?_);refine uM [] [0] [0] (oB (e2 x_ (gL [dM])) rfl) λb1=>uM [] [0,1] [1] (oB [vI p.dX,vB p.has] rfl) λb4=>uP 3 [] (ay ?_);obtain⟨y9,oy,hm⟩:=bc hm;refine uR [] [5,6] [vB y9.1,vB y9.2] [kE 1 9,⟨some (vW [vB y9.1,vB y9.2]),rB 278 [.agg ⟨e2 x_ (gL [dM])⟩] (vW [vB y9.1,vB y9.2]),λ_ hS=>(by rw[oy];exact aae (dM:=dM) x_ _ (aA aU (hS.im 2 rfl)))⟩] ?_ (he:=by subst oy;kernel_rfl);obtain⟨z12,hz,VH⟩:=a8 hm;intro _ _ lM hS;refine eR (λa' w'=>∃VG:Unit,z12=Sum.inr VG∧Fr 149 [(2,[],vP b1)] a'∧SH M X w [eB b4 [vI p.dX,vB p.has],eB b1 (e2 x_ (gL [dM])),eI bG x_.aa dM] w') ?_ ?_;refine aG lM hS (uR [5] [16] [vB y9.1] [] (uC hz ?_ ?_));refine λhm=>aF ?_;obtain⟨dD,nM,hm⟩:=bc hm;refine uB 7 [3,16] [22,23] [vG [vI dD.1.dX,vB dD.1.has],vB dD.2] [kE 0 2,kb 1 0,⟨some (vW [vG [vI dD.1.dX,vB dD.1.has],vB dD.2]),rB 279 [vG [vI p.dX,vB p.has],vU x_.af] (vW [vG [vI dD.1.dX,vB dD.1.has],vB dD.2]),λ_ _=>(by rw[nM];exact(aaf p x_.af).b)⟩] (fb [] [0,1,2] [2,6,22,23] [vP b1,vB y9.2,vG [vI dD.1.dX,vB dD.1.has],vB dD.2] (oA [vI 0,vF]) λLy=>(uL [0] [1,2,3] [22] (oS [vI dD.1.dX,vB dD.1.has] rfl rfl) (uB 10 [23] [8] [vB dD.2] [] (ay ?_)))) (he:=by subst nM;kernel_rfl);obtain⟨mn,xP,lp,EQ,hm⟩:=pb hm;refine uR [6,7,8] [41] [vB (cond mn true lp)] [bx ((!y9.2)=true∧(!dD.2)=false∧True) 2 8,bx (gF mn) 2 8,eY (gF mn) λ_ hS hg=>aaj (aY:=dM) (iH:=Ly) (xO:=b1) (vh:=dM) m _ sI _ _ _ _ _ _ _ _ _ _ _ _ _ (bF (hg.1) EQ) _ (aA (iR (iR (aA aU (hS.im 3 rfl)) (hS.bk 2 rfl)) (hS.bk 0 rfl)) (hS.im 3 rfl))] (ai [1,2,3] (uC hm ?_ ?_)) (he:=by subst xP;kernel_rfl);intro hm;cases hm;have hm:=VH;cases hm;exact uZ [] [];refine λhm=>ag ?_;cases hm;exact λ_ _ li hS=>⟨_,rfl,aj.aK (ks:=[2]) li (by kernel_rfl),hS⟩;refine λhm=>uJ [3,6,16] [kb 1 8] hm ?_ ?_;intro hm;cases hm;have hm:=VH;cases hm;exact uZ [] [];refine λhm=>ag ?_;cases hm;exact λ_ _ vi hS=>⟨_,rfl,aj.aK (ks:=[2]) vi (by kernel_rfl),hS⟩;rintro _ _ ⟨VG,hz,H,hS⟩;subst hz;replace hm:=dO VH;replace hS:=hS.aV [1,2] rfl;refine aG H hS (uA 9 (vB (x_.af==3)) [kb 0 0] (uA 10 (vB (cond (x_.af==9) true (x_.af==10))) [kb 0 0,bx (gF (x_.af==9)) 0 0] (ah ?_)));obtain⟨pE,EJ,np,Ar,hm⟩:=eL hm;refine uR [9] [86] [vB np] [bx (gT (!(x_.af==3))) 0 2,bx ((x_.Op !=0)=false∧(!(x_.af==3))=true∧True) 0 3,bx (cond (x_.Op !=0) true (!(x_.Value==[]))=false∧(!(x_.af==3))=true∧True) 0 4,bx ((!(cond (x_.af==9) true (x_.af==10)))=true∧pE=false∧True) 0 7,⟨some (vG [vI x_.iS.A,vI x_.iS.B]),λwz=>x_.Of=false∧(!(cond (x_.af==9) true (x_.af==10)))=true∧pE=false∧True→V.bH b1 5 [vI x_.iS.A,vI x_.iS.B] 0 wz,λ_ hS=>λhg=>(hS.bk 0 rfl).eW rfl⟩] (uC hm ?_ ?_) (he:=by subst EJ Ar;kernel_rfl);refine λhm=>uR [2,10,86] [4] [vF] [] (ai [] (aL ?_));cases hm;exact bf [] bo;refine λhm=>ag (ah (uR [86] [88] [vU x_.af] [kb 0 0] (aC ?_)));obtain⟨lz,hz,hm⟩:=a8 hm;refine uK [] [89] [vB lz] [eB b1 (e2 x_ (gL [dM])),eI bG x_.aa dM] ?_ ?_;refine uA 89 (vB (x_.af==1)) [] (uC hz ?_ ?_);refine λhm=>ag ?_;cases hm;exact te;refine λhm=>uW [] [2,10,88,89] [vP b1,vB (cond (x_.af==9) true (x_.af==10)),vU x_.af,vB (x_.af==2)] [] ?_;cases hm;exact te;refine rX (λhc=>?c70) (λhc=>?_)
 case c70=>
  replace hm:=bT hc hm;refine uR [2,10,88,89] [4] [vB (Ch x_.bm)] [kb 0 1,kc (a1W x_.bm)] (ai [] (aL ?_));cases hm;exact bf [] bo
 replace hm:=bF hc hm;refine uJ [88,89] [] hm ?_ ?_;intro hm;obtain⟨Lx,aal,zd,VI,hm⟩:=jq hm;obtain⟨pX,Ao,hm⟩:=bc hm;refine uR [2,10] [4] [vB pX] [kb 0 1,kc (a1X m _ _ aal),bx (gT Lx) 0 2,bx (gT (cond Lx (decide (x_.Op≤6)) false)) 0 3,gg (gT (cond Lx (decide (x_.Op≤6)) false)) λhg=>a1V x_.Value 400,bx (gT zd) 0 2,bx ((x_.Op !=0)=false∧zd=true∧True) 0 3,bx ((x_.Value==[])=true∧(x_.Op !=0)=false∧zd=true∧True) 0 4] (ai [] (aL ?_)) (he:=by subst VI Ao;kernel_rfl);cases hm;exact bf [] bo;refine λhm=>ag ?_;obtain⟨Cj,VJ,ve,Lo,hm⟩:=eL hm;refine uR [2,10] [4] [vB ve] [kb 0 1,bx (gT (x_.bm==[])) 0 0,bx (gT Cj) 0 0,⟨some (vG [vI x_.iS.A,vI x_.iS.B]),λwz=>(!(cond (x_.af==9) true (x_.af==10)))=false∧cond Cj (decide (x_.af≤14)) false=true∧True→V.bH b1 5 [vI x_.iS.A,vI x_.iS.B] 0 wz,λ_ hS=>λhg=>(hS.bk 0 rfl).eW rfl⟩,gg ((!(cond (x_.af==9) true (x_.af==10)))=false∧cond Cj (decide (x_.af≤14)) false=true∧True) λhg=>aag x_.iS] (ai [] (aL ?_)) (he:=by subst VJ Lo;kernel_rfl);cases hm;exact bf [] bo
def HP(m:Nat)(fN:bw→jk→Bool→Option Bool)(c_:gE)(p:jk):Nat→Int→Option (Sum Bool Unit)
 |0,_=>none
 |kk+1,eH=>cond (decide (eH<ln c_.bE)) (az (0≤eH∧eH<ln c_.bE)<|Option.bind (Lw m fN (gi c_.bE eH) p) λjv=>cond (!jv) (some (.inl false)) (HP m fN c_ p kk (J (eH+1)))) (some (.inr ()))
def Lz(m:Nat)(fN:bw→jk→Bool→Option Bool)(c_:gE)(p:jk):Option Bool:=lt (cond (!(c_.Tag==[])) (!(c_.Tag==[42])) false) λx9=>Option.bind (cond x9 (HN m c_.Tag) (some default)) λcF=>lt (cond (cond x9 (!cF) false) true (decide (64<ln c_.bE))) λdV=>cond dV (some false) (Option.bind (HP m fN c_ p m 0) λ(cH:Sum Bool Unit)=>de cH λF5=>lt (cond (!(c_.Tag==[])) true (decide (0<ln c_.bE))) λnj=>some nj)
theorem aam{aE:Gh}(m)(fN)(sI:Aq fN)(c_)(p)(r)(hm:Lz m fN c_ p=some r)(w)(hL:Rd [eI ox c_.bE aE] w):Rb 194 [vG [vS c_.Tag,vL aE c_.bE],vG [vI p.dX,vB p.has]] (vB r) w:=by
 rw[Lz]at hm;refine cz hL (call194 _) func194 ntmps194 λM X w=>(aF ?_);refine uM [] [0] [0] (oB [vS c_.Tag,vL aE c_.bE] rfl) λb1=>uM [] [0,1] [1] (oB [vI p.dX,vB p.has] rfl) λb4=>uP 3 [] (ay (ah ?_));obtain⟨x9,qH,cF,lj,hm⟩:=pb hm;obtain⟨dV,ng,hm⟩:=bc hm;refine uI [kb 1 0,bx (gT (!(c_.Tag==[]))) 1 0,bx (gT x9) 1 0,gg (gT x9) λhg=>a1X m _ _ (bT (hg.1) lj),bx (gF (cond x9 (!cF) false)) 1 1] hm ?_ ?_ (he:=by subst qH ng;kernel_rfl);refine λhm=>uR [2,3] [4] [vF] [] (ai [] (aL ?_));cases hm;exact bf [] bo;refine λhm=>ag ?_;obtain⟨cH,hz,LA⟩:=a8 hm;refine uS (z:=cH) [3] [] (λF5=>[]) (λF5=>[eB b4 [vI p.dX,vB p.has],eB b1 [vS c_.Tag,vL aE c_.bE],eI ox c_.bE aE]) ?_ ?_;refine uR [] [28,29,30] [vL aE c_.bE,vI (ln c_.bE),vI 0] [kb 1 1] (aC (eX [] [30] (λeH=>[vI eH]) (λ_=>[eB b4 [vI p.dX,vB p.has],eB b1 [vS c_.Tag,vL aE c_.bE],eI ox c_.bE aE]) hz (λkk eH hm=>?_)));rw[HP]at hm;refine uA 31 (vB (decide (eH<ln c_.bE))) [] (ah (uC hm ?_ ?_));refine λhm=>ag (ah (aC (aF ?_)));obtain⟨iF,hm⟩:=bY hm;refine uB 2 [31] [2,3,28,29,30,33] [vP b1,vP b4,vL aE c_.bE,vI (ln c_.bE),vI eH,.agg ⟨e2 (gi c_.bE eH) (aE.s eH.toNat)⟩] [ki 2 iF,⟨some (.agg ⟨e2 (gi c_.bE eH) (aE.s eH.toNat)⟩),λwz=>V.bH (ab aE.a) (ao aE.a+eH.toNat*9) (e2 (gi c_.bE eH) (aE.s eH.toNat)) 0 wz,λ_ hS=>(hS.im 2 rfl).dp iF 0 rfl⟩] (uM [] [0,1,2] [] (oA [vU 0,vN,vU 0,vN,vF,vI 0,vI 0,vF,vO]) λb25=>uL [0] [1,2,3] [33] (oS (e2 (gi c_.bE eH) (aE.s eH.toNat)) rfl rfl) (ay ?_));obtain⟨jv,Ez,hm⟩:=a8 hm;refine uR [6] [37] [vB (!jv)] [kE 0 9,kE 1 2,kr λ_ hS=>aak (dM:=aE.s eH.toNat 0) m _ sI _ _ _ Ez _ (aA aU (BR ((hS.im 3 rfl).el iF)))] (ai [1,2,3] (uC hm ?_ ?_));intro hm;cases hm;have hm:=LA;cases hm;exact uZ [] [];intro hm;exact ag (fQ [] hm);refine λhm=>bl ?_;cases hm;exact ts;rintro F5 rfl;replace hm:=dO LA;refine ai [1,2] ?_;obtain⟨nj,xF,hm⟩:=bc hm;refine uR [2] [4] [vB nj] [kb 0 0,bx (gF (!(c_.Tag==[]))) 0 1] (ai [] (aL ?_)) (he:=by subst xF;kernel_rfl);cases hm;exact bf [] bo
def PY(m:Nat)(fN:bw→jk→Bool→Option Bool)(x_:gE)(vf:Int)(vg:Bool):Option Bool:=Option.bind (Lz m fN x_ (jk.mk vf vg)) λy6=>some (!y6)
theorem aan{dM:Gh}{bC:Nat}(m)(fN)(sI:Aq fN)(x_)(vf)(vg)(r)(hm:PY m fN x_ vf vg=some r)(w)(hL:Rd [eI ox x_.bE dM,aB.ro bC [vI vf,vB vg]] w):Rb 193 [vG [vS x_.Tag,vL dM x_.bE],vP bC] (vB r) w:=by
 rw[PY]at hm;refine cz hL (call193 _) func193 ntmps193 λM X w=>(aF ?_);refine uM [] [0,1] [0] (oB [vS x_.Tag,vL dM x_.bE] rfl) λb1=>uP 2 [] (ay ?_);obtain⟨y6,gO,hm⟩:=a8 hm;refine uR [1,2] [3] [vB (!y6)] [kE 0 2,⟨some (vG [vI vf,vB vg]),rN bC 0 [vI vf,vB vg],λ_ hS=>(hS.ro 2 rfl).eW rfl⟩,kr λ_ hS=>aam (aE:=dM) m _ sI _ _ _ gO _ (aA aU (hS.im 1 rfl))] (ai [] (aL ?_));cases hm;exact bf [] bo
def LB(m:Nat)(fN:bw→jk→Bool→Option Bool)(s:List gE)(kz:Int)(kA:Bool):Nat→Int→Option (Sum Int Unit)
 |0,_=>none
 |kk+1,v6=>cond (decide (v6<ln s)) (az (0≤v6∧v6<ln s)<|Option.bind (PY m fN (gi s v6) kz kA) λdH=>cond dH (some (.inl v6)) (LB m fN s kz kA kk (J (v6+1)))) (some (.inr ()))
def PZ(m:Nat)(fN:bw→jk→Bool→Option Bool)(s:List gE)(kz:Int)(kA:Bool):Option Int:=Option.bind (LB m fN s kz kA m 0) λ(z3:Sum Int Unit)=>de z3 λdY=>some (-1)
theorem aao{aY:Gh}{iH:Nat}(m)(fN)(sI:Aq fN)(s)(kz)(kA)(r)(hm:PZ m fN s kz kA=some r)(w)(hL:Rd [eI jJ s aY,aB.ro iH [vI kz,vB kA]] w):Rb 244 [vL aY s,.func (.func 193) ⟨[]⟩ ⟨[vP iH]⟩] (vI r) w:=by
 rw[PZ]at hm;refine cz hL (call244 _) func244 ntmps244 λM X w=>?_;refine uO [] ?_;obtain⟨z3,hz,fU⟩:=a8 hm;refine uS (z:=z3) [0,1] [] (λdY=>[]) (λdY=>[eI jJ s aY,aB.ro iH [vI kz,vB kA]]) ?_ ?_;refine uR [] [7,8] [vI (ln s),vI 0] [] (aC (eX [] [8] (λv6=>[vI v6]) (λ_=>[eI jJ s aY,aB.ro iH [vI kz,vB kA]]) hz (λkk v6 hm=>?_)));rw[LB]at hm;refine uA 9 (vB (decide (v6<ln s))) [] (ah (uC hm ?_ ?_));refine λhm=>ag (ah (aC (uR [9] [5] [vI v6] [] ?_)));obtain⟨eA,dH,ku,hm⟩:=kP hm;refine uI [ki 0 eA,⟨some (vG [vS (gi s v6).Tag,.slice (aY.s v6.toNat 0).a (gi s v6).bE.length (aY.s v6.toNat 0).c]),λwz=>V.bH (ab aY.a) (ao aY.a+v6.toNat*2) [vS (gi s v6).Tag,.slice (aY.s v6.toNat 0).a (gi s v6).bE.length (aY.s v6.toNat 0).c] 0 wz,λ_ hS=>(hS.im 0 rfl).dp eA 0 rfl⟩,kr λ_ hS=>aan (dM:=aY.s v6.toNat 0) (bC:=iH) m _ sI _ _ _ _ ku _ (aA (iR aU (hS.ro 1 rfl)) (rc ((hS.im 0 rfl).el eA)))] hm ?_ ?_;intro hm;cases hm;have hm:=fU;cases hm;exact uZ [] [];intro hm;exact ag (fQ [] hm);refine λhm=>bl ?_;cases hm;exact ts;rintro dY rfl;replace hm:=dO fU;refine ai [] ?_;cases hm;exact uZ [] []
def Q0(m:Nat)(fN:bw→jk→Bool→Option Bool)(s:List gE)(kz:Int)(kA:Bool):Option Bool:=Option.bind (PZ m fN s kz kA) λy3=>some (decide (0≤y3))
theorem aap{aY:Gh}{iH:Nat}(m)(fN)(sI:Aq fN)(s)(kz)(kA)(r)(hm:Q0 m fN s kz kA=some r)(w)(hL:Rd [eI jJ s aY,aB.ro iH [vI kz,vB kA]] w):Rb 192 [vL aY s,.func (.func 193) ⟨[]⟩ ⟨[vP iH]⟩] (vB r) w:=by
 rw[Q0]at hm;refine cz hL (call192 _) func192 ntmps192 λM X w=>?_;refine uO [] ?_;obtain⟨y3,cq,hm⟩:=a8 hm;refine uR [0,1] [4] [vB (decide (0≤y3))] [kr λ_ hS=>aao (aY:=aY) (iH:=iH) m _ sI _ _ _ _ cq _ (aA (iR aU (hS.ro 1 rfl)) (hS.im 0 rfl))] (ai [] (aL ?_));cases hm;exact bf [] bo
def HQ(m:Nat)(c_:bw):Nat→Int→Option (Sum Bool Unit)
 |0,_=>none
 |kk+1,eH=>cond (decide (eH<ln c_.gj)) (az (0≤eH∧eH<ln c_.gj)<|lt (cond (decide (gi c_.gj eH<1)) true (decide (4<gi c_.gj eH))) λmn=>cond mn (some (.inl false)) (HQ m c_ kk (J (eH+1)))) (some (.inr ()))
def HR(m:Nat):Nat→bw→jk→Bool→Option Bool
 |0,_,_,_=>none
 |k+1,c_,p,ji=>lt (cond (!(ji==(c_.xx !=0))) true (decide (4<c_.xx))) λx9=>lt (cond x9 true (J (ln c_.gj+1) !=ln c_.bn)) λnW=>lt (cond nW true (decide (64<ln c_.bn))) λdV=>cond dV (some false) (Option.bind (HQ m c_ m 0) λ(cH:Sum Bool Unit)=>de cH λF5=>Option.bind (Q0 m (HR m k) c_.bn p.dX p.has) λkU=>some (!kU))
theorem aaq(m:Nat):∀(k:Nat),Aq (HR m k):=by
 intro k
 induction k with
 |zero=>intro aE aw M c_ p ji r hm;exact cD hm
 |succ k ih=>
  intro aE aw M c_ p ji r hm w hS;rw[HR]at hm;unfold S0 at hS;generalize aD [eI jJ c_.bn aE,eI (tI .u8) c_.gj aw]=X at hS⊢;refine dQ func142 rfl ntmps142 rfl λ_ H=>aG H hS (aF (fb [] [0,1] [1,2] [vG [vI p.dX,vB p.has],vB ji] (oB (e0 c_ (gL [aE,aw])) rfl) λb1=>uM [] [0,1,2] [1] (oB [vI p.dX,vB p.has] rfl) λb4=>uP 3 [] (ay (ah ?_))));obtain⟨x9,qH,nW,vj,hm⟩:=eL hm;obtain⟨dV,ng,hm⟩:=bc hm;refine uJ [2] [kb 1 0,bx (gF (!(ji==(c_.xx !=0)))) 1 0,bx (gF x9) 1 2,bx (gF x9) 1 1,bx (gF nW) 1 1] hm ?_ ?_ (he:=by subst qH vj ng;kernel_rfl);refine λhm=>uR [3,4] [6] [vF] [] (ai [] (aL ?_));cases hm;exact bf [] bo;refine λhm=>ag ?_;obtain⟨cH,hz,LA⟩:=a8 hm;refine uS (z:=cH) [] [] (λF5=>[]) (λF5=>[eB b4 [vI p.dX,vB p.has],eB b1 (e0 c_ (gL [aE,aw])),eI jJ c_.bn aE,eI (tI .u8) c_.gj aw]) ?_ ?_;refine uR [] [36,37,38] [vL aw c_.gj,vI (ln c_.gj),vI 0] [kb 1 2] (aC (eX [] [38] (λeH=>[vI eH]) (λ_=>[eB b4 [vI p.dX,vB p.has],eB b1 (e0 c_ (gL [aE,aw])),eI jJ c_.bn aE,eI (tI .u8) c_.gj aw]) hz (λkk eH hm=>?_)));rw[HQ]at hm;refine uA 39 (vB (decide (eH<ln c_.gj))) [] (ah (uC hm ?_ ?_));refine λhm=>ag (ah (aC ?_));obtain⟨iF,hm⟩:=bY hm;refine uR [39] [3,4,8,36,37,38] [vP b1,vP b4,vU (gi c_.gj eH),vL aw c_.gj,vI (ln c_.gj),vI eH] [ki 3 iF,kj 3 0 iF] ?_;obtain⟨mn,xP,hm⟩:=bc hm;refine uJ [8] [] hm ?_ ?_ (he:=by subst xP;kernel_rfl);intro hm;cases hm;have hm:=LA;cases hm;exact uZ [] [];intro hm;exact ag (fQ [] hm);refine λhm=>bl ?_;cases hm;exact ts;rintro F5 rfl;replace hm:=dO LA;obtain⟨kU,yY,hm⟩:=a8 hm;refine uR [3,4] [6] [vB (!kU)] [kb 1 1,kr λ_ hS=>aap (aY:=aE) (iH:=b4) m _ ih _ _ _ _ yY _ (aA (iR aU (hS.bk 0 rfl)) (hS.im 2 rfl))] (ai [] (aL ?_));cases hm;exact bf [] bo
def a1Z(m:Nat)(c_:bw)(p:jk)(ji:Bool):Option Bool:=HR m m c_ p ji
theorem aar{aE aw:Gh}(m)(c_)(p)(ji)(r)(hm:a1Z m c_ p ji=some r)(w)(hL:Rd [eI jJ c_.bn aE,eI (tI .u8) c_.gj aw] w):Rb 142 [.agg ⟨e0 c_ (gL [aE,aw])⟩,vG [vI p.dX,vB p.has],vB ji] (vB r) w:=gA hL (call142 _) (λw' h=>aaq m m aE aw F0 c_ p ji r hm w' h)

def Q1(m:Nat)(c_:bw):Option Bool:=Option.bind (a1Z m c_ (jk.mk 0 false) false) λy6=>some (!y6)
theorem aat{aE aw:Gh}(m)(c_)(r)(hm:Q1 m c_=some r)(w)(hL:Rd [eI jJ c_.bn aE,eI (tI .u8) c_.gj aw] w):Rb 141 [.agg ⟨e0 c_ (gL [aE,aw])⟩] (vB r) w:=by
 rw[Q1]at hm;refine cz hL (call141 _) func141 ntmps141 λM X w=>(aF ?_);refine uM [] [0,1] [0] (oB (e0 c_ (gL [aE,aw])) rfl) λb1=>uP 2 [] (ay ?_);obtain⟨y6,gO,hm⟩:=a8 hm;refine uR [1] [2] [vB (!y6)] [kE 0 3,kr λ_ hS=>aar (aE:=aE) (aw:=aw) m _ _ _ _ gO _ (aA (aA aU (hS.im 2 rfl)) (hS.im 1 rfl))] (ai [] (aL ?_));cases hm;exact bf [] bo

def HT(m:Nat)(s:List bw):Nat→Int→Option (Sum Int Unit)
 |0,_=>none
 |kk+1,v6=>cond (decide (v6<ln s)) (az (0≤v6∧v6<ln s)<|Option.bind (Q1 m (gi s v6)) λdH=>cond dH (some (.inl v6)) (HT m s kk (J (v6+1)))) (some (.inr ()))
def Q2(m:Nat)(s:List bw):Option Int:=Option.bind (HT m s m 0) λ(z3:Sum Int Unit)=>de z3 λdY=>some (-1)
theorem aau{aY:Gh}(m)(s)(r)(hm:Q2 m s=some r)(w)(hL:Rd [eI bG s aY] w):Rb 191 [vL aY s,.func (.func 141) ⟨[]⟩ ⟨[]⟩] (vI r) w:=by
 rw[Q2]at hm;refine cz hL (call191 _) func191 ntmps191 λM X w=>?_;refine uO [] ?_;obtain⟨z3,hz,fU⟩:=a8 hm;refine uS (z:=z3) [0,1] [] (λdY=>[]) (λdY=>[eI bG s aY]) ?_ ?_;refine uR [] [7,8] [vI (ln s),vI 0] [] (aC (eX [] [8] (λv6=>[vI v6]) (λ_=>[eI bG s aY]) hz (λkk v6 hm=>?_)));rw[HT]at hm;refine uA 9 (vB (decide (v6<ln s))) [] (ah (uC hm ?_ ?_));refine λhm=>ag (ah (aC (uR [9] [5] [vI v6] [] ?_)));obtain⟨eA,dH,ku,hm⟩:=kP hm;refine uI [ki 0 eA,⟨some (.agg ⟨e0 (gi s v6) (aY.s v6.toNat)⟩),λwz=>V.bH (ab aY.a) (ao aY.a+v6.toNat*3) (e0 (gi s v6) (aY.s v6.toNat)) 0 wz,λ_ hS=>(hS.im 0 rfl).dp eA 0 rfl⟩,kr λ_ hS=>aat (aE:=aY.s v6.toNat 0) (aw:=aY.s v6.toNat 1) m _ _ ku _ (aA (aA aU (P9 ((hS.im 0 rfl).el eA))) (ld ((hS.im 0 rfl).el eA)))] hm ?_ ?_;intro hm;cases hm;have hm:=fU;cases hm;exact uZ [] [];intro hm;exact ag (fQ [] hm);refine λhm=>bl ?_;cases hm;exact ts;rintro dY rfl;replace hm:=dO fU;refine ai [] ?_;cases hm;exact uZ [] []

def Q3(m:Nat)(s:List bw):Option Bool:=Option.bind (Q2 m s) λy3=>some (decide (0≤y3))
theorem aav{aY:Gh}(m)(s)(r)(hm:Q3 m s=some r)(w)(hL:Rd [eI bG s aY] w):Rb 140 [vL aY s,.func (.func 141) ⟨[]⟩ ⟨[]⟩] (vB r) w:=by
 rw[Q3]at hm;refine cz hL (call140 _) func140 ntmps140 λM X w=>?_;refine uO [] ?_;obtain⟨y3,cq,hm⟩:=a8 hm;refine uR [0,1] [4] [vB (decide (0≤y3))] [kr λ_ hS=>aau (aY:=aY) m _ _ cq _ (aA aU (hS.im 0 rfl))] (ai [] (aL ?_));cases hm;exact bf [] bo

def aaw(dW:(List bw)→Option Int):Prop:=∀(a6:Gh)(M:Av)(l_:List bw)(r:Int),dW l_=some r→∀w,S0 M [eI bG l_ a6] w→Calls prog 143 ⟨[vL a6 l_]⟩ w (λe w'=>∃v,e=.returned v∧v=vI r∧SH M (aD [eI bG l_ a6]) w [] w')
def Ck(m:Nat)(l_:List bw)(v9:Int)(v24:Int)(Cl:(List bw)→Option Int):Nat→Int→Int→Option Int
 |0,_,_=>none
 |kk+1,dh,dq=>lt (decide (dq<ln (gi (gi l_ v9).bn v24).bE)) λnj=>cond nj (az (0≤dq∧dq<ln (gi (gi l_ v9).bn v24).bE)<|lt (gi (gi (gi l_ v9).bn v24).bE dq).af λpJ=>lt (gi (gi (gi l_ v9).bn v24).bE dq).bm λnV=>lt (gi (gi (gi l_ v9).bn v24).bE dq).Op λwH=>lt (gi (gi (gi l_ v9).bn v24).bE dq).Value λCc=>lt (gi (gi (gi l_ v9).bn v24).bE dq).uE λCd=>lt (gi (gi (gi l_ v9).bn v24).bE dq).iS.A λsE=>lt (gi (gi (gi l_ v9).bn v24).bE dq).iS.B λxN=>lt (gi (gi (gi l_ v9).bn v24).bE dq).Of λj9=>Option.bind (Cl (gi (gi (gi l_ v9).bn v24).bE dq).aa) λVK=>Ck m l_ v9 v24 Cl kk (J (dh+VK)) (J (dq+1))) (some dh)
def Cn(m:Nat)(l_:List bw)(v9:Int)(Cl:(List bw)→Option Int):Nat→Int→Int→Option Int
 |0,_,_=>none
 |kk+1,v23,v24=>cond (decide (v24<ln (gi l_ v9).bn)) (Option.bind (az (0≤v24∧v24<ln (gi l_ v9).bn)<|Ck m l_ v9 v24 Cl m v23 0) λ(fX:Int)=>Cn m l_ v9 Cl kk fX (J (v24+1))) (some v23)
def Co(m:Nat)(l_:List bw)(Cl:(List bw)→Option Int):Nat→Int→Int→Option Int
 |0,_,_=>none
 |kk+1,v8,v9=>cond (decide (v9<ln l_)) (Option.bind (az (0≤v9∧v9<ln l_)<|Cn m l_ v9 Cl m v8 0) λ(z12:Int)=>Co m l_ Cl kk z12 (J (v9+1))) (some v8)
def sJ(m:Nat):Nat→List bw→Option Int
 |0,_=>none
 |k+1,l_=>Option.bind (Co m l_ (sJ m k) m (ln l_) 0) λ(z5:Int)=>some z5
theorem aax(m:Nat):∀(k:Nat),aaw (sJ m k):=by
 intro k
 induction k with
 |zero=>intro a6 M l_ r hm;exact cD hm
 |succ k ih=>
  intro a6 M l_ r hm w hS;rw[sJ]at hm;unfold S0 at hS;generalize aD [eI bG l_ a6]=X at hS⊢;refine dQ func143 rfl ntmps143 rfl λ_ H=>aG H hS (cy [0] [vL a6 l_] [] (uA 3 (vI (ln l_)) [] ?_));obtain⟨z5,hz,hm⟩:=a8 hm;refine uK [0] [3] [vI z5] [eI bG l_ a6] ?_ ?_;refine uR [0] [12,13,14] [vL a6 l_,vI (ln l_),vI 0] [] (aC (jd [] [3,14] (λv8 v9=>[vI v8,vI v9]) (λ_ _=>[eI bG l_ a6]) hz (λkk v8 v9 hm=>?_)));rw[Co]at hm;refine uA 15 (vB (decide (v9<ln l_))) [] (ah (uC hm ?_ ?_));refine λhm=>ag ?_;obtain⟨z12,hz,hm⟩:=a8 hm;refine uK [15] [3] [vI z12] [eI bG l_ a6] ?_ ?_;refine aC (aF ?_);obtain⟨bX,hm⟩:=bY hz;refine uB 2 [15] [3,12,13,14,17] [vI v8,vL a6 l_,vI (ln l_),vI v9,.agg ⟨e0 (gi l_ v9) (a6.s v9.toNat)⟩] [ki 0 bX,⟨some (.agg ⟨e0 (gi l_ v9) (a6.s v9.toNat)⟩),λwz=>V.bH (ab a6.a) (ao a6.a+v9.toNat*3) (e0 (gi l_ v9) (a6.s v9.toNat)) 0 wz,λ_ hS=>(hS.im 0 rfl).dp bX 0 rfl⟩] (uM [] [0] [] (oA [vU 0,vO,vO]) λsH=>uL [0] [1] [17] (oS (e0 (gi l_ v9) (a6.s v9.toNat)) rfl rfl) (ay (uR [5] [19,20,21] [.slice (a6.s v9.toNat 0).a (gi l_ v9).bn.length (a6.s v9.toNat 0).c,vI (ln (gi l_ v9).bn),vI 0] [kb 0 1] (ai [1] (aC (jd [] [3,21] (λv23 v24=>[vI v23,vI v24]) (λ_ _=>[eI bG l_ a6]) hm (λkk v23 v24 hm=>?_)))))));rw[Cn]at hm;refine uA 22 (vB (decide (v24<ln (gi l_ v9).bn))) [] (ah (uC hm ?_ ?_));refine λhm=>ag ?_;obtain⟨fX,hz,hm⟩:=a8 hm;refine uK [22] [3] [vI fX] [eI bG l_ a6] ?_ ?_;refine aC (aF ?_);obtain⟨ph,hm⟩:=bY hz;refine uB 2 [22] [3,12,13,14,19,20,21,24] [vI v23,vL a6 l_,vI (ln l_),vI v9,.slice (a6.s v9.toNat 0).a (gi l_ v9).bn.length (a6.s v9.toNat 0).c,vI (ln (gi l_ v9).bn),vI v24,vG [vS (gi (gi l_ v9).bn v24).Tag,.slice ((a6.s v9.toNat 0).s v24.toNat 0).a (gi (gi l_ v9).bn v24).bE.length ((a6.s v9.toNat 0).s v24.toNat 0).c]] [⟨none,λ_=>eg (a6.s v9.toNat 0).a∧0≤v24∧v24<ln (gi l_ v9).bn,λ_ hS=>(ld ((hS.im 0 rfl).el bX)).iK ph⟩,⟨some (vG [vS (gi (gi l_ v9).bn v24).Tag,.slice ((a6.s v9.toNat 0).s v24.toNat 0).a (gi (gi l_ v9).bn v24).bE.length ((a6.s v9.toNat 0).s v24.toNat 0).c]),λwz=>V.bH (ab (a6.s v9.toNat 0).a) (ao (a6.s v9.toNat 0).a+v24.toNat*2) [vS (gi (gi l_ v9).bn v24).Tag,.slice ((a6.s v9.toNat 0).s v24.toNat 0).a (gi (gi l_ v9).bn v24).bE.length ((a6.s v9.toNat 0).s v24.toNat 0).c] 0 wz,λ_ hS=>(ld ((hS.im 0 rfl).el bX)).dp ph 0 rfl⟩] (uM [] [0] [] (oA [vN,vO]) λKZ=>uL [0] [1] [24] (oS [vS (gi (gi l_ v9).bn v24).Tag,.slice ((a6.s v9.toNat 0).s v24.toNat 0).a (gi (gi l_ v9).bn v24).bE.length ((a6.s v9.toNat 0).s v24.toNat 0).c] rfl rfl) (ay (uR [7] [26,27,28] [.slice ((a6.s v9.toNat 0).s v24.toNat 0).a (gi (gi l_ v9).bn v24).bE.length ((a6.s v9.toNat 0).s v24.toNat 0).c,vI (ln (gi (gi l_ v9).bn v24).bE),vI 0] [kb 0 1] (ai [1] (aC (jd [] [3,28] (λdh dq=>[vI dh,vI dq]) (λ_ _=>[eI bG l_ a6]) hm (λkk dh dq hm=>?_)))))));rw[Ck]at hm;obtain⟨nj,xF,hm⟩:=bc hm;refine uA 29 (vB nj) [] (ah (uC hm ?_ ?_)) (he:=by subst xF;kernel_rfl);refine λhm=>ag (ah (aC (aF ?_)));obtain⟨xQ,pJ,As,hm⟩:=cE hm;obtain⟨nV,Ll,wH,Lm,hm⟩:=eL hm;obtain⟨Cc,Vu,Cd,Vv,hm⟩:=eL hm;obtain⟨sE,Ln,xN,Vw,hm⟩:=eL hm;obtain⟨j9,F2,hm⟩:=bc hm;refine uB 2 [29] [31] [vG [vU pJ,vS nV,vU wH,vS Cc,vB Cd,vI sE,vI xN,vB j9,.slice (((a6.s v9.toNat 0).s v24.toNat 0).s dq.toNat 0).a (gi (gi (gi l_ v9).bn v24).bE dq).aa.length (((a6.s v9.toNat 0).s v24.toNat 0).s dq.toNat 0).c]] [⟨none,λ_=>eg ((a6.s v9.toNat 0).s v24.toNat 0).a∧0≤dq∧dq<ln (gi (gi l_ v9).bn v24).bE,λ_ hS=>(rc ((ld ((hS.im 0 rfl).el bX)).el ph)).iK xQ⟩,⟨some (.agg ⟨e2 (gi (gi (gi l_ v9).bn v24).bE dq) (((a6.s v9.toNat 0).s v24.toNat 0).s dq.toNat)⟩),λwz=>V.bH (ab ((a6.s v9.toNat 0).s v24.toNat 0).a) (ao ((a6.s v9.toNat 0).s v24.toNat 0).a+dq.toNat*9) (e2 (gi (gi (gi l_ v9).bn v24).bE dq) (((a6.s v9.toNat 0).s v24.toNat 0).s dq.toNat)) 0 wz,λ_ hS=>(rc ((ld ((hS.im 0 rfl).el bX)).el ph)).dp xQ 0 rfl⟩] (fb [] [0] [3,12,13,14,19,20,21,26,27,28,31] [vI dh,vL a6 l_,vI (ln l_),vI v9,.slice (a6.s v9.toNat 0).a (gi l_ v9).bn.length (a6.s v9.toNat 0).c,vI (ln (gi l_ v9).bn),vI v24,.slice ((a6.s v9.toNat 0).s v24.toNat 0).a (gi (gi l_ v9).bn v24).bE.length ((a6.s v9.toNat 0).s v24.toNat 0).c,vI (ln (gi (gi l_ v9).bn v24).bE),vI dq,vG [vU pJ,vS nV,vU wH,vS Cc,vB Cd,vI sE,vI xN,vB j9,.slice (((a6.s v9.toNat 0).s v24.toNat 0).s dq.toNat 0).a (gi (gi (gi l_ v9).bn v24).bE dq).aa.length (((a6.s v9.toNat 0).s v24.toNat 0).s dq.toNat 0).c]] (oA [vU 0,vN,vU 0,vN,vF,vI 0,vI 0,vF,vO]) λb54=>(uL [0] [1] [31] (oS [vU pJ,vS nV,vU wH,vS Cc,vB Cd,vI sE,vI xN,vB j9,.slice (((a6.s v9.toNat 0).s v24.toNat 0).s dq.toNat 0).a (gi (gi (gi l_ v9).bn v24).bE dq).aa.length (((a6.s v9.toNat 0).s v24.toNat 0).s dq.toNat 0).c] rfl rfl) (ay ?_))) (he:=by subst As Ll Lm Vu Vv Ln Vw F2;kernel_rfl);obtain⟨VK,aay,hm⟩:=a8 hm;exact uW [9] [3] [vI (J (dh+VK))] [kb 0 8,kr λ_ hS=>gA (aA aU (BR ((rc ((ld ((hS.im 1 rfl).el bX)).el ph)).el xQ))) (call143 _) (λw' h'=>ih (((a6.s v9.toNat 0).s v24.toNat 0).s dq.toNat 0) F0 _ _ aay w' h')] (ai [1] (jI [] hm));refine λhm=>bl ?_;cases hm;exact te;exact jI [] hm;refine λhm=>bl ?_;cases hm;exact te;exact jI [] hm;refine λhm=>bl ?_;cases hm;exact te;refine ai [] ?_;cases hm;exact uZ [] []
def a27(m:Nat)(l_:List bw):Option Int:=sJ m m l_
theorem aaz{a6:Gh}(m)(l_)(r)(hm:a27 m l_=some r)(w)(hL:Rd [eI bG l_ a6] w):Rb 143 [vL a6 l_] (vI r) w:=gA hL (call143 _) (λw' h=>aax m m a6 F0 l_ r hm w' h)

def LC(m:Nat)(l_:List bw):Option Int:=Option.bind (cond (ln l_==0) (some default) (Q3 m l_)) λy3=>cond (cond (ln l_==0) true y3) (some 8) (Option.bind (a27 m l_) λy8=>cond (decide (64<y8)) (some 4) (some 0))
theorem aaA{a6:Gh}(m)(l_)(r)(hm:LC m l_=some r)(w)(hL:Rd [eI bG l_ a6] w):Rb 96 [vL a6 l_] (vI r) w:=by
 rw[LC]at hm;refine cz hL (call96 _) func96 ntmps96 λM X w=>?_;refine uO [] (ah ?_);obtain⟨y3,cq,hm⟩:=a8 hm;refine uI [eY (gF (ln l_==0)) λ_ hS hg=>aav (aY:=a6) m _ _ (bF (hg.1) cq) _ (aA aU (hS.im 0 rfl))] hm ?_ ?_;refine λhm=>uR [0] [2] [vI 8] [] (ai [] (aL ?_));cases hm;exact bf [] bo;refine λhm=>ag (ah ?_);obtain⟨y8,lg,hm⟩:=a8 hm;refine uR [0] [12] [vB (decide (64<y8))] [kr λ_ hS=>aaz (a6:=a6) m _ _ lg _ (aA aU (hS.im 0 rfl))] (ai [] (uC hm ?_ ?_));intro hm;cases hm;exact uZ [] [];refine λhm=>ag ?_;cases hm;exact uZ [] []

def wJ(c_:bq):Bool:=lt (cond (c_.af==0) (c_.bm==[]) false) λfe=>lt (cond (cond fe (c_.cN==0) false) (ln c_.aa==0) false) λiv=>lt (cond (cond iv (c_.aQ.bm==[]) false) (ln c_.aQ.Value==0) false) λjL=>cond jL (!c_.aQ.jr) false
theorem VL{aE aw:Gh}(c_:bq)(w)(hL:Rd [eI ae c_.aQ.Value aE,eI bu c_.aa aw] w):Rb 97 [.agg ⟨e4 c_ (gL [aE,aw])⟩] (vB (wJ c_)) w:=by
 generalize hm:wJ c_=r;rw[wJ]at hm;refine cz hL (call97 _) func97 ntmps97 λM X w=>(aF ?_);refine uM [] [0,1] [0] (oB (e4 c_ (gL [aE,aw])) rfl) λb1=>uP 2 [] (ay (aF (uB 2 [] [5] [.agg ⟨e8 c_.aQ (gL [aE])⟩] [⟨some (.agg ⟨e8 c_.aQ (gL [aE])⟩),λwz=>V.bH b1 3 (e8 c_.aQ (gL [aE])) 0 wz,λ_ hS=>(hS.bk 0 rfl).eW rfl⟩] (uM [] [0,1,2] [] (oA [vN,vO,vF]) λb8=>uL [0] [1,2,3] [5] (oS (e8 c_.aQ (gL [aE])) rfl rfl) (ay ?_)))));obtain⟨fe,xR,iv,sM,hm⟩:=eL hm;obtain⟨jL,xE,hm⟩:=bc hm;refine uR [1,3] [2] [vB (cond jL (!c_.aQ.jr) false)] [kb 1 0,bx (gT (c_.af==0)) 1 1,bx (gT fe) 1 2,bx (gT (cond fe (c_.cN==0) false)) 1 6,bx (gT iv) 0 0,bx (gT (cond iv (c_.aQ.bm==[]) false)) 0 1,bx (gT jL) 0 2] (ai [] (aL ?_)) (he:=by subst xR sM xE;kernel_rfl);subst hm;exact bf [] bo

def pZ(cJ:Int):Int:=cond (cJ==2) (22) (lt (cond (cJ==19) (cJ==19) (cond (cJ==21) (cJ==21) (cJ==23))) λ(z9:Bool)=>cond z9 (dc (cJ+1)) (0))
theorem a29(cJ:Int):Rt 195 [vU cJ] (vU (pZ cJ)):=by
 generalize hm:pZ cJ=r;rw[pZ]at hm;refine dy (call195 _) func195 ntmps195 λM X w=>?_;refine uO [] (ah (uA 3 (vU cJ) [] (aC (uA 4 (vB (cJ==2)) [] (uC hm ?_ ?_)))));refine λhm=>uR [0,3,4] [2] [vU 22] [] (aL ?_);subst hm;exact bf [] bo;intro hm;obtain⟨z9,hz,hm⟩:=bc hm;refine uK [3,4] [6] [vB z9] [] ?_ ?_;replace hm:=hz.symm;refine uR [4] [6] [vB (cJ==19)] [] (uC hm ?_ ?_);refine λhm=>ag ?_;subst hm;exact te;refine λhm=>uA 6 (vB (cJ==21)) [] (uC hm ?_ ?_);refine λhm=>ag ?_;subst hm;exact te;refine λhm=>uW [3] [6] [vB (cJ==23)] [] ?_;subst hm;exact te;refine uC hm ?_ ?_;refine λhm=>uR [0,6] [2] [vU (dc (cJ+1))] [] (aL ?_);subst hm;exact bf [] bo;refine λhm=>ag (uR [0,6] [2] [vU 0] [] (aL ?_));subst hm;exact bf [] bo

structure ze where
  depth:Int
  VM:Int
  bad:Bool
instance:Inhabited ze:=⟨⟨default,default,default⟩⟩
def aaB:Ty ze where
  z:=3
  enc:=λx g=>[vI x.depth,vI x.VM,vB x.bad]
  bP:=λ_ _ _ _=>True
  len:=λ_ _=>rfl
  one:=λ_ _=>rfl
  kp:=λ_ _ _=>trivial
  bW:=λ_ _=>trivial
  fresh:=λ_=>trivial
def F6(x:ze):List Value:=aaB.enc x (gL [])
def aaC(dW:(List aq)→Int→Option ze):Prop:=∀(ax:Gh)(M:Av)(v_:List aq)(nY:Int)(r:ze),dW v_ nY=some r→∀w,S0 M [eI ae v_ ax] w→Calls prog 144 ⟨[vL ax v_,vU nY]⟩ w (λe w'=>∃v,e=.returned v∧v=.agg ⟨F6 r⟩∧SH M (aD [eI ae v_ ax]) w [] w')
def LD(m:Nat)(v_:List aq)(nY:Int)(a2a:(List aq)→Int→Option ze):Nat→Int→Int→Int→Bool→Option (Int×Int×Bool)
 |0,_,_,_,_=>none
 |kk+1,v10,v11,v12,fK=>cond (decide (v10<ln v_)) (Option.bind (az (0≤v10∧v10<ln v_)<|Option.bind (lt (cond (nY !=0) ((gi v_ v10).aT.af==nY) false) λF7=>lt (cond F7 true (cond (pZ (gi v_ v10).aT.af==0) (decide (0<ln (gi v_ v10).aa)) false)) λHU=>cond HU (some true) (some fK)) λ(z31:Bool)=>lt (pZ (gi v_ v10).aT.af==0) λsN=>cond sN (some (J (v12+1),z31,v11)) (Option.bind (a2a (gi v_ v10).aa (pZ (gi v_ v10).aT.af)) λmo=>lt (if v11<J (mo.depth+1)then J (mo.depth+1)else v11) λAm=>lt (J (J (J (v12+1)+mo.VM)+1)) λqK=>some (qK,cond z31 true mo.bad,Am))) λ(cH:Int×Bool×Int)=>LD m v_ nY a2a kk (J (v10+1)) cH.2.2 cH.1 cH.2.1) (some (v11,v12,fK))
def F8(m:Nat):Nat→List aq→Int→Option ze
 |0,_,_=>none
 |k+1,v_,nY=>Option.bind (LD m v_ nY (F8 m k) m 0 0 0 false) λ(z7:Int×Int×Bool)=>some (ze.mk z7.1 z7.2.1 z7.2.2)
theorem aaD(m:Nat):∀(k:Nat),aaC (F8 m k):=by
 intro k
 induction k with
 |zero=>intro ax M v_ nY r hm;exact cD hm
 |succ k ih=>
  intro ax M v_ nY r hm w hS;rw[F8]at hm;unfold S0 at hS;generalize aD [eI ae v_ ax]=X at hS⊢;refine dQ func144 rfl ntmps144 rfl λ_ H=>aG H hS (aF (fb [] [0] [0,1] [vL ax v_,vU nY] (oA [vI 0,vI 0,vF]) λb1=>ay (aF (fb [] [0,1] [0,1,4] [vL ax v_,vU nY,vP b1] (oA [vI 0,vI 0,vF]) λb4=>(ay ?_)))));obtain⟨z7,hz,hm⟩:=a8 hm;refine uK [0,1] [5] [vP b4] [eB b4 [vI z7.1,vI z7.2.1,vB z7.2.2],eB b1 [vI 0,vI 0,vF],eI ae v_ ax] ?_ ?_;refine uR [0] [5,10,11,12] [vP b4,vL ax v_,vI (ln v_),vI 0] [] (aC (P2 [] [12] (λv10 _ _ _=>[vI v10]) (λ_ v11 v12 fK=>[eB b4 [vI v11,vI v12,vB fK],eB b1 [vI 0,vI 0,vF],eI ae v_ ax]) hz (λkk v10 v11 v12 fK hm=>?_)));rw[LD]at hm;refine uA 13 (vB (decide (v10<ln v_))) [] (ah (uC hm ?_ ?_));refine λhm=>ag ?_;obtain⟨cH,hz,hm⟩:=a8 hm;refine uK [13] [] [] [eB b4 [vI cH.2.2,vI cH.1,vB cH.2.1],eB b1 [vI 0,vI 0,vF],eI ae v_ ax] ?_ ?_;refine aC (aF ?_);obtain⟨dR,hm⟩:=bY hz;refine uB 2 [13] [15] [.agg ⟨e3 (gi v_ v10) (ax.s v10.toNat)⟩] [ki 2 dR,⟨some (.agg ⟨e3 (gi v_ v10) (ax.s v10.toNat)⟩),λwz=>V.bH (ab ax.a) (ao ax.a+v10.toNat*6) (e3 (gi v_ v10) (ax.s v10.toNat)) 0 wz,λ_ hS=>(hS.im 2 rfl).dp dR 0 rfl⟩] (fb [] [0,1,2] [1,4,5,10,11,12,15] [vU nY,vP b1,vP b4,vL ax v_,vI (ln v_),vI v10,.agg ⟨e3 (gi v_ v10) (ax.s v10.toNat)⟩] (oA [vU 0,vN,vI 0,vN,vF,vO]) λll=>uL [0] [1,2,3] [15] (oS (e3 (gi v_ v10) (ax.s v10.toNat)) rfl rfl) (ay (aF (uB 4 [] [18,19] [vI (J (v12+1)),vA b4 1] [kb 1 1] (uL [1] [0,2,3] [18,19] (oS [vI v11,vI (J (v12+1)),vB fK] rfl rfl) (ay (uA 8 (vU (pZ (gi v_ v10).aT.af)) [kb 1 0,kc (a29 (gi v_ v10).aT.af)] ?_)))))));obtain⟨z31,hz,hm⟩:=a8 hm;refine uK [] [] [] [eB b4 [vI v11,vI (J (v12+1)),vB z31],eB ll (e3 (gi v_ v10) (ax.s v10.toNat)),eB b1 [vI 0,vI 0,vF],eI ae v_ ax] ?_ ?_;obtain⟨F7,VN,HU,VO,hm⟩:=eL hz;refine uI [bx (gT (nY !=0)) 1 0,bx ((pZ (gi v_ v10).aT.af==0)=true∧F7=false∧True) 1 5] hm ?_ ?_ (he:=by subst VN VO;kernel_rfl);refine λhm=>dC (uB 1 [] [43] [vA b4 2] [] ?_);refine pz [0] [1,2,3] [1,4,5,7,8,10,11,12] [vU nY,vP b1,vP b4,vP ll,vU (pZ (gi v_ v10).aT.af),vL ax v_,vI (ln v_),vI v10] (oS [vI v11,vI (J (v12+1)),vT] rfl rfl) (ay ?_);cases hm;exact te;refine λhm=>ag ?_;cases hm;exact te;refine ah ?_;obtain⟨sN,LF,hm⟩:=bc hm;refine uI [] hm ?_ ?_ (he:=by subst LF;kernel_rfl);refine λhm=>bl ?_;cases hm;exact ai [0,2,3] te;refine λhm=>ag (aF ?_);obtain⟨mo,Cp,hm⟩:=a8 hm;refine uB 4 [7,8] [49] [.agg ⟨F6 mo⟩] [kb 1 5,kr λ_ hS=>gA (aA aU (re ((hS.im 3 rfl).el dR))) (call144 _) (λw' h'=>ih (ax.s v10.toNat 0) F0 _ _ _ Cp w' h')] (fb [] [0,1,2,3] [1,4,5,10,11,12,49] [vU nY,vP b1,vP b4,vL ax v_,vI (ln v_),vI v10,.agg ⟨F6 mo⟩] (oA [vI 0,vI 0,vF]) λb47=>uL [0] [1,2,3,4] [49] (oS (F6 mo) rfl rfl) (ay (ai [0,1,3,4] (dC ?_))));obtain⟨Am,Vx,qK,LG,hm⟩:=eL hm;refine uB 19 [9] [68] [vG [vI Am,vI qK,vB (cond z31 true mo.bad)]] [kb 1 0,kb 0 0,kb 1 1,kb 0 1,kb 1 2,bx (gF z31) 0 2] (uL [1] [0,2,3] [68] (oS [vI Am,vI qK,vB (cond z31 true mo.bad)] rfl rfl) (ay (ai [0,2,3] ?_))) (he:=by subst Vx LG;kernel_rfl);cases hm;exact te;exact TR [] hm;refine λhm=>bl ?_;cases hm;exact te;refine ai [0,1] (aF (uB 1 [5] [70] [vG [vI z7.1,vI z7.2.1,vB z7.2.2]] [kE 0 3] (uL [1] [0] [70] (oS [vI z7.1,vI z7.2.1,vB z7.2.2] rfl rfl) (ay (ai [0] (aL ?_))))));cases hm;exact bf [] (Hp 0 underlying233)
def LH(m:Nat)(v_:List aq)(nY:Int):Option ze:=F8 m m v_ nY
theorem a2b{ax:Gh}(m)(v_)(nY)(r)(hm:LH m v_ nY=some r)(w)(hL:Rd [eI ae v_ ax] w):Rb 144 [vL ax v_,vU nY] (.agg ⟨F6 r⟩) w:=gA hL (call144 _) (λw' h=>aaD m m ax F0 v_ nY r hm w' h)

def Cq(m:Nat)(v_:List aq):Option Int:=Option.bind (LH m v_ 0) λy3=>cond (decide (16<y3.depth)) (some 20) (cond (decide (1500<y3.VM)) (some 4) (cond y3.bad (some 8) (some 0)))
theorem Q4{ax:Gh}(m)(v_)(r)(hm:Cq m v_=some r)(w)(hL:Rd [eI ae v_ ax] w):Rb 105 [vL ax v_] (vI r) w:=by
 rw[Cq]at hm;refine cz hL (call105 _) func105 ntmps105 λM X w=>?_;refine uO [] (ah (aF ?_));obtain⟨y3,cq,hm⟩:=a8 hm;refine uB 2 [0] [5] [.agg ⟨F6 y3⟩] [kr λ_ hS=>a2b (ax:=ax) m _ _ _ cq _ (aA aU (hS.im 0 rfl))] (uM [] [0] [] (oA [vI 0,vI 0,vF]) λb6=>uL [0] [1] [5] (oS (F6 y3) rfl rfl) (ay (ai [0] (aC (uI [kb 0 0] hm ?_ ?_)))));refine λhm=>uR [3] [2] [vI 20] [] (ai [] (aL ?_));cases hm;exact bf [] bo;refine λhm=>uI [kb 0 1] hm ?_ ?_;refine λhm=>uR [3] [2] [vI 4] [] (ai [] (aL ?_));cases hm;exact bf [] bo;refine λhm=>uR [3] [14] [vB y3.bad] [kb 0 2] (ai [] (uC hm ?_ ?_));intro hm;cases hm;exact uZ [] [];refine λhm=>ag ?_;cases hm;exact uZ [] []

def F9(m:Nat)(v_:List aq):Option (Int×Int):=Option.bind (Cq m v_) λy3=>cond (y3 !=0) (some (0,y3)) (Option.bind (LH m v_ 0) λcF=>some (cF.depth,0))
theorem VP{ax:Gh}(m)(v_)(r)(hm:F9 m v_=some r)(w)(hL:Rd [eI ae v_ ax] w):Rb 98 [vL ax v_] (vW [vI r.1,vI r.2]) w:=by
 rw[F9]at hm;refine cz hL (call98 _) func98 ntmps98 λM X w=>?_;refine uO [] (ah ?_);obtain⟨y3,cq,hm⟩:=a8 hm;refine uA 4 (vI y3) [kr λ_ hS=>Q4 (ax:=ax) m _ _ cq _ (aA aU (hS.im 0 rfl))] (uI [] hm ?_ ?_);refine λhm=>uR [0,4] [2,3] [vI 0,vI y3] [] (ai [] (aL ?_));cases hm;exact bf [] fk;refine λhm=>ag ?_;obtain⟨cF,lj,hm⟩:=a8 hm;refine uR [0,4] [2,3] [vI cF.depth,vI 0] [kr λ_ hS=>a2b (ax:=ax) m _ _ _ lj _ (aA aU (hS.im 0 rfl))] (ai [] (aL ?_));cases hm;exact bf [] fk

def aaE(dW:(List cC)→List aq→Option (List cC)):Prop:=∀(a6:Gh)(ax:Gh)(M:Av)(l_:List cC)(v_:List aq)(r:List cC),dW l_ v_=some r→∀w,S0 M [eO 169 eU l_ a6,eI ae v_ ax] w→Calls prog 196 ⟨[vL a6 l_,vL ax v_]⟩ w (λe w'=>∃v,e=.returned v∧∃(aI:Gh),v=vL aI r∧SH M (aD [eO 169 eU l_ a6,eI ae v_ ax]) w [eO 169 eU r aI] w')
def HV(m:Nat)(v_:List aq)(a2c:(List cC)→List aq→Option (List cC)):Nat→List cC→Int→Option (List cC)
 |0,_,_=>none
 |kk+1,v6,v8=>cond (decide (v8<ln v_)) (Option.bind (az (0≤v8∧v8<ln v_)<|az (ln v6+ln ([(gi v_ v8).aT]:List cC)≤137438953472)<|lt (v6++([(gi v_ v8).aT]:List cC)) λFa=>lt (pZ (gi v_ v8).aT.af !=0) λHW=>cond HW (Option.bind (a2c Fa (gi v_ v8).aa) λsP=>az (ln sP+ln ([cC.mk (pZ (gi v_ v8).aT.af) [] 0 [] false]:List cC)≤137438953472)<|lt (sP++([cC.mk (pZ (gi v_ v8).aT.af) [] 0 [] false]:List cC)) λFb=>some (Fb,Fa)) (some (Fa,Fa))) λ(dk:(List cC)×(List cC))=>HV m v_ a2c kk dk.1 (J (v8+1))) (some v6)
def Fc(m:Nat):Nat→List cC→List aq→Option (List cC)
 |0,_,_=>none
 |k+1,l_,v_=>Option.bind (HV m v_ (Fc m k) m l_ 0) λ(z3:List cC)=>some z3
theorem aaF(m:Nat):∀(k:Nat),aaE (Fc m k):=by
 intro k
 induction k with
 |zero=>intro a6 ax M l_ v_ r hm;exact cD hm
 |succ k ih=>
  intro a6 ax M l_ v_ r hm w hS;rw[Fc]at hm;unfold S0 at hS;generalize aD [eO 169 eU l_ a6,eI ae v_ ax]=X at hS⊢;refine dQ func196 rfl ntmps196 rfl λ_ H=>aG H hS (cy [0,1] [vL a6 l_,vL ax v_] [] ?_);obtain⟨z3,hz,hm⟩:=a8 hm;refine h9 [1] [0] (λ(iU:Gh)=>[vL iU z3]) (λiU=>[eO 169 eU z3 iU,eI ae v_ ax]) ?_ ?_;refine uR [1] [8,9,10] [vL ax v_,vI (ln v_),vI 0] [] (aC (n8 [] [0,10] (λv6 v8 g7=>[vL g7 v6,vI v8]) (λv6 _ g7=>[eO 169 eU v6 g7,eI ae v_ ax]) a6 hz (λkk v6 v8 g7 hm=>?_)));rw[HV]at hm;refine uA 11 (vB (decide (v8<ln v_))) [] (ah (uC hm ?_ ?_));refine λhm=>ag ?_;obtain⟨dk,hz,hm⟩:=a8 hm;intro _ _ wu hS;refine eR (λa' w'=>∃(pj:Gh)(Ps:Gh),Fr 35 (fS [8,9,10,0] [vL ax v_,vI (ln v_),vI v8,vL pj dk.1]) a'∧SH M X w [eO 169 eU dk.1 pj,eI ae v_ ax] w') ?_ ?_;refine aG wu hS (aC (aF ?_));obtain⟨nc,hm⟩:=bY hz;refine uB 2 [11] [13] [.agg ⟨e3 (gi v_ v8) (ax.s v8.toNat)⟩] [ki 1 nc,⟨some (.agg ⟨e3 (gi v_ v8) (ax.s v8.toNat)⟩),λwz=>V.bH (ab ax.a) (ao ax.a+v8.toNat*6) (e3 (gi v_ v8) (ax.s v8.toNat)) 0 wz,λ_ hS=>(hS.im 1 rfl).dp nc 0 rfl⟩] (uM [] [0,1] [] (oA [vU 0,vN,vI 0,vN,vF,vO]) λC8=>?_);refine pz [0] [1,2] [0,6,8,9,10] [vL g7 v6,vP C8,vL ax v_,vI (ln v_),vI v8] (oS (e3 (gi v_ v8) (ax.s v8.toNat)) rfl rfl) (ay (aF (uB 3 [0] [14,16] [vL g7 v6,.agg ⟨e7 (gi v_ v8).aT⟩] [kE 0 5] (uM [] [0,1,2] [16] (oL eU 169 (vG [vU 0,vN,vI 0,vN,vF]) [(gi v_ v8).aT] [gL []] (λ_=>ba.cons trivial ba.nil) rfl) λg22=>?_))));obtain⟨lv,Fa,aaG,hm⟩:=cE hm;refine uM [2,0] [1,3] [14,17] (oP eU (vG [vU 0,vN,vI 0,vN,vF]) g7 g22 aaG lv rfl rfl) λpd=>uB 6 [18] [0] [vL pd Fa] [] (ay (ai [0,2,3] (uA 7 (vU (pZ (gi v_ v8).aT.af)) [kb 1 0,kc (a29 (gi v_ v8).aT.af)] ?_)));obtain⟨HW,VQ,hm⟩:=bc hm;refine uI [] hm ?_ ?_ (he:=by subst VQ;kernel_rfl);refine λhm=>dC (uB 3 [6,0] [25,27] [vL pd Fa,.slice (ax.s v8.toNat 0).a (gi v_ v8).aa.length (ax.s v8.toNat 0).c] [kb 1 5] ?_);intro _ _ tK hS;replace hS:=hS.eF (re ((hS.im 2 rfl).el nc));obtain⟨sP,LI,hm⟩:=a8 hm;refine aG tK hS (fb [1,0] [0,2,3] [7,8,9,10] [vU (pZ (gi v_ v8).aT.af),vL ax v_,vI (ln v_),vI v8] (λ_ _ tK hd=>df tK rfl rfl (⟨call196 _,ih pd (ax.s v8.toNat 0) _ _ _ _ LI _ hd⟩:eJ _ _ _ _ _)) λnn=>uB 6 [7] [28,30] [vL nn sP,vG [vU (pZ (gi v_ v8).aT.af),vN,vI 0,vN,vF]] [] (uM [] [0,1,2,3] [30] (oL eU 169 (vG [vU 0,vN,vI 0,vN,vF]) [cC.mk (pZ (gi v_ v8).aT.af) [] 0 [] false] [gL []] (λ_=>ba.cons trivial ba.nil) rfl) λoH=>?_));obtain⟨aaH,Fb,VR,hm⟩:=cE hm;refine uM [1,0] [2,3,4] [28,31] (oP eU (vG [vU 0,vN,vI 0,vN,vF]) nn oH VR aaH rfl rfl) λwD=>uB 9 [32] [0] [vL wD Fb] [] (ay (ai [0,4] ?_));cases hm;exact λ_ _ Q5 hS=>⟨wD,pd,aj.aK (ks:=[8,9,10,0]) Q5 (by kernel_rfl),hS⟩;refine λhm=>ag ?_;cases hm;exact ai [0,2] (λ_ _ mj hS=>⟨pd,pd,aj.aK (ks:=[8,9,10,0]) mj (by kernel_rfl),hS⟩);rintro _ _ ⟨pj,Ps,H,hS⟩;exact aG H hS (py [0,8,9,10] [vL pj dk.1,vL ax v_,vI (ln v_),vI (J (v8+1))] [] (wc pj hm));refine λhm=>bl ?_;cases hm;exact tg g7;intro iU;refine ai [0] (uR [0] [4] [vL iU z3] [] (aL ?_));cases hm;exact dm iU [0] bo
def Q6(m:Nat)(l_:List cC)(v_:List aq):Option (List cC):=Fc m m l_ v_
theorem aaI{a6 ax:Gh}(m)(l_)(v_)(r)(hm:Q6 m l_ v_=some r)(M:Av)(w:World)(hS:S0 M [eO 169 eU l_ a6,eI ae v_ ax] w):eJ prog 196 ⟨[vL a6 l_,vL ax v_]⟩ w (λv w'=>∃(aI:Gh),v=vL aI r∧SH M (aD [eO 169 eU l_ a6,eI ae v_ ax]) w [eO 169 eU r aI] w'):=⟨call196 _,aaF m m a6 ax M l_ v_ r hm w hS⟩

def HX(m:Nat)(v_:List aq):Option ((List cC)×Int):=Option.bind (Cq m v_) λy3=>cond (y3 !=0) (some (([]:List cC),y3)) (Option.bind (Q6 m [] v_) λdB=>some (dB,0))
theorem aaJ{ax:Gh}(m)(v_)(r)(hm:HX m v_=some r):Dm 145 [vL ax v_] [eI ae v_ ax] (λ(aI:Gh)=>vW [vL aI r.1,vI r.2]) (λaI=>[eO 169 eU r.1 aI]):=by
 rw[HX]at hm;refine gY (call145 _) func145 ntmps145 λM X w=>?_;refine uO [] (ah ?_);obtain⟨y3,cq,hm⟩:=a8 hm;refine uA 4 (vI y3) [kr λ_ hS=>Q4 (ax:=ax) m _ _ cq _ (aA aU (hS.im 0 rfl))] (uI [] hm ?_ ?_);refine λhm=>uR [0,4] [2,3] [vO,vI y3] [] (ai [] (aL ?_));cases hm;exact da 169 eU (dm Gh.nil [0] fk);refine λhm=>ag (aF (uB 1 [0,4] [10] [vL ax v_] [] (da 169 eU ?_)));obtain⟨dB,pH,hm⟩:=a8 hm;refine uQ [0,1] [1] [10] (aaI (a6:=Gh.nil) (ax:=ax) m _ _ _ pH) λg15=>uB 4 [11] [2,3] [vL g15 dB,vI 0] [] (ay (ai [0] (aL ?_)));cases hm;exact dm g15 [0] fk

def Cr(s:a7)(cU:a7):Option Bool:=az (decide (ln cU≤ln s)=true→0≤ln cU∧ln cU≤ln s)<|lt (cond (decide (ln cU≤ln s)) (sub s 0 (ln cU)==cU) false) λx4=>some x4
theorem a2d(s)(cU)(r)(hm:Cr s cU=some r):Rt 202 [vS s,vS cU] (vB r):=by
 rw[Cr]at hm;refine dy (call202 _) func202 ntmps202 λM X w=>?_;refine uO [] ?_;obtain⟨mf,x4,nb,hm⟩:=cE hm;refine uR [0,1] [4] [vB x4] [p8 (gT (decide (ln cU≤ln s))) λhg=>mf hg.1] (aL ?_) (he:=by subst nb;kernel_rfl);cases hm;exact bf [] bo

def Au(s:a7)(cU:a7):Option Bool:=Option.bind (Cr s cU) λy3=>some y3
theorem Q7(s)(cU)(r)(hm:Au s cU=some r):Rt 153 [vS s,vS cU] (vB r):=by
 rw[Au]at hm;refine dy (call153 _) func153 ntmps153 λM X w=>?_;refine uO [] ?_;obtain⟨y3,cq,hm⟩:=a8 hm;cases hm;exact uZ [] [kc (a2d _ _ _ cq)]

def LJ(m:Nat)(s:a7):Option Bool:=lt (cond (s==[]) true (decide (64<ln s))) λx3=>lt (cond x3 true (decide (0≤strings_IndexByte s 0))) λx4=>cond x4 (some false) (Option.bind (Au s [45,45]) λy9=>cond y9 (some (!(s==[45,45]))) (Option.bind (Ap m s) λdB=>some (s==dB)))
theorem aaK(m)(s)(r)(hm:LJ m s=some r):Rt 146 [vS s] (vB r):=by
 rw[LJ]at hm;refine dy (call146 _) func146 ntmps146 λM X w=>?_;refine uO [] (ah ?_);obtain⟨x3,iT,x4,nb,hm⟩:=eL hm;refine uI [gg (gF x3) λhg=>Lh s 0] hm ?_ ?_ (he:=by subst iT nb;kernel_rfl);intro hm;cases hm;exact uZ [] [];refine λhm=>ag (ah ?_);obtain⟨y9,oy,hm⟩:=a8 hm;refine uI [kc (Q7 _ _ _ oy)] hm ?_ ?_;intro hm;cases hm;exact uZ [] [];refine λhm=>ag ?_;obtain⟨dB,pH,hm⟩:=a8 hm;cases hm;exact uZ [] [kc (Lq m _ _ pH)]

def Q8(s:a7)(cU:a7):Option a7:=Option.bind (Cr s cU) λy3=>cond y3 (az (0≤ln cU∧ln cU≤ln s)<|some (sub s (ln cU) (ln s))) (some s)
theorem aaL(s)(cU)(r)(hm:Q8 s cU=some r):Rt 309 [vS s,vS cU] (vS r):=by
 rw[Q8]at hm;refine dy (call309 _) func309 ntmps309 λM X w=>?_;refine uO [] (ah ?_);obtain⟨y3,cq,hm⟩:=a8 hm;refine uI [kc (a2d _ _ _ cq)] hm ?_ ?_;intro hm;obtain⟨sf,hm⟩:=bY hm;cases hm;exact uZ [] [kh sf];refine λhm=>ag ?_;cases hm;exact uZ [] []

def LK(s:a7)(cU:a7):Option a7:=Option.bind (Q8 s cU) λy3=>some y3
theorem aaM(s)(cU)(r)(hm:LK s cU=some r):Rt 283 [vS s,vS cU] (vS r):=by
 rw[LK]at hm;refine dy (call283 _) func283 ntmps283 λM X w=>?_;refine uO [] ?_;obtain⟨y3,cq,hm⟩:=a8 hm;cases hm;exact uZ [] [kc (aaL _ _ _ cq)]

def LL(c_:Int):Bool:=lt (cond (decide (48≤c_)) (decide (c_≤57)) false) λx3=>x3
theorem a2e(c_:Int):Rt 284 [vU c_] (vB (LL c_)):=by
 generalize hm:LL c_=r;rw[LL]at hm;refine dy (call284 _) func284 ntmps284 λM X w=>?_;refine uO [] ?_;obtain⟨x3,iT,hm⟩:=bc hm;refine uR [0] [2] [vB x3] [] (aL ?_) (he:=by subst iT;kernel_rfl);subst hm;exact bf [] bo

def LM(s:a7):Option Bool:=Option.bind (LK s [45]) λy3=>az ((!(y3==[]))=true→0≤(0:Int)∧(0:Int)<ln y3)<|lt (cond (!(y3==[])) (LL (bU y3 0)) false) λx7=>some x7
theorem aaN(s)(r)(hm:LM s=some r):Rt 247 [vS s] (vB r):=by
 rw[LM]at hm;refine dy (call247 _) func247 ntmps247 λM X w=>?_;refine uO [] ?_;obtain⟨y3,cq,hm⟩:=a8 hm;refine uA 0 (vS y3) [kc (aaM _ _ _ cq)] ?_;obtain⟨sf,x7,xA,hm⟩:=cE hm;refine uR [0] [2] [vB x7] [p8 (gT (!(y3==[]))) λhg=>sf hg.1,gg (gT (!(y3==[]))) λhg=>a2e (bU y3 0)] (aL ?_) (he:=by subst xA;kernel_rfl);cases hm;exact bf [] bo

def LO(c_:Int):Bool:=lt (cond (decide (97≤fZ .or .u8 c_ 32)) (decide (fZ .or .u8 c_ 32≤122)) false) λx3=>cond x3 (decide (c_<128)) false
theorem aaO(c_:Int):Rt 285 [vU c_] (vB (LO c_)):=by
 generalize hm:LO c_=r;rw[LO]at hm;refine dy (call285 _) func285 ntmps285 λM X w=>?_;refine uO [] ?_;obtain⟨x3,iT,hm⟩:=bc hm;refine uR [0] [2] [vB (cond x3 (decide (c_<128)) false)] [] (aL ?_) (he:=by subst iT;kernel_rfl);subst hm;exact bf [] bo

def Q9(c_:Int):Bool:=lt (cond (LO c_) true (LL c_)) λx3=>lt (cond (cond x3 true (c_==95)) true (c_==45)) λx4=>cond x4 true (decide (128≤c_))
theorem aaP(c_:Int):Rt 248 [vU c_] (vB (Q9 c_)):=by
 generalize hm:Q9 c_=r;rw[Q9]at hm;refine dy (call248 _) func248 ntmps248 λM X w=>?_;refine uO [] ?_;obtain⟨x3,iT,x4,nb,hm⟩:=eL hm;refine uR [0] [2] [vB (cond x4 true (decide (128≤c_)))] [kc (aaO c_),gg (gF (LO c_)) λhg=>a2e c_] (aL ?_) (he:=by subst iT nb;kernel_rfl);subst hm;exact bf [] bo

def stringslite_Index(s:a7)(oI:a7):Option Int:=lt (cond (ln oI==0) true (oI==s)) λx5=>cond x5 (some 0) (cond (ln oI==1) (az (0≤(0:Int)∧(0:Int)<ln oI)<|some (stringslite_IndexByte s (bU oI 0))) (cond (decide (ln s≤ln oI)) (some (-1)) (none)))
theorem aaQ(s)(oI)(r)(hm:stringslite_Index s oI=some r):Rt 310 [vS s,vS oI] (vI r):=by
 rw[stringslite_Index]at hm;refine dy (call310 _) func310 ntmps310 λM X w=>?_;refine uO [] (uA 5 (vI (ln oI)) [] (ah (aC ?_)));obtain⟨x5,EP,hm⟩:=bc hm;refine uI [] hm ?_ ?_ (he:=by subst EP;kernel_rfl);intro hm;cases hm;exact uZ [] [];refine λhm=>uI [] hm ?_ ?_;intro hm;obtain⟨nc,hm⟩:=bY hm;cases hm;exact uZ [] [kh nc,kc (a1T s (bU oI 0))];refine λhm=>TJ [] hm ?_;intro hm;cases hm;exact uZ [] []

def strings_Index(s:a7)(oI:a7):Option Int:=Option.bind (stringslite_Index s oI) λy3=>some y3
theorem aaR(s)(oI)(r)(hm:strings_Index s oI=some r):Rt 286 [vS s,vS oI] (vI r):=by
 rw[strings_Index]at hm;refine dy (call286 _) func286 ntmps286 λM X w=>?_;refine uO [] ?_;obtain⟨y3,cq,hm⟩:=a8 hm;cases hm;exact uZ [] [kc (aaQ _ _ _ cq)]

def strings_Contains(s:a7)(oI:a7):Option Bool:=Option.bind (strings_Index s oI) λy3=>some (decide (0≤y3))
theorem aaS(s)(oI)(r)(hm:strings_Contains s oI=some r):Rt 249 [vS s,vS oI] (vB r):=by
 rw[strings_Contains]at hm;refine dy (call249 _) func249 ntmps249 λM X w=>?_;refine uO [] ?_;obtain⟨y3,cq,hm⟩:=a8 hm;cases hm;exact uZ [] [kc (aaR _ _ _ cq)]

def LQ(t_:cC):Option Bool:=az (ln t_.di+ln t_.Unit≤9223372036854775807)<|lt (strings_IndexByte (t_.di++t_.Unit) 0) λx9=>Option.bind (Option.bind (cond (t_.af==1) (some (t_.af==1)) (cond (t_.af==2) (some (t_.af==2)) (some (t_.af==3)))) λ(ie:Bool)=>cond ie (lt (cond (decide (x9<0)) (!(t_.di==[])) false) λjt=>some (true,false,false,false,jt)) (cond (t_.af==4) (lt (cond (decide (x9<0)) (!(t_.di==[])) false) λoC=>Option.bind (cond oC (cond t_.ma (some default) (LM t_.di)) (some default)) λfW=>Option.bind (cond oC (cond t_.ma (some default) (cond fW (Au t_.di [45,45]) (some default))) (some default)) λbV=>lt (cond oC (cond (cond t_.ma true (cond fW (!bV) false)) true (t_.di==[45])) false) λVS=>some (true,false,false,true,VS)) (Option.bind (cond (t_.af==5) (some (t_.af==5)) (some (t_.af==7))) λ(z37:Bool)=>cond z37 (some (true,false,false,false,decide (x9<0))) (cond (t_.af==9) (lt (cond (decide (x9<0)) (ln t_.di==1) false) λsE=>az (sE=true→0≤(0:Int)∧(0:Int)<ln t_.di)<|lt (cond sE (!(Q9 (bU t_.di 0))) false) λj9=>Option.bind (cond (cond j9 true (t_.di==[45])) (strings_Contains [32,9,10,12,13,34,39,58,59,44,91,93,40,41,123,125] t_.di) (some default)) λmH=>lt (cond (cond j9 true (t_.di==[45])) (!mH) false) λzf=>some (true,false,false,false,zf)) (Option.bind (cond (t_.af==10) (some (t_.af==10)) (cond (t_.af==11) (some (t_.af==11)) (some (t_.af==12)))) λ(VT:Bool)=>cond VT (lt (cond (decide (x9<0)) (decide ((-1000000000000)≤t_.cN)) false) λVU=>lt (cond VU (decide (t_.cN≤1000000000000)) false) λuU=>lt (cond uU (cond (!t_.ma) true (Int.tmod t_.cN 1000==0)) false) λVV=>lt (cond VV (cond (!(t_.af==12)) true (!(t_.Unit==[]))) false) λsQ=>some (false,t_.af==12,true,t_.af !=11,sQ)) (lt (cond (decide (13≤t_.af)) (decide (t_.af≤24)) false) λVW=>some (false,false,false,false,VW))))))) λ(z12:Bool×Bool×Bool×Bool×Bool)=>lt (cond z12.2.2.2.2 (cond z12.1 true (t_.di==[])) false) λja=>lt (cond ja (cond z12.2.1 true (t_.Unit==[])) false) λVX=>lt (cond VX (cond z12.2.2.1 true (t_.cN==0)) false) λVY=>lt (cond VY (cond z12.2.2.2.1 true (!t_.ma)) false) λVZ=>some VZ
theorem aaT(t_)(r)(hm:LQ t_=some r):Rt 198 [.agg ⟨e7 t_⟩] (vB r):=by
 rw[LQ]at hm;refine dy (call198 _) func198 ntmps198 λM X w=>(aF ?_);refine uM [] [] [0] (oB (e7 t_) rfl) λb1=>uP 2 [] (ay (uR [] [3,4,5,6] [vF,vF,vF,vF] [] ?_));obtain⟨xS,x9,qH,hm⟩:=cE hm;refine uA 7 (vB (decide (x9<0))) [kb 0 1,kb 0 3,kh xS,kc (Lh (t_.di++t_.Unit) 0)] ?_ (he:=by subst qH;kernel_rfl);obtain⟨z12,hz,hm⟩:=a8 hm;refine uK [] [3,4,5,6,7] [vB z12.1,vB z12.2.1,vB z12.2.2.1,vB z12.2.2.2.1,vB z12.2.2.2.2] [eB b1 (e7 t_)] ?_ ?_;replace hm:=hz;refine uA 16 (vU t_.af) [kb 0 0] (aC ?_);obtain⟨ie,hz,hm⟩:=a8 hm;refine uK [] [25] [vB ie] [eB b1 (e7 t_)] ?_ ?_;refine uR [] [1,3,4,5,6,7,16,25] [vP b1,vF,vF,vF,vF,vB (decide (x9<0)),vU t_.af,vB (t_.af==1)] [] (uC hz ?_ ?_);refine λhm=>ag ?_;cases hm;exact te;refine λhm=>uA 25 (vB (t_.af==2)) [] (uC hm ?_ ?_);refine λhm=>ag ?_;cases hm;exact te;refine λhm=>uV 25 (vB (t_.af==3)) [] ?_;cases hm;exact te;refine rX (λhc=>?W0) (λhc=>?_)
 case W0=>
  replace hm:=bT hc hm;obtain⟨jt,uH,hm⟩:=bc hm;refine OX [1,3,4,5,6,7] [vP b1,vT,vF,vF,vF,vB jt] [bx (gT (decide (x9<0))) 0 1] ?_ (he:=by subst uH;kernel_rfl);cases hm;exact te
 replace hm:=bF hc hm;refine uR [25] [1,3,4,5,6,7,16,35] [vP b1,vF,vF,vF,vF,vB (decide (x9<0)),vU t_.af,vB (t_.af==4)] [] (uC hm ?_ ?_);refine λhm=>uR [16,35] [3,6] [vT,vT] [] ?_;obtain⟨oC,EH,fW,Ai,hm⟩:=pb hm;obtain⟨bV,EA,VS,aaU,hm⟩:=jq hm;refine uV 7 (vB VS) [bx (gT (decide (x9<0))) 0 1,bx (gT oC) 0 4,bx (t_.ma=false∧oC=true∧True) 0 1,gg (t_.ma=false∧oC=true∧True) λhg=>aaN _ _ (bF (hg.1) (bT (hg.2.1) Ai)),bx (fW=true∧t_.ma=false∧oC=true∧True) 0 1,gg (fW=true∧t_.ma=false∧oC=true∧True) λhg=>Q7 _ _ _ (bT (hg.1) (bF (hg.2.1) (bT (hg.2.2.1) EA))),bx (cond t_.ma true (cond fW (!bV) false)=false∧oC=true∧True) 0 1] ?_ (he:=by subst EH aaU;kernel_rfl);cases hm;exact te;intro hm;obtain⟨z37,hz,hm⟩:=a8 hm;refine uK [35] [63] [vB z37] [eB b1 (e7 t_)] ?_ ?_;refine uR [35] [63] [vB (t_.af==5)] [] (uC hz ?_ ?_);refine λhm=>ag ?_;cases hm;exact te;refine λhm=>uV 63 (vB (t_.af==7)) [] ?_;cases hm;exact te;refine rX (λhc=>?c81) (λhc=>?_)
 case c81=>
  replace hm:=bT hc hm;refine uW [16,63] [3] [vT] [] ?_;cases hm;exact te
 replace hm:=bF hc hm;refine uR [63] [66] [vB (t_.af==9)] [] (uC hm ?_ ?_);refine λhm=>uR [16,66] [3] [vT] [] ?_;obtain⟨sE,Ln,L1,hm⟩:=kO hm;obtain⟨j9,F2,hm⟩:=bc hm;refine uA 7 (vB (cond j9 true (t_.di==[45]))) [bx (gT (decide (x9<0))) 0 1,bx (gT sE) 0 1,p8 (gT sE) λhg=>L1 hg.1,gg (gT sE) λhg=>aaP (bU t_.di 0),bx (gF j9) 0 1] ?_ (he:=by subst Ln F2;kernel_rfl);obtain⟨mH,EF,zf,W1,hm⟩:=jq hm;refine uV 7 (vB zf) [bx (gT (cond j9 true (t_.di==[45]))) 0 1,gg (gT (cond j9 true (t_.di==[45]))) λhg=>aaS _ _ _ (bT (hg.1) EF)] ?_ (he:=by subst W1;kernel_rfl);cases hm;exact te;intro hm;obtain⟨VT,hz,hm⟩:=a8 hm;refine uK [16,66] [94] [vB VT] [eB b1 (e7 t_)] ?_ ?_;refine uR [66] [94] [vB (t_.af==10)] [] (uC hz ?_ ?_);refine λhm=>ag ?_;cases hm;exact te;refine λhm=>uA 94 (vB (t_.af==11)) [] (uC hm ?_ ?_);refine λhm=>ag ?_;cases hm;exact te;refine λhm=>uW [16] [94] [vB (t_.af==12)] [] ?_;cases hm;exact te;refine uC hm ?_ ?_;refine λhm=>jc [1,3,4,5,6,7] [vP b1,vF,vB (t_.af==12),vT,vB (t_.af !=11),vB (decide (x9<0))] [kb 0 0,kb 0 0] ?_;obtain⟨VU,aaV,uU,KT,hm⟩:=eL hm;obtain⟨VV,aaW,sQ,LR,hm⟩:=eL hm;refine uV 7 (vB sQ) [bx (gT (decide (x9<0))) 0 2,bx (gT VU) 0 2,bx (gT uU) 0 4,bx ((!t_.ma)=false∧uU=true∧True) 0 2,⟨none,λ_=>((!t_.ma)=false∧uU=true∧True→(1000:Int)≠0),λ_ _=>λhg=>(by show(1000:Int)≠0;decide)⟩,bx ((!(t_.af==12))=false∧VV=true∧True) 0 3] ?_ (he:=by subst aaV KT aaW LR;kernel_rfl);cases hm;exact te;intro hm;obtain⟨VW,aaX,hm⟩:=bc hm;refine uW [94] [7] [vB VW] [kb 0 0,bx (gT (decide (13≤t_.af))) 0 0] ?_ (he:=by subst aaX;kernel_rfl);cases hm;exact te;obtain⟨ja,LS,VX,aaY,hm⟩:=eL hm;obtain⟨VY,aaZ,VZ,ab0,hm⟩:=eL hm;refine uR [1,3,4,5,6,7] [2] [vB VZ] [bx (z12.1=false∧z12.2.2.2.2=true∧True) 0 1,bx (z12.2.1=false∧ja=true∧True) 0 3,bx (z12.2.2.1=false∧VX=true∧True) 0 2,bx (z12.2.2.2.1=false∧VY=true∧True) 0 4] (ai [] (aL ?_)) (he:=by subst LS aaY aaZ ab0;kernel_rfl);cases hm;exact bf [] bo

def Fe(i:Int)(k_:Int)(u0:List cC):Option Bool:=az (decide (i<ln u0)=true→0≤i∧i<ln u0)<|lt (cond (decide (i<ln u0)) ((gi u0 i).af==k_) false) λx4=>some x4
theorem W2{bC:Nat}{rp:Gh}(i)(k_)(u0)(r)(hm:Fe i k_ u0=some r)(w)(hL:Rd [aB.ro bC [vL rp u0],eI eU u0 rp] w):Rb 250 [vI i,vU k_,vP bC] (vB r) w:=by
 rw[Fe]at hm;refine cz hL (call250 _) func250 ntmps250 λM X w=>?_;refine uO [] ?_;obtain⟨mf,x4,nb,hm⟩:=cE hm;refine uR [0,1,2] [5] [vB x4] [ko 0 0,kgo (gT (decide (i<ln u0))) 0 0,jH (gT (decide (i<ln u0))) 1 λhg=>mf hg.1,km (gT (decide (i<ln u0))) 1 0 λhg=>mf hg.1] (ai [] (aL ?_)) (he:=by subst nb;kernel_rfl);cases hm;exact bf [] bo

def LU(m:Nat)(a_:a7)(b_:a7):Option Bool:=Option.bind (Ap m a_) λy3=>Option.bind (Ap m b_) λy4=>some (y3==y4)
theorem ab1(m)(a_)(b_)(r)(hm:LU m a_ b_=some r):Rt 251 [vS a_,vS b_] (vB r):=by
 rw[LU]at hm;refine dy (call251 _) func251 ntmps251 λM X w=>?_;refine uO [] ?_;obtain⟨y3,cq,y4,rh,hm⟩:=pA hm;cases hm;exact uZ [] [kc (Lq m _ _ cq),kc (Lq m _ _ rh)]

def LW(m:Nat)(l_:List cC):Option Int:=az (0≤(0:Int)∧(0:Int)<ln l_)<|lt (cond ((gi l_ (0:Int)).af==9) ((gi l_ (0:Int)).di==[92]) false) λsa=>cond sa (Option.bind (Fe 1 13 l_) λgk=>cond (!gk) (some 0) (some 2)) (Option.bind (cond ((gi l_ (0:Int)).af==2) (LU m (gi l_ (0:Int)).di [117,114,108]) (some default)) λju=>lt (cond ((gi l_ (0:Int)).af==2) ju false) λwC=>cond wC (Option.bind (Option.bind (Fe 1 13 l_) λjB=>cond jB (some 2) (some 1)) λ(ik:Int)=>Option.bind (Fe ik 5 l_) λtM=>cond (!tM) (some 0) (some (J (ik+1)))) (some 1))
theorem ab2{a6:Gh}(m)(l_)(r)(hm:LW m l_=some r)(w)(hL:Rd [eI eU l_ a6] w):Rb 199 [vL a6 l_] (vI r) w:=by
 rw[LW]at hm;refine cz hL (call199 _) func199 ntmps199 λM X w=>(aF ?_);refine uM [] [0] [0] (oB [vL a6 l_] rfl) λb1=>uP 2 [] (ay (uA 3 (.func (.func 250) ⟨[]⟩ ⟨[vP b1]⟩) [] (ah (aF ?_))));obtain⟨xS,hm⟩:=bY hm;refine uB 3 [1] [9] [.agg ⟨e7 (gi l_ (0:Int))⟩] [kb 0 0,ki 1 xS,⟨some (.agg ⟨e7 (gi l_ (0:Int))⟩),λwz=>V.bH (ab a6.a) (ao a6.a+((0:Int)).toNat*5) (e7 (gi l_ (0:Int))) 0 wz,λ_ hS=>(hS.im 1 rfl).dp xS 0 rfl⟩] (uM [] [0,1] [] (oA [vU 0,vN,vI 0,vN,vF]) λjO=>uL [0] [1,2] [9] (oS (e7 (gi l_ (0:Int))) rfl rfl) (ay (aC ?_)));obtain⟨sa,Et,hm⟩:=bc hm;refine uA 10 (vB sa) [kb 0 0,bx (gT ((gi l_ (0:Int)).af==9)) 0 1] (uC hm ?_ ?_) (he:=by subst Et;kernel_rfl);refine λhm=>ah ?_;obtain⟨gk,rk,hm⟩:=a8 hm;refine uR [3,4,10] [21] [vB (!gk)] [kr λ_ hS=>W2 (bC:=b1) (rp:=a6) _ _ _ _ rk _ (iR (aA aU (hS.im 2 rfl)) (hS.bk 1 rfl))] (ai [] (uC hm ?_ ?_));intro hm;cases hm;exact uZ [] [];refine λhm=>ag ?_;cases hm;exact uZ [] [];intro hm;obtain⟨ju,xC,wC,KY,hm⟩:=jq hm;refine uR [4,10] [3,22] [.func (.func 250) ⟨[]⟩ ⟨[vP b1]⟩,vB wC] [kb 0 0,bx (gT ((gi l_ (0:Int)).af==2)) 0 1,gg (gT ((gi l_ (0:Int)).af==2)) λhg=>ab1 m _ _ _ (bT (hg.1) xC)] (ai [1,2] (uC hm ?_ ?_)) (he:=by subst KY;kernel_rfl);refine λhm=>uR [22] [5] [vI 1] [] ?_;obtain⟨ik,hz,hm⟩:=a8 hm;refine uK [] [5] [vI ik] [eB b1 [vL a6 l_],eI eU l_ a6] ?_ ?_;obtain⟨jB,Ct,hm⟩:=a8 hz;refine uI [kr λ_ hS=>W2 (bC:=b1) (rp:=a6) _ _ _ _ Ct _ (iR (aA aU (hS.im 1 rfl)) (hS.bk 0 rfl))] hm ?_ ?_;refine λhm=>uV 5 (vI 2) [] ?_;cases hm;exact te;refine λhm=>ag ?_;cases hm;exact te;refine ah ?_;obtain⟨tM,Le,hm⟩:=a8 hm;refine uR [3] [39] [vB (!tM)] [kr λ_ hS=>W2 (bC:=b1) (rp:=a6) _ _ _ _ Le _ (iR (aA aU (hS.im 1 rfl)) (hS.bk 0 rfl))] (ai [] (uC hm ?_ ?_));intro hm;cases hm;exact uZ [] [];refine λhm=>ag ?_;cases hm;exact uZ [] [];refine λhm=>ag (uR [3,22] [2] [vI 1] [] (ai [] (aL ?_)));cases hm;exact bf [] bo

def HY(m:Nat)(l_:List cC):Nat→Int→Option (Sum Int Unit)
 |0,_=>none
 |kk+1,v10=>cond (decide (v10<ln l_)) (az (0≤v10∧v10<ln l_)<|Option.bind (Option.bind (LQ (gi l_ v10)) λcM=>lt (!cM) λmn=>cond mn (some true) (az (0≤v10∧v10≤ln l_∧ln l_≤ln l_)<|lt (gf l_ v10 (ln l_)) λq38=>Option.bind (LW m q38) λoG=>some (oG==0))) λ(z23:Bool)=>cond z23 (some (.inl 8)) (HY m l_ kk (J (v10+1)))) (some (.inr ()))
def LX(m:Nat)(l_:List cC):Option Int:=cond (decide (1500<ln l_)) (some 4) (Option.bind (HY m l_ m 0) λ(z7:Sum Int Unit)=>de z7 λiW=>some 0)
theorem ab3{a6:Gh}(m)(l_)(r)(hm:LX m l_=some r)(w)(hL:Rd [eI eU l_ a6] w):Rb 147 [vL a6 l_] (vI r) w:=by
 rw[LX]at hm;refine cz hL (call147 _) func147 ntmps147 λM X w=>?_;refine uO [] (ah (uA 7 (vB (decide (1500<ln l_))) [] (uC hm ?_ ?_)));refine λhm=>uR [0,7] [2] [vI 4] [] (ai [] (aL ?_));cases hm;exact bf [] bo;refine λhm=>ag ?_;obtain⟨z7,hz,lA⟩:=a8 hm;refine uS (z:=z7) [0,7] [] (λiW=>[]) (λiW=>[eI eU l_ a6]) ?_ ?_;refine uR [7] [8,9,10] [vL a6 l_,vI (ln l_),vI 0] [] (aC (eX [] [10] (λv10=>[vI v10]) (λ_=>[eI eU l_ a6]) hz (λkk v10 hm=>?_)));rw[HY]at hm;refine uA 11 (vB (decide (v10<ln l_))) [] (ah (uC hm ?_ ?_));refine λhm=>ag (ah (aC (aF ?_)));obtain⟨bX,hm⟩:=bY hm;refine uB 3 [11] [12,14] [vI v10,.agg ⟨e7 (gi l_ v10)⟩] [ki 0 bX,⟨some (.agg ⟨e7 (gi l_ v10)⟩),λwz=>V.bH (ab a6.a) (ao a6.a+v10.toNat*5) (e7 (gi l_ v10)) 0 wz,λ_ hS=>(hS.im 0 rfl).dp bX 0 rfl⟩] (fb [] [0] [0,8,9,10,12,14] [vL a6 l_,vL a6 l_,vI (ln l_),vI v10,vI v10,.agg ⟨e7 (gi l_ v10)⟩] (oA [vU 0,vN,vI 0,vN,vF]) λsH=>uB 5 [12] [3] [vI v10] [] (uL [0] [1] [14] (oS (e7 (gi l_ v10)) rfl rfl) (ay ?_)));obtain⟨z23,hz,hm⟩:=a8 hm;refine uK [4,3] [24] [vB z23] [eB sH (e7 (gi l_ v10)),eI eU l_ a6] ?_ ?_;refine dC ?_;obtain⟨cM,nU,mn,xP,hm⟩:=jq hz;refine uB 4 [4] [18] [vB mn] [kE 0 5,kc (aaT _ _ nU)] ?_ (he:=by subst xP;kernel_rfl);cases mn
 case true=>
  replace hm:=bT rfl hm;intro _ _ Ff hS;refine w8 18 [19,0,3,8,9,10,18] (fS [19,0,3,8,9,10,18] [undef,vL a6 l_,vI v10,vL a6 l_,vI (ln l_),vI v10,vT]) Ff rfl rfl rfl rfl rfl rfl λ_ li=>w8 18 [20,0,8,9,10,18,19] (fS [20,0,8,9,10,18,19] [undef,vL a6 l_,vL a6 l_,vI (ln l_),vI v10,vT,undef]) li rfl rfl rfl rfl rfl rfl λ_ HZ=>w8 18 [21,0,8,9,10,18] (fS [21,0,8,9,10,18] [undef,vL a6 l_,vL a6 l_,vI (ln l_),vI v10,vT]) HZ rfl rfl rfl rfl rfl rfl λ_ qG=>w8 18 [22,0,8,9,10,18] (fS [22,0,8,9,10,18] [undef,vL a6 l_,vL a6 l_,vI (ln l_),vI v10,vT]) qG rfl rfl rfl rfl rfl rfl λ_ Ad=>w8 18 [23,0,8,9,10,18] (fS [23,0,8,9,10,18] [undef,vL a6 l_,vL a6 l_,vI (ln l_),vI v10,vT]) Ad rfl rfl rfl rfl rfl rfl λ_ kR=>aG kR hS (gh 10 [0,8,9,10,24] [vL a6 l_,vL a6 l_,vI (ln l_),vI v10,vT] [] (ay ?_));cases hm;exact te
 replace hm:=bF rfl hm;intro _ _ Ff hS;refine a0r 4 6 [] [(0,0),(8,0),(9,0),(10,0),(18,0),(19,1),(20,1)] (fS [0,8,9,10,18,19,20] [vL a6 l_,vL a6 l_,vI (ln l_),vI v10,vF,vL a6 l_,vI v10]) [] Ff (by decide) (by kernel_rfl) trivial λ_ _ xK hb=>?_;replace hS:=hS.below hb;obtain⟨xT,q38,a2f,hm⟩:=cE hm;have hd:=hS.hand [1] [0,1] rfl rfl;refine a0u 18 [21,0,8,9,10,18] (fS [0,8,9,10,18] [vL a6 l_,vL a6 l_,vI (ln l_),vI v10,vF]) xK rfl rfl rfl rfl (yJ (T:=eU) (E:=169) (g:=a6) (q:=l_) v10 (ln l_) (.some (vI v10)) .none xK hd (hd.im 0 rfl) rfl rfl rfl rfl rfl rfl (.inr ⟨_,rfl⟩) (.inl ⟨rfl,rfl⟩) (by kernel_rfl) (by kernel_rfl) xT) (λ_=>rfl) λ_ _ v zg hq=>?_;obtain⟨nZ,rfl,hq⟩:=hq;rw[←a2f]at hq;rw[←a2f]at zg;replace hS:=hS.join [1] [0,1] rfl rfl hq;obtain⟨oG,L0,hm⟩:=a8 hm;refine aG zg hS (gh 10 [0,8,9,10,24] [vL a6 l_,vL a6 l_,vI (ln l_),vI v10,vB (oG==0)] [eY (gF false) λ_ hS hg=>ab2 (a6:=nZ) m _ _ L0 _ (aA aU (hS.im 0 rfl))] (ay (ai [1,2] ?_)));cases hm;exact ai [1,0] te;refine ai [1] (uC hm ?_ ?_);intro hm;cases hm;have hm:=lA;cases hm;exact uZ [] [];intro hm;exact ag (fQ [] hm);refine λhm=>bl ?_;cases hm;exact ts;rintro iW rfl;replace hm:=dO lA;refine ai [] ?_;cases hm;exact uZ [] []

def iX(v_:aq)(cJ:Int):Bool:=v_.aT.af==cJ
theorem Fg{il:Gh}(v_:aq)(cJ:Int)(w)(hL:Rd [eI ae v_.aa il] w):Rb 151 [.agg ⟨e3 v_ (gL [il])⟩,vU cJ] (vB (iX v_ cJ)) w:=by
 generalize hm:iX v_ cJ=r;rw[iX]at hm;refine cz hL (call151 _) func151 ntmps151 λM X w=>(aF ?_);refine uM [] [0] [0] (oB (e3 v_ (gL [il])) rfl) λb1=>uP 2 [] (ay (uR [1,2] [4] [vB (v_.aT.af==cJ)] [kb 0 0] (ai [] (aL ?_))));subst hm;exact bf [] bo

def Qa(dW:(List aq)→Option Bool):Prop:=∀(ax:Gh)(M:Av)(v_:List aq)(r:Bool),dW v_=some r→∀w,S0 M [eI ae v_ ax] w→Calls prog 148 ⟨[vL ax v_]⟩ w (λe w'=>∃v,e=.returned v∧v=vB r∧SH M (aD [eI ae v_ ax]) w [] w')
def Qb(m:Nat)(qL:(List aq)→Option Bool)(x_:aq):Option Bool:=lt (cond (iX x_ 20) true (iX x_ 22)) λx6=>Option.bind (cond (cond x6 true (iX x_ 24)) (some default) (qL x_.aa)) λy7=>lt (cond (cond x6 true (iX x_ 24)) true y7) λx8=>some x8
theorem ab4{dM:Gh}(m)(qL)(LY:Qa qL)(x_)(r)(hm:Qb m qL x_=some r)(w)(hL:Rd [eI ae x_.aa dM] w):Rb 200 [.agg ⟨e3 x_ (gL [dM])⟩] (vB r) w:=by
 rw[Qb]at hm;refine cz hL (call200 _) func200 ntmps200 λM X w=>(aF ?_);refine uM [] [0] [0] (oB (e3 x_ (gL [dM])) rfl) λb1=>uP 2 [] (ay ?_);obtain⟨x6,pB,y7,sb,hm⟩:=pb hm;obtain⟨x8,ss,hm⟩:=bc hm;refine uR [1] [2] [vB x8] [kE 0 6,⟨some (vB (iX x_ 20)),rB 151 [.agg ⟨e3 x_ (gL [dM])⟩,vU 20] (vB (iX x_ 20)),λ_ hS=>Fg (il:=dM) x_ 20 _ (aA aU (hS.im 1 rfl))⟩,⟨some (.agg ⟨e3 x_ (gL [dM])⟩),λwz=>iX x_ 20=false∧True→V.bH b1 0 (e3 x_ (gL [dM])) 0 wz,λ_ hS=>λhg=>(hS.bk 0 rfl).eW rfl⟩,⟨some (vB (iX x_ 22)),λwz=>iX x_ 20=false∧True→lG prog 151 ⟨[.agg ⟨e3 x_ (gL [dM])⟩,vU 22]⟩ (vB (iX x_ 22)) wz,λ_ hS=>λhg=>Fg (il:=dM) x_ 22 _ (aA aU (hS.im 1 rfl))⟩,⟨some (.agg ⟨e3 x_ (gL [dM])⟩),λwz=>x6=false∧True→V.bH b1 0 (e3 x_ (gL [dM])) 0 wz,λ_ hS=>λhg=>(hS.bk 0 rfl).eW rfl⟩,⟨some (vB (iX x_ 24)),λwz=>x6=false∧True→lG prog 151 ⟨[.agg ⟨e3 x_ (gL [dM])⟩,vU 24]⟩ (vB (iX x_ 24)) wz,λ_ hS=>λhg=>Fg (il:=dM) x_ 24 _ (aA aU (hS.im 1 rfl))⟩,bx (gF (cond x6 true (iX x_ 24))) 0 5,eY (gF (cond x6 true (iX x_ 24))) λ_ hS hg=>gA (aA aU (hS.im 1 rfl)) (call148 _) (λw' h'=>LY dM F0 _ _ (bF (hg.1) sb) w' h')] (ai [] (aL ?_)) (he:=by subst pB ss;kernel_rfl);cases hm;exact bf [] bo
def I0(m:Nat)(qL:(List aq)→Option Bool)(s:List aq):Nat→Int→Option (Sum Int Unit)
 |0,_=>none
 |kk+1,v6=>cond (decide (v6<ln s)) (az (0≤v6∧v6<ln s)<|Option.bind (Qb m qL (gi s v6)) λdH=>cond dH (some (.inl v6)) (I0 m qL s kk (J (v6+1)))) (some (.inr ()))
def Qc(m:Nat)(qL:(List aq)→Option Bool)(s:List aq):Option Int:=Option.bind (I0 m qL s m 0) λ(z3:Sum Int Unit)=>de z3 λdY=>some (-1)
theorem ab5{aY:Gh}(m)(qL)(LY:Qa qL)(s)(r)(hm:Qc m qL s=some r)(w)(hL:Rd [eI ae s aY] w):Rb 201 [vL aY s,.func (.func 200) ⟨[]⟩ ⟨[]⟩] (vI r) w:=by
 rw[Qc]at hm;refine cz hL (call201 _) func201 ntmps201 λM X w=>?_;refine uO [] ?_;obtain⟨z3,hz,fU⟩:=a8 hm;refine uS (z:=z3) [0,1] [] (λdY=>[]) (λdY=>[eI ae s aY]) ?_ ?_;refine uR [] [7,8] [vI (ln s),vI 0] [] (aC (eX [] [8] (λv6=>[vI v6]) (λ_=>[eI ae s aY]) hz (λkk v6 hm=>?_)));rw[I0]at hm;refine uA 9 (vB (decide (v6<ln s))) [] (ah (uC hm ?_ ?_));refine λhm=>ag (ah (aC (uR [9] [5] [vI v6] [] ?_)));obtain⟨eA,dH,ku,hm⟩:=kP hm;refine uI [ki 0 eA,⟨some (.agg ⟨e3 (gi s v6) (aY.s v6.toNat)⟩),λwz=>V.bH (ab aY.a) (ao aY.a+v6.toNat*6) (e3 (gi s v6) (aY.s v6.toNat)) 0 wz,λ_ hS=>(hS.im 0 rfl).dp eA 0 rfl⟩,kr λ_ hS=>ab4 (dM:=aY.s v6.toNat 0) m _ LY _ _ ku _ (aA aU (re ((hS.im 0 rfl).el eA)))] hm ?_ ?_;intro hm;cases hm;have hm:=fU;cases hm;exact uZ [] [];intro hm;exact ag (fQ [] hm);refine λhm=>bl ?_;cases hm;exact ts;rintro dY rfl;replace hm:=dO fU;refine ai [] ?_;cases hm;exact uZ [] []
def Qd(m:Nat)(qL:(List aq)→Option Bool)(s:List aq):Option Bool:=Option.bind (Qc m qL s) λy3=>some (decide (0≤y3))
theorem ab6{aY:Gh}(m)(qL)(LY:Qa qL)(s)(r)(hm:Qd m qL s=some r)(w)(hL:Rd [eI ae s aY] w):Rb 149 [vL aY s,.func (.func 200) ⟨[]⟩ ⟨[]⟩] (vB r) w:=by
 rw[Qd]at hm;refine cz hL (call149 _) func149 ntmps149 λM X w=>?_;refine uO [] ?_;obtain⟨y3,cq,hm⟩:=a8 hm;refine uR [0,1] [4] [vB (decide (0≤y3))] [kr λ_ hS=>ab5 (aY:=aY) m _ LY _ _ cq _ (aA aU (hS.im 0 rfl))] (ai [] (aL ?_));cases hm;exact bf [] bo
def Fh(m:Nat):Nat→List aq→Option Bool
 |0,_=>none
 |k+1,v_=>Option.bind (Qd m (Fh m k) v_) λy3=>some y3
theorem ab7(m:Nat):∀(k:Nat),Qa (Fh m k):=by
 intro k
 induction k with
 |zero=>intro ax M v_ r hm;exact cD hm
 |succ k ih=>
  intro ax M v_ r hm w hS;rw[Fh]at hm;unfold S0 at hS;generalize aD [eI ae v_ ax]=X at hS⊢;refine dQ func148 rfl ntmps148 rfl λ_ H=>aG H hS (cy [0] [vL ax v_] [] ?_);obtain⟨y3,cq,hm⟩:=a8 hm;refine uR [0] [2] [vB y3] [kr λ_ hS=>ab6 (aY:=ax) m _ ih _ _ cq _ (aA aU (hS.im 0 rfl))] (ai [] (aL ?_));cases hm;exact bf [] bo
def a2g(m:Nat)(v_:List aq):Option Bool:=Fh m m v_
theorem ab8{ax:Gh}(m)(v_)(r)(hm:a2g m v_=some r)(w)(hL:Rd [eI ae v_ ax] w):Rb 148 [vL ax v_] (vB r) w:=gA hL (call148 _) (λw' h=>ab7 m m ax F0 v_ r hm w' h)

def Fi(v_:aq):Bool:=lt (cond (iX v_ 9) (v_.aT.di==[33]) false) λx6=>x6
theorem ab9{il:Gh}(v_:aq)(w)(hL:Rd [eI ae v_.aa il] w):Rb 152 [.agg ⟨e3 v_ (gL [il])⟩] (vB (Fi v_)) w:=by
 generalize hm:Fi v_=r;rw[Fi]at hm;refine cz hL (call152 _) func152 ntmps152 λM X w=>(aF ?_);refine uM [] [0] [0] (oB (e3 v_ (gL [il])) rfl) λb1=>uP 2 [] (ay ?_);obtain⟨x6,pB,hm⟩:=bc hm;refine uR [1] [2] [vB x6] [kE 0 6,⟨some (vB (iX v_ 9)),rB 151 [.agg ⟨e3 v_ (gL [il])⟩,vU 9] (vB (iX v_ 9)),λ_ hS=>Fg (il:=il) v_ 9 _ (aA aU (hS.im 1 rfl))⟩,bx (gT (iX v_ 9)) 0 1] (ai [] (aL ?_)) (he:=by subst pB;kernel_rfl);subst hm;exact bf [] bo

def Qe(x_:aq):Bool:=cond (iX x_ 17) true (Fi x_)
theorem aba{dM:Gh}(x_:aq)(w)(hL:Rd [eI ae x_.aa dM] w):Rb 150 [.agg ⟨e3 x_ (gL [dM])⟩] (vB (Qe x_)) w:=by
 generalize hm:Qe x_=r;rw[Qe]at hm;refine cz hL (call150 _) func150 ntmps150 λM X w=>(aF ?_);refine uM [] [0] [0] (oB (e3 x_ (gL [dM])) rfl) λb1=>uP 2 [] (ay (uR [1] [2] [vB (cond (iX x_ 17) true (Fi x_))] [kE 0 6,⟨some (vB (iX x_ 17)),rB 151 [.agg ⟨e3 x_ (gL [dM])⟩,vU 17] (vB (iX x_ 17)),λ_ hS=>Fg (il:=dM) x_ 17 _ (aA aU (hS.im 1 rfl))⟩,⟨some (.agg ⟨e3 x_ (gL [dM])⟩),λwz=>iX x_ 17=false∧True→V.bH b1 0 (e3 x_ (gL [dM])) 0 wz,λ_ hS=>λhg=>(hS.bk 0 rfl).eW rfl⟩,⟨some (vB (Fi x_)),λwz=>iX x_ 17=false∧True→lG prog 152 ⟨[.agg ⟨e3 x_ (gL [dM])⟩]⟩ (vB (Fi x_)) wz,λ_ hS=>λhg=>ab9 (il:=dM) x_ _ (aA aU (hS.im 1 rfl))⟩] (ai [] (aL ?_))));subst hm;exact bf [] bo

def I1(m:Nat)(s:List aq):Nat→Int→Option (Sum Int Unit)
 |0,_=>none
 |kk+1,v6=>cond (decide (v6<ln s)) (az (0≤v6∧v6<ln s)<|cond (Qe (gi s v6)) (some (.inl v6)) (I1 m s kk (J (v6+1)))) (some (.inr ()))
def Qf(m:Nat)(s:List aq):Option Int:=Option.bind (I1 m s m 0) λ(z3:Sum Int Unit)=>de z3 λdY=>some (-1)
theorem abb{aY:Gh}(m)(s)(r)(hm:Qf m s=some r)(w)(hL:Rd [eI ae s aY] w):Rb 201 [vL aY s,.func (.func 150) ⟨[]⟩ ⟨[]⟩] (vI r) w:=by
 rw[Qf]at hm;refine cz hL (call201 _) func201 ntmps201 λM X w=>?_;refine uO [] ?_;obtain⟨z3,hz,fU⟩:=a8 hm;refine uS (z:=z3) [0,1] [] (λdY=>[]) (λdY=>[eI ae s aY]) ?_ ?_;refine uR [] [7,8] [vI (ln s),vI 0] [] (aC (eX [] [8] (λv6=>[vI v6]) (λ_=>[eI ae s aY]) hz (λkk v6 hm=>?_)));rw[I1]at hm;refine uA 9 (vB (decide (v6<ln s))) [] (ah (uC hm ?_ ?_));refine λhm=>ag (ah (aC (uR [9] [5] [vI v6] [] ?_)));obtain⟨eA,hm⟩:=bY hm;refine uI [ki 0 eA,⟨some (.agg ⟨e3 (gi s v6) (aY.s v6.toNat)⟩),λwz=>V.bH (ab aY.a) (ao aY.a+v6.toNat*6) (e3 (gi s v6) (aY.s v6.toNat)) 0 wz,λ_ hS=>(hS.im 0 rfl).dp eA 0 rfl⟩,kr λ_ hS=>aba (dM:=aY.s v6.toNat 0) (gi s v6) _ (aA aU (re ((hS.im 0 rfl).el eA)))] hm ?_ ?_;intro hm;cases hm;have hm:=fU;cases hm;exact uZ [] [];intro hm;exact ag (fQ [] hm);refine λhm=>bl ?_;cases hm;exact ts;rintro dY rfl;replace hm:=dO fU;refine ai [] ?_;cases hm;exact uZ [] []

def LZ(m:Nat)(s:List aq):Option Bool:=Option.bind (Qf m s) λy3=>some (decide (0≤y3))
theorem abc{aY:Gh}(m)(s)(r)(hm:LZ m s=some r)(w)(hL:Rd [eI ae s aY] w):Rb 149 [vL aY s,.func (.func 150) ⟨[]⟩ ⟨[]⟩] (vB r) w:=by
 rw[LZ]at hm;refine cz hL (call149 _) func149 ntmps149 λM X w=>?_;refine uO [] ?_;obtain⟨y3,cq,hm⟩:=a8 hm;refine uR [0,1] [4] [vB (decide (0≤y3))] [kr λ_ hS=>abb (aY:=aY) m _ _ cq _ (aA aU (hS.im 0 rfl))] (ai [] (aL ?_));cases hm;exact bf [] bo

def I2(m:Nat)(d_:cR):Option Int:=Option.bind (HX m d_.Value) λcF=>Option.bind (LJ m d_.bm) λfR=>Option.bind (cond (cond (!fR) true (cF.2 !=0)) (some default) (LX m cF.1)) λfT=>lt (cond (cond (!fR) true (cF.2 !=0)) true (fT !=0)) λvk=>Option.bind (cond vk (some default) (a2g m d_.Value)) λfL=>cond (cond vk true fL) (some 8) (Option.bind (LZ m d_.Value) λdb=>cond db (some 8) (Option.bind (cond (ln d_.Value==0) (Au d_.bm [45,45]) (some default)) λfW=>az (decide (0<ln d_.Value)=true→cond (ln d_.Value==0) (!fW) false=false→0≤(0:Int)∧(0:Int)<ln d_.Value)<|az (iX (gi d_.Value (0:Int)) 13=false→decide (0<ln d_.Value)=true→cond (ln d_.Value==0) (!fW) false=false→0≤J (ln d_.Value-1)∧J (ln d_.Value-1)<ln d_.Value)<|lt (iX (gi d_.Value (J (ln d_.Value-1))) 13) λkU=>lt (cond (cond (ln d_.Value==0) (!fW) false) true (cond (decide (0<ln d_.Value)) (cond (iX (gi d_.Value (0:Int)) 13) true kU) false)) λI3=>cond I3 (some 8) (some 0)))
theorem a2h{ff:Gh}(m)(d_)(r)(hm:I2 m d_=some r)(w)(hL:Rd [eI ae d_.Value ff] w):Rb 99 [.agg ⟨e8 d_ (gL [ff])⟩] (vI r) w:=by
 rw[I2]at hm;refine cz hL (call99 _) func99 ntmps99 λM X w=>(aF ?_);refine uM [] [0] [0] (oB (e8 d_ (gL [ff])) rfl) λb1=>uP 2 [] (ay (uA 3 (vL ff d_.Value) [kb 0 1] (aF (uB 1 [] [10] [vL ff d_.Value] [] ?_))));obtain⟨cF,lj,hm⟩:=a8 hm;refine uQ [1] [0,1] [10] (aaJ (ax:=ff) m _ _ lj) λg11=>uB 7 [11] [4,5] [vL g11 cF.1,vI cF.2] [] (ay (ah ?_));obtain⟨fR,qz,fT,tG,hm⟩:=pA hm;obtain⟨vk,M0,fL,uT,hm⟩:=pb hm;refine uR [4,5] [30] [vB (cond vk true fL)] [kb 1 0,kc (aaK m _ _ qz),eY (gF (cond (!fR) true (cF.2 !=0))) λ_ hS hg=>ab3 (a6:=g11) m _ _ (bF (hg.1) tG) _ (aA aU (hS.bD 0 rfl)),eY (gF vk) λ_ hS hg=>ab8 (ax:=ff) m _ _ (bF (hg.1) uT) _ (aA aU (hS.im 2 rfl))] (ai [1,2] (uC hm ?_ ?_)) (he:=by subst M0;kernel_rfl);refine λhm=>uR [1,3,30] [2] [vI 8] [] (ai [] (aL ?_));cases hm;exact bf [] bo;refine λhm=>ag (ah ?_);obtain⟨db,oF,hm⟩:=a8 hm;refine uR [30] [1,3,32] [vP b1,vL ff d_.Value,vB db] [kr λ_ hS=>abc (aY:=ff) m _ _ oF _ (aA aU (hS.im 1 rfl))] (uC hm ?_ ?_);refine λhm=>uR [1,3,32] [2] [vI 8] [] (ai [] (aL ?_));cases hm;exact bf [] bo;refine λhm=>ag (uR [32] [6] [vI (ln d_.Value)] [] (ah ?_));obtain⟨fW,Ai,Fj,hm⟩:=BQ hm;obtain⟨W3,kU,yY,hm⟩:=cE hm;obtain⟨I3,W4,hm⟩:=bc hm;refine uR [1,3,6] [60] [vB I3] [bx (gT (ln d_.Value==0)) 0 0,gg (gT (ln d_.Value==0)) λhg=>Q7 _ _ _ (bT (hg.1) Ai),jH (decide (0<ln d_.Value)=true∧cond (ln d_.Value==0) (!fW) false=false∧True) 1 λhg=>Fj hg.1 hg.2.1,⟨some (.agg ⟨e3 (gi d_.Value (0:Int)) (ff.s ((0:Int)).toNat)⟩),λwz=>decide (0<ln d_.Value)=true∧cond (ln d_.Value==0) (!fW) false=false∧True→V.bH (ab ff.a) (ao ff.a+((0:Int)).toNat*6) (e3 (gi d_.Value (0:Int)) (ff.s ((0:Int)).toNat)) 0 wz,λ_ hS=>λhg=>(hS.im 1 rfl).dp (Fj hg.1 hg.2.1) 0 rfl⟩,⟨some (vB (iX (gi d_.Value (0:Int)) 13)),λwz=>decide (0<ln d_.Value)=true∧cond (ln d_.Value==0) (!fW) false=false∧True→lG prog 151 ⟨[.agg ⟨e3 (gi d_.Value (0:Int)) (ff.s ((0:Int)).toNat)⟩,vU 13]⟩ (vB (iX (gi d_.Value (0:Int)) 13)) wz,λ_ hS=>λhg=>Fg (il:=ff.s ((0:Int)).toNat 0) (gi d_.Value (0:Int)) 13 _ (aA aU (re ((hS.im 1 rfl).el (Fj hg.1 hg.2.1))))⟩,jH (iX (gi d_.Value (0:Int)) 13=false∧decide (0<ln d_.Value)=true∧cond (ln d_.Value==0) (!fW) false=false∧True) 1 λhg=>W3 hg.1 hg.2.1 hg.2.2.1,⟨some (.agg ⟨e3 (gi d_.Value (J (ln d_.Value-1))) (ff.s (J (ln d_.Value-1)).toNat)⟩),λwz=>iX (gi d_.Value (0:Int)) 13=false∧decide (0<ln d_.Value)=true∧cond (ln d_.Value==0) (!fW) false=false∧True→V.bH (ab ff.a) (ao ff.a+(J (ln d_.Value-1)).toNat*6) (e3 (gi d_.Value (J (ln d_.Value-1))) (ff.s (J (ln d_.Value-1)).toNat)) 0 wz,λ_ hS=>λhg=>(hS.im 1 rfl).dp (W3 hg.1 hg.2.1 hg.2.2.1) 0 rfl⟩,⟨some (vB kU),λwz=>iX (gi d_.Value (0:Int)) 13=false∧decide (0<ln d_.Value)=true∧cond (ln d_.Value==0) (!fW) false=false∧True→lG prog 151 ⟨[.agg ⟨e3 (gi d_.Value (J (ln d_.Value-1))) (ff.s (J (ln d_.Value-1)).toNat)⟩,vU 13]⟩ (vB kU) wz,λ_ hS=>λhg=>(by rw[yY];exact Fg (il:=ff.s (J (ln d_.Value-1)).toNat 0) (gi d_.Value (J (ln d_.Value-1))) 13 _ (aA aU (re ((hS.im 1 rfl).el (W3 hg.1 hg.2.1 hg.2.2.1)))))⟩] (ai [] (uC hm ?_ ?_)) (he:=by subst yY W4;kernel_rfl);intro hm;cases hm;exact uZ [] [];refine λhm=>ag ?_;cases hm;exact uZ [] []

def abd(dW:bq→Option Int):Prop:=∀(aE:Gh)(aw:Gh)(M:Av)(c_:bq)(r:Int),dW c_=some r→∀w,S0 M [eI ae c_.aQ.Value aE,eI bu c_.aa aw] w→Calls prog 100 ⟨[.agg ⟨e4 c_ (gL [aE,aw])⟩]⟩ w (λe w'=>∃v,e=.returned v∧v=vI r∧SH M (aD [eI ae c_.aQ.Value aE,eI bu c_.aa aw]) w [] w')
def Cv(m:Nat)(c_:bq)(a2i:bq→Option Int):Nat→Int→Int→Option Int
 |0,_,_=>none
 |kk+1,cg,bz=>cond (decide (bz<ln c_.aa)) (az (0≤bz∧bz<ln c_.aa)<|Option.bind (a2i (gi c_.aa bz)) λee=>Cv m c_ a2i kk (if cg<ee then ee else cg) (J (bz+1))) (some cg)
def Aw(m:Nat):Nat→bq→Option Int
 |0,_=>none
 |k+1,c_=>Option.bind (cond (cond (c_.af==5) true (c_.af==6)) (some 1) (some 0)) λ(z8:Int)=>Option.bind (Cv m c_ (Aw m k) m z8 0) λ(j5:Int)=>some j5
end Go.Proofs.YtdkddffedangnaaGreatDoor
