/-
  Numbers and dimensions that take what begins the new piece. No program in sight.
-/
import Derived.Test.YtpobihiejncdgaaGreatDoorP2
set_option linter.unusedVariables false
set_option maxRecDepth 100000
namespace Go.Proofs.YtpobihiejncdgaaGreatDoor
open Go Go.V
theorem UU{n:Int}{x:J}(h:t1 aK (fU n++x)=true):fU n=[]:=by
  unfold fU at h⊢;by_cases hn:n<0
  · rw[bC hn]at h;cases h
  · rw[bV hn];rfl
theorem Oe{s:J}{i:Nat}{t:aq}{l:List aq}(h:iL s i (t::l)):∃j k:Nat,i<s.length∧fh 30000 s (i:Int)=some (t,(j:Int))∧i<j∧j≤s.length∧fq 30000 s (j:Int)=some (k:Int)∧k≤s.length∧iL s k l:=by
  cases h with
  |cons h1 h2 h3 h4 h5 h6 h7=>exact⟨_,_,h1,h2,h3,h4,h5,h6,h7⟩
theorem a2e(F D2 tl:J)(hF:(F=[]∧D2=[])∨(F=46::D2∧D2≠[]))(ht:t1 aK tl=false):t1 aK (F++tl)=false:=by
  rcases hF with⟨rfl,_⟩|⟨rfl,_⟩
  · exact ht
  · rfl
theorem a2f(D1 X:J)(hd:∀b∈D1,aK b=true)(hX:t1 aK X=false):dd (D1++X)=D1:=by
  rw[JR D1 X hd,Ac hX,List.append_nil]
theorem Of(y:It)(h:y.sep=false):aC [y]=y.w:=by
  show dz y.sep++(y.w++aC [])=y.w;rw[h];show y.w++[]=y.w;rw[List.append_nil]
theorem UW{y:It}{l:List It}(hl:l=[]∨(y.t.ah=2∨y.t=⟨9,[92],0,[],false⟩))(hk:y.t.ah=10∨y.t.ah=11∨y.t.ah=12):l=[]:=by
  rcases hl with h|h|h
  · exact h
  · omega
  · rw[h]at hk;rcases hk with h|h|h<;>cases h
theorem agx(x:J):du (46::x)=false:=by
  show cond (ag 45 46) _ (cond (cB 46) true (cond (ag 92 46) _ false))=false;rw[show cB 46=false from by kernel_rfl];rfl
theorem a2g{R:J}(h:lV R=false):de R=0:=by
  have:=yi R;rw[h]at this;exact Nat.eq_of_beq_eq_true this
theorem agy(s:J)(hs:s.length≤5000)(new:List It)(hN:sF new)(a:Nat)(ha:a≤s.length)(hd:s.drop a=aC new)(b:Bool)(h1:t1 aK (aC new)=true)(h2:(nE (!b) (aC new)).2=b)(h3:du ((aC new).drop (nE (!b) (aC new)).1)=false)(h4:t1 (ag 37) ((aC new).drop (nE (!b) (aC new)).1)=false)
    (k2:Nat)(hc:fq 30000 s ((a+(nE (!b) (aC new)).1:Nat):Int)=some (k2:Int))(hr:iL s k2 (new.map It.t)):(b=false∧∃d q,aC new=48::46::d::q∧aK d=true)∧Good new []:=by
  obtain⟨y,l,b0,q,rfl,nY,hy,hw,hf,he,hl⟩:=D0 hN;rw[he]at h1;have hk:=hf.d h1;have iF:=UW hl hk;subst iF;rw[Of y nY]at h2 h3 h4 hc hd he⊢;have fL:t1 (ag 46) y.w=false:=by
    rw[hw];exact(u5 (b:=b0) h1).2.1
  obtain⟨pt,D2,pR,mT,n1,n2⟩:=a2c y hy hk fL;obtain⟨Og,t2,t3,t4,t5⟩:=a2d y.t hy.fi hk;have K9:fU y.t.bu=[]:=by
    apply UU (x:=Lib.decDigits (y.t.bu.natAbs/1000)++(ez (y.t.bu.natAbs%1000) pt++fN y.t));rw[←mT,hw];exact h1
  rw[K9,List.nil_append]at mT;generalize hD1:Lib.decDigits (y.t.bu.natAbs/1000)=D1 at*;generalize hFF:ez (y.t.bu.natAbs%1000) pt=F at*;generalize Uv:fN y.t=tl at*;rw[mT]at h2 h3 h4 hc hd;have vX:dd (D1++(F++tl))=D1:=a2f D1 _ pR.dL (a2e F D2 tl pR.hF Og);have agz:∀k,(D1++(F++tl)).drop (D1.length+k)=(F++tl).drop k:=λk=>by rw[←List.drop_drop,List.drop_left]
  have D3:List.drop D1.length (D1++(F++tl))=F++tl:=List.drop_left;rcases pR.hF with⟨rfl,rfl⟩|⟨rfl,FG⟩
  · exfalso;have D3:List.drop D1.length (D1++([]++tl))=tl:=D3;have hA:nA (!b) (D1++([]++tl))=(D1.length,!(!b)):=by
      unfold nA;rw[vX,D3,t2];cases !b<;>rfl
    have hE:(nE (!b) (D1++([]++tl))).1=D1.length:=by
      unfold nE;rw[hA];dsimp only;rw[D3,a2g t3];rfl
    rw[hE,D3]at h3 h4;have NU:=t4 h3 h4;rw[hE]at hc;have hlen:=sD (a:=D1) (r:=[]++tl) ha hd;rw[NU]at hlen;have hlen:a+D1.length+0=s.length:=hlen;rw[show a+D1.length=s.length from by omega,UT s hs]at hc;injection hc with hc;rw[show k2=s.length from by omega]at hr;exact Oc hr
  · cases b with
    |true=>
      exfalso;have hA:(nA false (D1++(46::D2++tl))).2=false:=by
        unfold nA;rw[vX,D3,agz 1];obtain⟨d,z,rfl⟩:∃d z,D2=d::z:=by
          cases D2 with
          |nil=>exact absurd rfl FG
          |cons d z=>exact⟨d,z,rfl⟩
        show(cond (cond false false (cond true (aK d) false)) _ _:Nat×Bool).2=_;rw[pR.dw d List.mem_cons_self];rfl
      have:(nE false (D1++(46::D2++tl))).2=false:=by
        unfold nE;dsimp only;rw[hA];cases Nat.beq (de ((D1++(46::D2++tl)).drop (nA false (D1++(46::D2++tl))).1)) 0<;>rfl
      rw[dK,this]at h2;cases h2
    |false=>
      have hA:nA (!false) (D1++(46::D2++tl))=(D1.length,false):=by
        unfold nA;rw[vX];rfl
      have hE:(nE (!false) (D1++(46::D2++tl))).1=D1.length:=by
        unfold nE;rw[hA];dsimp only;rw[D3];rfl
      rw[hE]at hc;have dw:s.drop (a+D1.length)=46::D2++tl:=mu hd;have aM:=gj (b:=46) (r:=D2++tl) dw;have wH:=CX s (by omega) (a+D1.length) (by omega) (by rw[dw];rfl);rw[wH]at hc;injection hc with hc;have dq:k2=a+D1.length:=by omega
      rw[dq]at hr;have htw:=a1v D2 pR.dw FG pR.h3 (y.t.bu.natAbs%1000) (Nat.mod_lt _ (by decide)) pR.hf;have Oh:iL s (a+D1.length) [y.t]:=hr;have TY:y.t.bu=((y.t.bu.natAbs%1000:Nat):Int):=by
        obtain⟨j,k,e1,e2,_⟩:=Oe Oh;refine afY (b:=false) htw s hs (a+D1.length) (by omega) tl dw ?_ y.t _ e2;apply Nat.eq_of_beq_eq_true;rw[FU];unfold Ae;rw[Og,t3];rfl
      have hz:y.t.bu.natAbs/1000=0:=by omega
      have agA:D1=[48]:=by
        rw[←hD1,hz];exact A7 (by decide)
      obtain⟨d,z,rfl⟩:∃d z,D2=d::z:=by
        cases D2 with
        |nil=>exact absurd rfl FG
        |cons d z=>exact⟨d,z,rfl⟩
      have UX:y.w=48::46::d::(z++tl):=by rw[mT,agA];rfl
      refine⟨⟨rfl,d,z++tl,UX,pR.dw d List.mem_cons_self⟩,hy,?_,trivial⟩;have hyt:y.w=fv y.t:=by
        rcases hy.wt with h|⟨h,_⟩|⟨_,q,h,_⟩
        · exact h
        · rw[h]at hk;rcases hk with h|h|h<;>cases h
        · rw[UX]at h;injection h with h;cases h
      have wA:iM ⟨false,46::d::(z++tl),y.t⟩:=⟨hy.fi,hy.len,Or.inr (Or.inr ⟨hk,_,rfl,by rw[←hyt,UX]⟩)⟩;have hg:=a2b s hs [⟨false,46::d::(z++tl),y.t⟩] (.one _ rfl wA (λh=>by dsimp only at h;omega)) (a+D1.length) (by omega) (by rw[Of _ rfl,dw];rfl) (a+D1.length) wH Oh;exact hg.2.1
theorem agB(y:It)(h:iM y)(hk:y.t.ah=1∨y.t.ah=2):∃l tl,l≠[]∧(∀c∈l,0<c.toNat)∧y.w=cg (bP l) l++tl∧((y.t.ah=1∧tl=[])∨(y.t.ah=2∧tl=[40])):=by
  have hw:y.w=fv y.t:=mY h.wt (by intro hh;rw[hh]at hk;rcases hk with h|h<;>cases h) (by omega);have oU:=h.fi
  revert hw hk
  generalize y.t=t at oU;generalize y.w=w;intro hk hw;cases oU with
  |nm k s dq h h0=>
    rcases dq with rfl|rfl|rfl
    · exact⟨s,[],h,h0,by rw[hw,List.append_nil];rfl,Or.inl ⟨rfl,rfl⟩⟩
    · exact⟨s,[40],h,h0,by rw[hw];rfl,Or.inr ⟨rfl,rfl⟩⟩
    · rcases hk with h|h<;>cases h
  |hash s b h h0 hb=>rcases hk with h|h<;>cases h
  |st k s dq h0=>rcases dq with rfl|rfl<;>(rcases hk with h|h<;>cases h)
  |del c hc=>rcases hk with h|h<;>cases h
  |mk k h1 h2=>dsimp only at hk;omega
  |num n b h1 h2 h3=>rcases hk with h|h<;>cases h
  |mw n h1 h2=>rcases hk with h|h<;>cases h
  |jZ n b u h1 h2 h3 hu h0=>rcases hk with h|h<;>cases h
theorem agC{T:J}(h:t1 xm T=false):lU T=false∧t1 eG T=false:=by
  cases T with
  |nil=>exact⟨rfl,rfl⟩
  |cons b q=>
    have h:(ag 47 b||eG b)=false:=h;rw[pw]at h;refine⟨?_,h.2⟩;unfold lU;split
    · rename_i h1;injection h1 with h1;rw[h1]at h;cases h.1
    · rfl
theorem agD(s:J)(hs:s.length≤5000)(i:Nat)(hi:i<s.length)(t:aq)(j:Int)(hk:t.ah=1∨t.ah=2)(hq:t1 eG (s.drop i)=false)(h:fh 30000 s (i:Int)=some (t,j)):du (s.drop i)=true:=by
  have hd:=gp hi;generalize s[i]=b at hd;rw[mX s hs i b _ hd]at h;have h7:=(Un (Um _) (λh1=>by have:=a1M h1;rw[←hd,hq]at this;cases this) h Uo).2.1 hk;rw[hd];exact afR h7
theorem agE(s:J)(hs:s.length≤5000)(new:List It)(hN:sF new)(a:Nat)(ha:a≤s.length)(hd:s.drop a=aC new)(fr:Bool)(h1:t1 aK (aC new)=false)(he:de (aC new)≠0)(h3:du ((aC new).drop (nE fr (aC new)).1)=false)
    (k2:Nat)(hc:fq 30000 s ((a+(nE fr (aC new)).1:Nat):Int)=some (k2:Int))(hr:iL s k2 (new.map It.t)):False:=by
  obtain⟨y,l,b0,q,rfl,nY,hy,hw,hf,kQ,hl⟩:=D0 hN;have FA:cc b0=true:=by
    cases hx:cc b0 with
    |true=>rfl
    |false=>
      exfalso;apply he;apply a1w;rw[kQ];exact hx
  have hk:=hf.e FA;obtain⟨l0,tl,n1,n2,n3,n4⟩:=agB y hy hk;have hE:(nE fr (aC (y::l))).1=de (aC (y::l)):=by
    have hA:nA fr (aC (y::l))=(0,!fr):=by
      unfold nA;rw[Ac h1];have:cond fr false (cond (t1 (ag 46) ((aC (y::l)).drop ([]:J).length)) (t1 aK ((aC (y::l)).drop (([]:J).length+1))) false)=false:=by
        show cond fr false (cond (t1 (ag 46) (aC (y::l))) _ false)=false;have fL:t1 (ag 46) (aC (y::l))=false:=by
          rw[kQ];show ag 46 b0=false;cases hx:ag 46 b0 with
          |false=>rfl
          |true=>have:=(Ny hx).2.2.1;rw[FA]at this;cases this
        rw[fL];cases fr<;>rfl
      rw[this];rfl
    unfold nE;rw[hA];show 0+de ((aC (y::l)).drop 0)=_;rw[fG,Nat.zero_add]
  rw[hE]at h3 hc;have a2h:aC (y::l)=bR (fM (bP l0) l0) 0 l0++(tl++aC l):=by
    show dz y.sep++(y.w++aC l)=_;rw[nY,n3];show(cg (bP l0) l0++tl)++aC l=_;rw[c7];rfl
  have hx:(tl++aC l)=[]∨∃q,(tl++aC l)=40::q:=by
    rcases n4 with⟨k1,e⟩|⟨k1,e⟩
    · have iF:l=[]:=by
        rcases hl with h|h|h
        · exact h
        · omega
        · rw[h]at k1;cases k1
      left;rw[e,iF];rfl
    · right;rw[e];exact⟨_,rfl⟩
  have U9:=a29 (fM (bP l0) l0) l0 0 (de (aC (y::l))) (tl++aC l) (uc _ _ _ 0 λc hc=>⟨hc,n2 c hc⟩) hx (by rw[←a2h];exact a27 _);rw[←a2h]at U9;have iO:s.drop (a+de (aC (y::l)))=(aC (y::l)).drop (de (aC (y::l))):=by rw[←List.drop_drop,hd]
  obtain⟨c1,c2⟩:=agC U9;have Oh:iL s k2 (y.t::l.map It.t):=hr;obtain⟨j,k,e1,e2,_⟩:=Oe Oh;by_cases hlen:a+de (aC (y::l))≤s.length
  · have wH:=CX s (by omega) (a+de (aC (y::l))) hlen (by rw[iO];exact c1);rw[wH]at hc;injection hc with hc;have dq:k2=a+de (aC (y::l)):=by omega
    rw[dq]at e1 e2;have:=agD s hs _ e1 y.t j hk (by rw[iO];exact c2) e2;rw[iO,h3]at this;cases this
  · have hdz:s.drop (a+de (aC (y::l)))=[]:=fF (by omega);have yP:=a27 (aC (y::l))
    -- the figures lie within the text
    have hle:de (aC (y::l))≤(aC (y::l)).length:=by
      unfold de;cases t1 cc (aC (y::l))with
      |false=>exact dE _
      |true=>
        rw[af];generalize cond (t1 bp ((aC (y::l)).drop 1)) 2 1=g;cases hg:t1 aK ((aC (y::l)).drop g)with
        |false=>exact dE _
        |true=>
          rw[af];have h5:(dd ((aC (y::l)).drop g)).length≤((aC (y::l)).drop g).length:=(List.takeWhile_sublist _).length_le;rw[List.length_drop]at h5;have:g<(aC (y::l)).length:=by
            rcases Nat.lt_or_ge g (aC (y::l)).length with h|h
            · exact h
            · rw[fF h]at hg;cases hg
          omega
    have yQ:=congrArg List.length hd;rw[List.length_drop]at yQ;omega
theorem agF(y:It)(h:iM y)(l:List It)(hl:l=[]∨(y.t.ah=2∨y.t=⟨9,[92],0,[],false⟩))(q:J)(d:UInt8)(he:y.w++aC l=45::d::q)(hd:aK d=true):y.t.ah=10∨y.t.ah=11∨y.t.ah=12:=by
  by_cases hk:y.t.ah=10∨y.t.ah=11∨y.t.ah=12
  · exact hk
  exfalso;have JP:=(K7 d).2.2 hd;have nm:∀(s x:J),s≠[]→(∀c∈s,0<c.toNat)→cg (bP s) s++x=45::d::q→False:=by
    intro s x h1 h0 he;rcases JM s h1 h0 x with⟨b,z,e,hh,_⟩|⟨T,e,hT⟩|⟨z,e,_⟩
    · rw[he]at e;injection e with e _;have:=hh.u9;rw[←e]at this;cases this
    · rw[he]at e;injection e with _ e;have:=(JN hT).2.2.2.1;rw[←e]at this;have this:aK d=false:=this;rw[hd]at this;cases this
    · rw[he]at e;injection e with _ e;injection e with e _;exact JP e
  have iK:y.t=df→False:=by
    intro hs;rcases h.wt with h1|⟨_,h1⟩|⟨h1,_⟩
    · rw[h1,hs]at he;have he:32::aC l=45::d::q:=he;injection he with he;cases he
    · rw[h1]at he;injection he with he;cases he
    · exact hk h1
  have hw:y.w=fv y.t:=mY h.wt iK hk;have oU:=h.fi
  revert hw hk he hl
  generalize y.t=t at oU iK;generalize y.w=w;intro hl he hk hw;cases oU with
  |nm k s dq h h0=>
    rcases dq with rfl|rfl|rfl
    · rw[hw]at he;exact nm s _ h h0 he
    · rw[hw]at he;have he:(cg (bP s) s++[40])++aC l=45::d::q:=he;rw[c7]at he;exact nm s _ h h0 he
    · rw[hw]at he;have he:64::_=45::d::q:=he;injection he with he;cases he
  |hash s b h h0 hb=>
    rw[hw]at he;have he:35::_=45::d::q:=he;injection he with he;cases he
  |st k s dq h0=>
    rcases dq with rfl|rfl
    · rw[hw]at he;have he:34::_=45::d::q:=he;injection he with he;cases he
    · rw[hw]at he;have he:117::_=45::d::q:=he;injection he with he;cases he
  |del c hc=>
    rw[hw]at he;have he:c::aC l=45::d::q:=he;injection he with he1 KI;rcases hl with hl|hl|hl
    · rw[hl]at KI;cases KI
    · cases hl
    · injection hl with _ hl;injection hl with hl;rw[hl]at he1;cases he1
  |mk k h1 h2=>
    obtain⟨n,rfl⟩:∃n:Nat,k=n:=⟨k.toNat,by omega⟩;by_cases mZ:n=13
    · subst mZ;exact iK rfl
    · by_cases JZ:n=14
      · subst JZ;rw[hw]at he;have he:60::_=45::d::q:=he;injection he with he;cases he
      · by_cases Ad:n=15
        · subst Ad;rw[hw]at he;have he:45::45::_=45::d::q:=he;injection he with _ he;injection he with he _;exact JP he.symm
        · have hf:=ye _ (.mk (n:Int) h1 h2) w (Or.inl hw);obtain⟨c,e1,e2,e3⟩:=Uw (n:=n) (by omega) (by omega);have ew:fv ⟨(n:Int),[],0,[],false⟩=[c]:=by
            rw[NZ n (by omega)];exact e1
          rw[hw,ew]at he;have he:c::aC l=45::d::q:=he;injection he with he _;rw[he]at e2;rw[show jY 45=false from by kernel_rfl]at e2;cases e2
  |num n b h1 h2 h3=>exact hk (Or.inl rfl)
  |mw n h1 h2=>exact hk (Or.inr (Or.inl rfl))
  |jZ n b u h1 h2 h3 hu h0=>exact hk (Or.inr (Or.inr rfl))
theorem agG(e:UInt8)(S D X:J)(he:cc e=true)(hS:S=[]∨∃c,S=[c]∧bp c=true)(hD:D≠[])(hd:∀b∈D,aK b=true)(hX:t1 aK X=false):de (e::(S++(D++X)))=1+S.length+D.length:=by
  obtain⟨d,z,rfl⟩:∃d z,D=d::z:=by
    cases D with
    |nil=>exact absurd rfl hD
    |cons d z=>exact⟨d,z,rfl⟩
  have iO:=hd d List.mem_cons_self;have vX:=a2f (d::z) X hd hX;unfold de;rw[show t1 cc (e::(S++(d::z++X)))=cc e from rfl,he,af];rcases hS with rfl|⟨c,rfl,hc⟩
  · have hg:t1 bp ((e::([]++(d::z++X))).drop 1)=false:=(u5 iO).1;rw[hg,ae];have h1:t1 aK ((e::([]++(d::z++X))).drop 1)=true:=iO;rw[h1,af];show 1+(dd (d::z++X)).length=_;rw[vX];rfl
  · have hg:t1 bp ((e::([c]++(d::z++X))).drop 1)=true:=hc;rw[hg,af];have h1:t1 aK ((e::([c]++(d::z++X))).drop 2)=true:=iO;rw[h1,af];show 2+(dd (d::z++X)).length=_;rw[vX];rfl
theorem agH(s:J)(hs:s.length≤5000)(new:List It)(hN:sF new)(u:J)(hu:u≠[])(pre:J)(UY:pre=[]∨pre=[43])(a:Nat)(ha:a≤s.length)(hd:s.drop a=bX u++(pre++aC new))(hx:lV (bX u++(pre++aC new))=true)
    (h2:du ((bX u++(pre++aC new)).drop (de (bX u++(pre++aC new))))=true)(j:Nat)(hj:jU 30000 s ((a+de (bX u++(pre++aC new)):Nat):Int)=some (u,(j:Int)))(k2:Nat)(hc:fq 30000 s (j:Int)=some (k2:Int))(t0:aq)(rest:List aq)(hr:iL s k2 (t0::rest)):False:=by
  obtain⟨y,l,b0,q,rfl,nY,hy,hw,hf,kQ,hl⟩:=D0 hN
  -- the new piece is a number
  have wB:aC (y::l)=y.w++aC l:=by
    show dz y.sep++(y.w++aC l)=_;rw[nY];rfl
  have key:∃e S0,cc e=true∧(y.t.ah=10∨y.t.ah=11∨y.t.ah=12)∧t1 (ag 46) y.w=false∧bX u++(pre++aC (y::l))=e::(S0++y.w)∧l=[]∧((S0=[]∧(t1 aK y.w=true∨b0=45))∨(∃c,S0=[c]∧bp c=true∧t1 aK y.w=true)):=by
    have CB:t1 aK (aC (y::l))=true→(y.t.ah=10∨y.t.ah=11∨y.t.ah=12)∧l=[]∧t1 aK y.w=true∧t1 (ag 46) y.w=false∧aC (y::l)=y.w:=by
      intro h;rw[kQ]at h;have hk:=hf.d h;have iF:=UW hl hk;refine⟨hk,iF,by rw[hw];exact h,by rw[hw];exact(u5 (b:=b0) h).2.1,?_⟩;rw[wB,iF];exact List.append_nil _
    rcases UO u hu _ hx with⟨e,e1,e2,h|⟨h3,h4⟩⟩|⟨e,e1,e2,h⟩
    · rcases UY with rfl|rfl
      · obtain⟨k1,Ka,k3,k4,k5⟩:=CB h;exact⟨e,[],e1,k1,k4,by rw[e2,List.nil_append,k5];rfl,Ka,Or.inl ⟨rfl,Or.inl k3⟩⟩
      · cases h
    · rcases UY with rfl|rfl
      · rw[List.nil_append]at h3 h4;rw[kQ]at h3;have h3:bp b0=true:=h3;by_cases hb:b0=45
        · obtain⟨d,z,hz,iO⟩:=CY h4;have hyd:y.w++aC l=45::d::z:=by
            rw[←wB,kQ,←hb];rw[kQ]at hz;have hz:q++aC l=d::z:=hz;rw[hz]
          have hk:=agF y hy l hl z d hyd iO;have iF:=UW hl hk;refine⟨e,[],e1,hk,by rw[hw,hb];rfl,?_,iF,Or.inl ⟨rfl,Or.inr hb⟩⟩;rw[e2,wB,iF];show[e]++([]++(y.w++[]))=_;rw[List.append_nil];rfl
        · exfalso;have h43:b0=43:=by
            unfold bp at h3;rw[Bool.or_eq_true]at h3;rcases h3 with h|h
            · exact UInt8.toNat_inj.1 (eq_of_beq h)
            · have h:b0=45:=UInt8.toNat_inj.1 (eq_of_beq h);exact absurd h hb
          obtain⟨f1,f2⟩:=hf.x (by rw[h43];decide);have iF:l=[]:=by
            rcases hl with h|h|h
            · exact h
            · rw[f1]at h;cases h
            · rw[f1,h43]at h;injection h with _ h;injection h with h;cases h
          rw[wB,f2,iF]at h4;cases h4
      · obtain⟨k1,Ka,k3,k4,k5⟩:=CB h4;exact⟨e,[43],e1,k1,k4,by rw[e2,k5];rfl,Ka,Or.inr ⟨43,rfl,rfl,k3⟩⟩
    · rcases UY with rfl|rfl
      · obtain⟨k1,Ka,k3,k4,k5⟩:=CB h;exact⟨e,[45],e1,k1,k4,by rw[e2,List.nil_append,k5];rfl,Ka,Or.inr ⟨45,rfl,rfl,k3⟩⟩
      · cases h
  obtain⟨e,S0,he,hk,fL,hT,iF,hS⟩:=key;obtain⟨pt,D2,pR,mT,n1,n2⟩:=a2c y hy hk fL;obtain⟨Og,t2,t3,t4,t5⟩:=a2d y.t hy.fi hk;obtain⟨S,hSS,DW⟩:∃S,S0++y.w=S++(Lib.decDigits (y.t.bu.natAbs/1000)++(ez (y.t.bu.natAbs%1000) pt++fN y.t))∧(S=[]∨∃c,S=[c]∧bp c=true):=by
    rcases hS with⟨rfl,h|h⟩|⟨c,rfl,iZ,h⟩
    · have K9:fU y.t.bu=[]:=by
        apply UU (x:=Lib.decDigits (y.t.bu.natAbs/1000)++(ez (y.t.bu.natAbs%1000) pt++fN y.t));rw[←mT];exact h
      rw[K9]at mT;exact⟨[],by rw[mT];rfl,Or.inl rfl⟩
    · rcases pR.hs with rm|rm
      · rw[rm]at mT;exact⟨[],by rw[mT];rfl,Or.inl rfl⟩
      · rw[rm]at mT;exact⟨[45],by rw[mT];rfl,Or.inr ⟨45,rfl,rfl⟩⟩
    · have K9:fU y.t.bu=[]:=by
        apply UU (x:=Lib.decDigits (y.t.bu.natAbs/1000)++(ez (y.t.bu.natAbs%1000) pt++fN y.t));rw[←mT];exact h
      rw[K9]at mT;exact⟨[c],by rw[mT];rfl,Or.inr ⟨c,rfl,iZ⟩⟩
  rw[hSS]at hT;generalize Lib.decDigits (y.t.bu.natAbs/1000)=D1 at*;generalize ez (y.t.bu.natAbs%1000) pt=F at*;have hE:de (bX u++(pre++aC (y::l)))=1+S.length+D1.length:=by
    rw[hT];exact agG e S D1 (F++fN y.t) he DW pR.h1 pR.dL (a2e F D2 _ pR.hF Og)
  have jh:(bX u++(pre++aC (y::l))).drop (de (bX u++(pre++aC (y::l))))=F++fN y.t:=by
    rw[hE,hT,show 1+S.length+D1.length=(S.length+D1.length)+1 from by omega,List.drop_succ_cons,←List.drop_drop,List.drop_left,List.drop_left]
  have FV:s.drop (a+de (bX u++(pre++aC (y::l))))=F++fN y.t:=by rw[←List.drop_drop,hd,jh]
  rw[jh]at h2;generalize hp:a+de (bX u++(pre++aC (y::l)))=p at*;rcases pR.hF with⟨rfl,_⟩|⟨rfl,_⟩
  · obtain⟨k12,ktl⟩:=t5 h2;obtain⟨qa,h02⟩:=O2 y.t hy.fi k12;obtain⟨f,f1,f2⟩:=Uk y.t.Unit h02;have FV:s.drop p=bR f 0 y.t.Unit++[]:=by rw[FV,ktl,f1,List.append_nil];rfl
    have a2i:p≤s.length:=by
      rcases Nat.lt_or_ge s.length p with h|h
      · rw[fF (by omega),List.append_nil,←f1]at FV;have:=(FQ y.t.Unit qa h02 []).1;rw[List.append_nil,←FV]at this;cases this
      · exact h
    have uw:=(CO f s hs p y.t.Unit [] (by have:=hy.len.ul;omega) a2i f2 FV).1 rfl;rw[uw]at hj;injection hj with hj;injection hj with _ hj;have hlen:=sD a2i FV;have hlen:p+(bR f 0 y.t.Unit).length+0=s.length:=hlen;rw[show(j:Int)=(s.length:Int)from by omega,UT s hs]at hc;injection hc with hc;rw[show k2=s.length from by omega]at hr;exact Oc hr
  · rw[show(46::D2++fN y.t:J)=46::(D2++fN y.t)from rfl,agx]at h2;cases h2
theorem agI{t:aq}(hk:t.ah=2){r x:J}(h:okB t r=true):okB t (r++x)=true:=by
  unfold okB at h⊢;rw[hk]at h⊢;have h:(!(jj t.az)||mv r)=true:=h;show(!(jj t.az)||mv (r++x))=true;cases hu:jj t.az with
  |false=>rfl
  |true=>rw[hu]at h;exact a23 h
theorem D4{p:UInt8→Bool}{r x:J}(h:r≠[]):t1 p (r++x)=t1 p r:=by
  cases r with
  |nil=>exact absurd rfl h
  |cons a r=>rfl
theorem agJ(s:J)(hs:s.length≤5000)(o new:List It)(hN:sF new)(ho:Good o [])(i:Nat)(hi:i≤s.length)(x:It)(hx:x.t=yb)(hxi:iM x)(h2:okB x.t (aC o)=true)(yl:t1 (ag 42) (aC o++aC new)=true)(hd:s.drop i=dz x.sep++(x.w++(aC o++aC new)))
    (k:Nat)(hc:fq 30000 s (i:Int)=some (k:Int))(l:List aq)(hr:iL s k (x.t::l)):False:=by
  have h3:=a1W (by rw[←hx];exact h2);cases o with
  |cons y o=>
    rw[D4 (Od ho.1),h3]at yl;cases yl
  |nil=>
    obtain⟨y,l',b0,q,rfl,nY,hy,hw,hf,kQ,hl⟩:=D0 hN;have yl:ag 42 b0=true:=by
      have:t1 (ag 42) (aC (y::l'))=true:=yl;rw[kQ]at this;exact this
    have hb:b0=42:=UInt8.toNat_inj.1 (eq_of_beq yl);obtain⟨f1,f2⟩:=hf.x (by rw[hb];decide);have iF:l'=[]:=by
      rcases hl with h|h|h
      · exact h
      · rw[f1]at h;cases h
      · rw[f1,hb]at h;injection h with _ h;injection h with h;cases h
    have hit:aC (y::l')=[42]:=by
      rw[iF,Of y nY,f2,hb]
    have D5:x.w=[47]:=by
      have:=mY hxi.wt (by rw[hx];intro hh;injection hh with hh;cases hh) (by rw[hx];decide);rw[this,hx];rfl
    rw[D5,hit]at hd;have hd:s.drop i=dz x.sep++[47,42]:=hd;have hlen:=congrArg List.length hd;rw[List.length_drop,bB]at hlen;have hk:k=s.length:=by
      cases hse:x.sep with
      |false=>
        rw[hse]at hd;rw[a1U s (by omega) i hd]at hc;injection hc with hc;omega
      |true=>
        rw[hse]at hd hlen;have hlen:s.length-i=4+2:=hlen;have ud:s.drop (i+4)=[47,42]:=by rw[←List.drop_drop,hd];rfl
        have Aq:=a1U s (by omega) (i+4) ud;have dw:s.drop (i+2)=42::47::[47,42]:=by rw[←List.drop_drop,hd];rfl
        have h4:iy 42 47 s (i+2)=true:=by
          unfold iy;rw[eF,ya,dw];rfl
        have h1:iy 47 42 s i=true:=by rw[CW,hd];rfl
        unfold fq at hc Aq;rcases CU s (by omega) 29999 i hi with⟨h5,_⟩|⟨_,h5,_⟩|⟨h0,z,z1,z2,z3,z4⟩
        · rw[h1]at h5;cases h5
        · have:=h5.no (i+2) (cF _) (by omega);rw[h4]at this;cases this
        · have hz:z=i+2:=by
            have a:=z1.le;rcases Nat.lt_or_ge (i+2) z with aM|nW
            · have:=z1.no (i+2) (cF _) aM;rw[h4]at this;cases this
            · omega
          subst hz;rw[z4]at hc;have h6:iy 47 42 s (i+4)=true:=by rw[CW,ud];rfl
          rcases CU s (by omega) 29998 (i+4) (by omega)with⟨h7,_⟩|⟨_,_,h7⟩|⟨_,z,y1,y2,y3,y4⟩
          · rw[h6]at h7;cases h7
          · rw[show tj 30000 s 29999 ((i+2+2:Nat):Int)=_ from h7]at hc;injection hc with hc;omega
          · have:=y1.le;omega
    rw[hk]at hr;exact Oc hr
theorem window(s:J)(hs:s.length≤5000)(new:List It)(hN:sF new):∀(n:Nat)(o:List It)(i:Nat),o.length≤n→Good o []→i≤s.length→s.drop i=aC (o++new)→∀k:Nat,fq 30000 s (i:Int)=some (k:Int)→iL s k ((o++new).map It.t)→Good (o++new) []
  |_,[],i,hn,ho,hi,hd,k,hc,hr=>a2b s hs new hN i hi hd k hc hr
  |0,x::o,i,hn,ho,hi,hd,k,hc,hr=>by simp at hn
  |n+1,x::o,i,hn,ho,hi,hd,k,hc,hr=>by
    have hn:o.length≤n:=by simp at hn;omega
    obtain⟨h1,h2,h3⟩:=ho;rw[List.append_nil]at h2;have hr:iL s k (x.t::(o++new).map It.t):=hr;have hd:s.drop i=dz x.sep++(x.w++aC (o++new)):=hd;rw[rc]at hd;have UZ:(okB x.t (aC o++aC new)=true∨Sh x.t (aC o++aC new))→Good (o++new) []→Good (x::(o++new)) []:=by
      intro a b;refine⟨h1,?_,b⟩;rw[List.append_nil,rc];exact a
    rcases h2 with h2|h2
    · by_cases iX:x.t=yb∧t1 (ag 42) (aC o++aC new)=true
      · exact(agJ s hs o new hN h3 i hi x iX.1 h1 h2 iX.2 hd k hc _ hr).elim
      · have agK:x.t=yb→t1 (ag 42) (aC o++aC new)=false:=by
          intro hx;cases yl:t1 (ag 42) (aC o++aC new)with
          |false=>rfl
          |true=>exact absurd ⟨hx,yl⟩ iX
        obtain⟨a1,a2,a3,a4⟩:=K5 s hs i hi x h1 _ agK hd;rw[a1]at hc;injection hc with hc;have hk:i+(dz x.sep).length=k:=by omega
        rw[hk]at a2 a3;obtain⟨j,k2,e1,e2,e3,e4,e5,e6,e7⟩:=Oe hr;have iP:s.drop (k+x.w.length)=aC (o++new):=by rw[rc];exact mu a2
        rcases a1S x.t h1.fi h1.len x.w h1.wt s hs k (by omega) _ a2 (λdq=>agI dq h2) _ e2 with⟨iD,lX⟩|hb
        · refine UZ (Or.inl iD) ?_;rw[show(j:Int)=((k+x.w.length:Nat):Int)from lX]at e5;exact window s hs new hN n o (k+x.w.length) hn h3 a3 iP k2 e5 e7
        · -- the four cases
          have V0:o=[]∨aC o≠[]:=by
            cases o with
            |nil=>exact Or.inl rfl
            |cons y o=>exact Or.inr (Od h3.1)
          generalize Oi:x.t=t at hb h2 e2;generalize D5:x.w=w at hb a2 a3 iP;cases hb with
          |sl _ yl=>
            exact absurd ⟨Oi,yl⟩ iX
          |sp _ iK hj=>
            exfalso;rcases V0 with rfl|cQ
            · have iK:t1 bw (aC new)=true:=iK;obtain⟨y,l',b0,q,rfl,nY,hy,hw,hf,kQ,hl⟩:=D0 hN;rw[kQ]at iK;have iK:bw b0=true:=iK;obtain⟨f1,f2⟩:=hf.s iK;have iF:l'=[]:=by
                rcases hl with h|h|h
                · exact h
                · rw[f1]at h;cases h
                · rw[f1]at h;injection h with h;cases h
              subst iF;obtain⟨c,hwc,lr⟩:∃c,w=[c]∧bw c=true:=by
                have hwt:=h1.wt;rw[Oi,D5]at hwt;rcases hwt with h|⟨_,h⟩|⟨h,_⟩
                · exact⟨32,h,by kernel_rfl⟩
                · exact⟨10,h,by kernel_rfl⟩
                · rcases h with h|h|h<;>cases h
              have FN:s.drop k=[c,b0]:=by
                rw[a2,hwc];show[c]++aC [y]=_;rw[Of y nY,f2];rfl
              rw[agw s hs k c b0 lr iK FN]at hj;injection hj with hj;rw[←hj,UT s hs]at e5;injection e5 with e5;have e7:iL s k2 [y.t]:=e7;rw[show k2=s.length from by omega]at e7;exact Oc e7
            · rw[D4 cQ]at iK;have h2:(!(t1 bw (aC o)))=true:=h2;rw[iK]at h2;cases h2
          |num m b _ g1 g2 g3 g4 hj=>
            have h2:(Nat.beq (nE (!b) (aC o)).1 0&&(!(du (aC o))&&!(t1 (ag 37) (aC o))))=true:=h2;rw[Bool.and_eq_true,Bool.and_eq_true,Bool.not_eq_true',Bool.not_eq_true',FU]at h2;have Qx:=afK g1;have a2j:∀r:J,t1 aK r=false→(!b)=false∧t1 (ag 46) r=true∧t1 aK (r.drop 1)=true→(nE (!b) r).2=b→False:=by
              intro r r1 r2 r3;rw[r2.1,agv r1 r2.2.1 r2.2.2]at r3;cases b with
              |true=>cases r3
              |false=>cases r2.1
            rcases V0 with rfl|cQ
            · have g1':(nE (!b) (aC new)).1≠0:=g1;have g2':(nE (!b) (aC new)).2=b:=g2;have g3':du ((aC new).drop (nE (!b) (aC new)).1)=false:=g3;have g4':t1 (ag 37) ((aC new).drop (nE (!b) (aC new)).1)=false:=g4;have Gl:(j:Int)=((k+w.length+(nE (!b) (aC new)).1:Nat):Int):=hj;rw[Gl]at e5;have a2k:s.drop (k+w.length)=aC new:=iP;have e7':iL s k2 (new.map It.t):=e7;cases xy:t1 aK (aC new)with
              |true=>
                obtain⟨⟨s1,d,q,s2,s3⟩,s4⟩:=agy s hs new hN (k+w.length) a3 a2k b xy g2' g3' g4' k2 e5 e7';refine UZ (Or.inr ?_) s4;rw[Oi];exact⟨rfl,s1,d,q,s2,s3⟩
              |false=>
                exfalso;have agL:t1 aK (aC new)=true∨de (aC new)≠0∨((!b)=false∧t1 (ag 46) (aC new)=true∧t1 aK ((aC new).drop 1)=true):=Qx;rcases agL with h|h|h
                · rw[xy]at h;cases h
                · exact agE s hs new hN (k+w.length) a3 a2k (!b) xy h g3' k2 e5 e7'
                · exact a2j _ xy h g2'
            · exfalso;have V2:=h2.1;unfold Ae at V2;rw[Bool.and_eq_true,Bool.not_eq_true']at V2;have xy:t1 aK (aC o++aC new)=false:=by rw[D4 cQ];exact V2.1
              rcases Qx with h|h|h
              · rw[xy]at h;cases h
              · have kQ:t1 cc (aC o)=true:=by
                  cases hx:t1 cc (aC o)with
                  |true=>rfl
                  |false=>exact absurd (a1w (by rw[D4 cQ];exact hx)) h
                obtain⟨c,q,hcq,r8⟩:=CY kQ;obtain⟨i1,i2,_⟩:=(K7 c).1 r8;have Kb:=h2.2.1;rw[hcq]at Kb;have Kb:cond (ag 45 c) (cond (cond (t1 cB q) true (t1 (ag 45) q)) true (gv q)) (cond (cB c) true (gv (c::q)))=false:=Kb;rw[i2,i1]at Kb;cases Kb
              · exact a2j _ xy h g2
          |jZ m b u w' g1 g2 hj=>
            exfalso;have h2:(eW (aC o)&&Nat.beq (de (bX u++aC o)) 0)=true:=h2;rw[Bool.and_eq_true,yi,Bool.not_eq_true']at h2;have oU:=h1.fi;rw[Oi]at oU;obtain⟨hu,h0⟩:=O2 _ oU rfl;have hu:u≠[]:=hu;have hex:lV (bX u++(aC o++aC new))=true:=by
              have:=yi (bX u++(aC o++aC new));cases hx:lV (bX u++(aC o++aC new))with
              |true=>rfl
              |false=>exact absurd (a2g hx) g1
            have FW:s.drop (k+w'.length)=bX u++(aC o++aC new):=by
              rw[←List.drop_drop,a2,c7,List.drop_left]
            have hle:k+w'.length≤s.length:=by
              rw[bB]at a3;omega
            have fin:∀pre:J,(pre=[]∨pre=[43])→aC o++aC new=pre++aC new→False:=by
              intro pre hp he;rw[he]at FW hex g2 hj;obtain⟨t0,rest,he7⟩:∃t0 rest,(o++new).map It.t=t0::rest:=by
                obtain⟨y,l',b0,q,rfl,_⟩:=D0 hN;cases o with
                |nil=>exact⟨_,_,rfl⟩
                |cons z o=>exact⟨_,_,rfl⟩
              rw[he7]at e7;exact agH s hs new hN u hu pre hp (k+w'.length) hle FW hex g2 j hj k2 e5 t0 rest e7
            rcases V0 with rfl|cQ
            · exact fin [] (Or.inl rfl) rfl
            · obtain⟨f1,f2,f3⟩:=a1K h2.1;rcases UO u hu _ hex with⟨e,x1,x2,h|⟨h,h'⟩⟩|⟨e,x1,x2,h⟩
              · rw[D4 cQ,f3]at h;cases h
              · rw[D4 cQ]at h;obtain⟨c,z,Oj,r8⟩:=CY h;have agM:c=43:=by
                  unfold bp at r8;rw[Bool.or_eq_true]at r8;rcases r8 with r8|r8
                  · exact UInt8.toNat_inj.1 (eq_of_beq r8)
                  · rw[Oj]at f2;have f2:ag 45 c=false:=f2;rw[r8]at f2;cases f2
                rw[agM]at Oj;cases z with
                |nil=>exact fin [43] (Or.inr rfl) (by rw[Oj])
                |cons d z=>
                  have ol:=h2.2;rw[Oj]at h' ol;have h':aK d=true:=h';rw[x2]at ol;have ol:cond (cc e) (cond true (aK d) _) false=false:=ol;rw[x1,h']at ol;cases ol
              · rw[D4 cQ,f3]at h;cases h
    · -- the number ahead of a zero
      obtain⟨m,As,e2'⟩:=UK h1 h2;have uu:Sh x.t (aC o++aC new):=a26 _ _ _ h2;obtain⟨_,_,d,q,Jr,iO⟩:=h2;obtain⟨y,l',z,rfl,y1,y2,y3⟩:=UI h3 Jr iO;obtain⟨g1,g2,g3⟩:=h3;have CA:x.t=yb→t1 (ag 42) (aC (y::l')++aC new)=false:=λhx=>by rw[hx]at As;injection As with h;cases h
      obtain⟨a1,a2,a3,a4⟩:=K5 s hs i hi x h1 _ CA hd;rw[a1]at hc;injection hc with hc;have hk:i+(dz x.sep).length=k:=by omega
      rw[hk]at a2 a3;obtain⟨j,k2,e1,e2,e3,e4,e5,e6,e7⟩:=Oe hr;rw[Jr]at a2;have V3:=UH e2' s hs k (by omega) d (q++aC new) a2;rw[V3]at e2;injection e2 with e2;injection e2 with _ e2;rw[←e2]at e5;have iP:s.drop (k+x.w.length+1)=aC ((⟨false,46::z,y.t⟩::l')++new):=by
        rw[←List.drop_drop,mu a2,rc];have h5:aC (⟨false,46::z,y.t⟩::l')=46::d::q:=by
          have h6:dz y.sep++(y.w++aC l')=48::46::d::q:=Jr;rw[y1,y2]at h6;injection h6
        rw[h5];rfl
      have hlen:k+x.w.length+1≤s.length:=by
        have h9:s.drop (k+x.w.length)=48::(46::d::q++aC new):=mu a2;have:=gj h9;omega
      have hg:=window s hs new hN n (⟨false,46::z,y.t⟩::l') (k+x.w.length+1) hn ⟨y3,g2,g3⟩ hlen iP k2 e5 e7;obtain⟨_,g5,g6⟩:=hg;exact UZ (Or.inr uu) ⟨g1,g5,g6⟩
theorem agN(s:J)(hs:s.length≤4000):∀(kk i:Nat)(n:Nat)(acc:List aq),s.length-i<kk→i≤s.length→n≤i→acc.length≤i→∃r,mI 30000 (s,0) kk (n:Int) (i:Int) acc=some r:=by
  intro kk
  induction kk with
  |zero=>intro i n acc h;omega
  |succ kk ih=>
    intro i n acc hk hi hn ha;rw[mI];by_cases aM:i<s.length
    · obtain⟨t,e,n1,n2,n3,n4⟩:=NI 30000 s hs (by omega) i aM;obtain⟨k,k1,k2,k3⟩:=CV s (by omega) 30000 e (by omega) n4;rw[show decide ((i:Int)<ln ((s,(0:Int)):J×Int).1)=true from dM aM,af,br (by omega)];cases decide ((1500:Int)<((n+1:Nat):Int))with
      |true=>exact⟨_,rfl⟩
      |false=>
        rw[ae,show vc 30000 ((s,(0:Int)):J×Int).1 (i:Int)=_ from n1,ai];unfold BD;rw[aL (by unfold ln;simp only[aZ,bW];omega),lt_eq,ai,show fq 30000 ((s,(0:Int)):J×Int).1 ((t,(e:Int)):aq×Int).2=_ from k1,ai];exact ih k (n+1) _ (by omega) k3 (by omega) (by rw[bB,aZ,bW];omega)
    · rw[show decide ((i:Int)<ln ((s,(0:Int)):J×Int).1)=false from eS (show s.length≤i by omega),ae];exact⟨_,rfl⟩
theorem agO(s:J)(h:(gU s).1.length≤4000):∃r,iG 30000 s=some r:=by
  unfold iG xi;rw[lt_eq];cases hc:(gU s).2 !=0 with
  |true=>
    rw[af,ai];dsimp only;rw[hc];exact⟨_,rfl⟩
  |false=>
    have h2:(gU s).2=0:=by simpa using hc
    have he:gU s=((gU s).1,0):=by rw[←h2]
    rw[ae];generalize(gU s).1=q at h he;rw[he];obtain⟨k,k1,k2,k3⟩:=CV q (by omega) 30000 0 (by omega) (dE _);rw[show fq 30000 q 0=_ from k1,ai];obtain⟨r,hr⟩:=agN q h 30000 k 0 [] (by omega) k3 (by omega) (by simp);rw[show mI 30000 (q,0) 30000 0 (k:Int) []=_ from hr,ai];cases r with
    |inl r=>
      show∃x,Option.bind (some r) _=some x;rw[ai];cases r.1 !=0<;>exact⟨_,rfl⟩
    |inr r=>
      rw[mU,ai];exact⟨_,rfl⟩
def Ok(a b:aq):Bool:=a.ah==b.ah&&(a.az==b.az&&(a.bu==b.bu&&(a.Unit==b.Unit&&(a.bS==b.bS&&true))))
theorem a2l{a b:aq}:Ok a b=true↔a=b:=by
  obtain⟨a1,a2,a3,a4,a5⟩:=a;obtain⟨b1,b2,b3,b4,b5⟩:=b;unfold Ok;simp
theorem agP(a b:List aq)(hl:a.length=b.length)(ha:a.length≤20000):∀(kk i:Nat),a.length-i<kk→i≤a.length→(∃r,EV 30000 a b kk (i:Int)=some r∧(r=.inr ()→a.drop i=b.drop i)∧(a.drop i=b.drop i→r=.inr ())∧(r≠.inr ()→r=.inl false)):=by
  intro kk
  induction kk with
  |zero=>intro i h;omega
  |succ kk ih=>
    intro i hk hi;rw[EV];by_cases aM:i<a.length
    · rw[dM aM,af,dN aM,dN (l:=b) (by omega),iq a i aM,iq b i (by omega),lt_eq];have FW:=gp aM;have V4:=gp (l:=b) (i:=i) (by omega);show∃r,cond (!(Ok a[i] (b[i]'(by omega)))) _ _=some r∧_
      cases he:Ok a[i] (b[i]'(by omega))with
      |false=>
        rw[j8,af];refine⟨_,rfl,λh=>(by cases h),λh=>?_,λ_=>rfl⟩;rw[FW,V4]at h;injection h with h _;rw[a2l.2 h]at he;cases he
      |true=>
        rw[dK,ae,br (by omega)];obtain⟨r,r1,r2,r3,r4⟩:=ih (i+1) (by omega) aM;have he:=a2l.1 he;refine⟨r,r1,λh=>?_,λh=>?_,r4⟩
        · rw[FW,V4,he,r2 h]
        · rw[FW,V4]at h;injection h with _ h;exact r3 h
    · rw[eS (by omega),ae];refine⟨_,rfl,λ_=>?_,λ_=>rfl,λh=>absurd rfl h⟩;rw[fF (by omega),fF (by omega)]
theorem agQ(a b:List aq)(ha:a.length≤20000)(hb:b.length≤20000):∃r,IP 30000 a b=some r∧(r=true↔a=b):=by
  unfold IP;by_cases hl:a.length=b.length
  · rw[show(ln a !=ln b)=false from by unfold ln;rw[hl];simp,ae];obtain⟨r,r1,r2,r3,r4⟩:=agP a b hl ha 30000 0 (by omega) (dE _);rw[show EV 30000 a b 30000 0=_ from r1,ai];rw[fG,fG]at r2 r3;cases r with
    |inl x=>
      have hx:=r4 (by intro h;cases h);injection hx with hx;subst hx;exact⟨false,rfl,λh=>(by cases h),λh=>by cases r3 h⟩
    |inr u=>exact⟨true,rfl,λ_=>r2 rfl,λ_=>rfl⟩
  · rw[show(ln a !=ln b)=true from by unfold ln;rw[bne_iff_ne];omega,af];exact⟨false,rfl,λh=>(by cases h),λh=>absurd (congrArg List.length h) hl⟩
def Af:aq:=⟨9,[92],0,[],false⟩
theorem agR:((List.range 256).all λn=>!(oT (UInt8.ofNat n))||(n==92||dU [UInt8.ofNat n]==9))=true:=by kernel_rfl
theorem agS(t:aq)(h:Fi t)(h2:t.ah=2→jj t.az=false)(hb:t≠Af):okB t []=true:=by
  cases h with
  |nm k s hk h h0=>
    rcases hk with rfl|rfl|rfl
    · show(eW []&&(!(t1 (ag 40) [])&&!(s==[45,45]&&t1 (ag 62) [])))=true;show(true&&(true&&!(s==[45,45]&&false)))=true;rw[Bool.and_false];rfl
    · show(!(jj s)||mv [])=true;rw[h2 rfl];rfl
    · rfl
  |hash s b h h0 hb=>rfl
  |st k s dq h0=>rcases dq with rfl|rfl<;>rfl
  |del c hc=>
    have h1:=iw (p:=λn=>!(oT (UInt8.ofNat n))||(n==92||dU [UInt8.ofNat n]==9)) agR c;have cQ:(c.toNat==92)=false:=bE.2 λhc=>hb (by rw[show c=92 from UInt8.toNat_inj.1 hc];rfl);rw[UInt8.ofNat_toNat,hc,dK,gr,cQ,gr,beq_iff_eq]at h1;show(Nat.beq (dU ([c]++[])) 9&&!(([c]:J)==[47]&&false))=true;rw[List.append_nil,h1,Bool.and_false];rfl
  |num n b h1 h2 h3=>
    show(Nat.beq (nE (!b) []).1 0&&(!(du [])&&!(t1 (ag 37) [])))=true;rw[FU,a2a];rfl
  |mw n h1 h2=>rfl
  |jZ n b u h1 h2 h3 hu h0=>
    show(eW []&&Nat.beq (de (bX u++[])) 0)=true;rw[yi,List.append_nil,UP u hu];rfl
  |mk k h1 h2=>
    by_cases mZ:k=13
    · subst mZ;rfl
    · exact Uu (by omega) (by omega)
structure V5(l:List aq):Prop where
  fi:∀t∈l,Fi t∧CS t
  pc:∀i t r,l.drop i=t::r→(t=Af→∃r',r=df::r')∧(t.ah=2→jj t.az=true→(∃y r',r=y::r'∧y.ah=5)∨(∃y r',r=df::y::r'∧y.ah=5))
  len:l.length≤1500
theorem agT(t:aq)(h:Fi t)(hL:CS t):CI t:=by
  have a:=hL.tl;have b:=hL.ul;cases h with
  |nm k s hk h h0=>rcases hk with rfl|rfl|rfl<;>exact⟨by omega,by omega,(by decide:(-1000000000000:Int)≤0),(by decide:(0:Int)≤1000000000000),(by dsimp only;omega),(by dsimp only;omega),(by dsimp only;omega),(by dsimp only;omega),(λh=>(by cases h))⟩
  |hash s b h h0 hb=>exact⟨by omega,by omega,(by decide:(-1000000000000:Int)≤0),(by decide:(0:Int)≤1000000000000),(by dsimp only;omega),(by dsimp only;omega),(by dsimp only;omega),(by dsimp only;omega),(λh=>(by cases h))⟩
  |st k s dq h0=>rcases dq with rfl|rfl<;>exact⟨by omega,by omega,(by decide:(-1000000000000:Int)≤0),(by decide:(0:Int)≤1000000000000),(by dsimp only;omega),(by dsimp only;omega),(by dsimp only;omega),(by dsimp only;omega),(λh=>(by cases h))⟩
  |del c hc=>exact⟨by omega,by omega,(by decide:(-1000000000000:Int)≤0),(by decide:(0:Int)≤1000000000000),(by dsimp only;omega),(by dsimp only;omega),(by dsimp only;omega),(by dsimp only;omega),(λh=>(by cases h))⟩
  |num n b h1 h2 h3=>exact⟨by omega,by omega,h1,h2,(by dsimp only;omega),(by dsimp only;omega),(by dsimp only;omega),(by dsimp only;omega),(λh=>(by cases h))⟩
  |mw n h1 h2=>exact⟨by omega,by omega,h1,h2,(by dsimp only;omega),(by dsimp only;omega),(by dsimp only;omega),(by dsimp only;omega),(λh=>(by cases h))⟩
  |jZ n b u h1 h2 h3 hu h0=>exact⟨by omega,by omega,h1,h2,(by dsimp only;omega),(by dsimp only;omega),(by dsimp only;omega),(by dsimp only;omega),(λ_=>hu)⟩
  |mk k h1 h2=>exact⟨by omega,by omega,(by decide:(-1000000000000:Int)≤0),(by decide:(0:Int)≤1000000000000),(by dsimp only;omega),(by dsimp only;omega),(by dsimp only;omega),(by dsimp only;omega),(λh=>(by dsimp only at h;omega))⟩
theorem agU:((List.range 25).all λn=>Nat.ble (nX n).length 4)=true:=by kernel_rfl
theorem agV(u:J):(bX u).length≤4*u.length:=by
  cases u with
  |nil=>exact dE _
  |cons c r=>
    rw[NW];cases xZ (c::r)with
    |true=>
      rw[af,bB,aZ];have:=CE c;have:=CJ 0 r;omega
    |false=>
      rw[ae];exact CJ _ _
theorem a2m(t:aq)(h:CI t):(fv t).length≤40030:=by
  have a:=h.tl;have b:=h.ul;have l1:=CJ (bP t.az) t.az;have l2:=CJ (cond t.bS (bP t.az) 0) t.az;have l3:=a1b t.az;have l4:=a1c t.az;have l5:=CK t.bu (!t.bS) h.n1 h.n2;have l6:=CK t.bu false h.n1 h.n2;have l7:=agV t.Unit;have l8:(nX t.ah).length≤4:=by
    have k1:=h.k1;have k2:=h.k2;obtain⟨n,hn⟩:∃n:Nat,t.ah=n:=⟨t.ah.toNat,by omega⟩;rw[hn]at k2⊢;exact Nat.le_of_ble_eq_true (lj (p:=λn=>Nat.ble (nX n).length 4) agU (n:=n) (by omega))
  unfold fv;cases t.ah==1<;>cases t.ah==2<;>cases t.ah==3<;>cases t.ah==4<;>cases t.ah==5<;>cases t.ah==7<;>cases t.ah==9<;>cases t.ah==10<;>cases t.ah==11<;>cases t.ah==12<;>simp only[af,ae,bB,aZ,bW]<;>omega
def D6:List aq→J
  |[]=>[]
  |t::l=>fv t++D6 l
theorem agW(q:List aq)(hq:∀t∈q,CI t)(hl:q.length≤10):∀(kk i:Nat)(acc:List Int),q.length-i<kk→i≤q.length→ln acc≤50000*(i:Int)+100→EW 30000 q kk acc (i:Int)=some (acc++ax (D6 (q.drop i))):=by
  intro kk
  induction kk with
  |zero=>intro i acc h;omega
  |succ kk ih=>
    intro i acc hk hi ha;rw[EW];by_cases aM:i<q.length
    · have hB:=hq q[i] (List.getElem_mem aM);have hL:=a2m q[i] hB;rw[dM aM,af,dN aM,iq q i aM,a1d acc q[i] hB (by omega),ai,br (by omega),ih (i+1) _ (by omega) aM (by rw[je,kP];omega),gp aM];show _=some (acc++ax (fv q[i]++D6 (q.drop (i+1))));rw[jn,c7]
    · rw[eS (by omega),ae,fF (by omega)];show _=some (acc++[]);rw[List.append_nil]
def D7(k:Int):List aq→Bool
  |[]=>false
  |t::_=>t.ah==k
theorem a2n(i:Nat)(k:Int)(u:List aq)(hi:i<1000000):tJ (i:Int) k u=some (D7 k (u.drop i)):=by
  unfold tJ;by_cases h:i<u.length
  · rw[dM h,aL (λ_=>⟨by omega,by unfold ln;omega⟩),af,iq u i h,lt_eq,gp h];rfl
  · rw[eS (by omega),aL (λh=>by cases h),ae,lt_eq,fF (by omega)];rfl
theorem a2o{t:aq}(h:Fi t)(hk:t.ah=13):t=df:=by
  cases h with
  |nm k s dq h h0=>rcases dq with rfl|rfl|rfl<;>cases hk
  |hash s b h h0 hb=>cases hk
  |st k s dq h0=>rcases dq with rfl|rfl<;>cases hk
  |del c hc=>cases hk
  |num n b h1 h2 h3=>cases hk
  |mw n h1 h2=>cases hk
  |jZ n b u h1 h2 h3 hu h0=>cases hk
  |mk k h1 h2=>dsimp only at hk;subst hk;rfl
theorem agX{t:aq}(h:Fi t)(hk:t.ah=9)(ht:t.az=[92]):t=Af:=by
  cases h with
  |nm k s dq h h0=>rcases dq with rfl|rfl|rfl<;>cases hk
  |hash s b h h0 hb=>cases hk
  |st k s dq h0=>rcases dq with rfl|rfl<;>cases hk
  |del c hc=>dsimp only at ht;rw[ht];rfl
  |num n b h1 h2 h3=>cases hk
  |mw n h1 h2=>cases hk
  |jZ n b u h1 h2 h3 hu h0=>cases hk
  |mk k h1 h2=>dsimp only at hk;omega
structure Pc(q:List aq)(new:List It)(p:Nat):Prop where
  pe:tK 30000 q=some (p:Int)
  p1:1≤p
  p3:p≤3
  pq:p≤q.length
  np:sF new
  mp:new.map It.t=q.take p
  gd:Good new []
  tx:aC new=cond (cond ((gi q 0).ah==9) ((p:Int)==2) false) [92,10] (D6 (q.take p))
  nw:∀y∈new,y.sep=false
def jk(t:aq):It:=⟨false,fv t,t⟩
theorem ng{t:aq}(h:Fi t)(hL:CS t):iM (jk t):=⟨h,hL,Or.inl rfl⟩
theorem agY(l:List aq)(h:V5 l)(i:Nat)(t:aq)(r:List aq)(hd:l.drop i=t::r):∃new p,Pc (t::r) new p:=by
  have DO:∀y∈t::r,Fi y∧CS y:=λy hy=>h.fi y (List.mem_of_mem_drop (by rw[hd];exact hy));obtain⟨ft,ym⟩:=DO t List.mem_cons_self;obtain⟨p1,p2⟩:=h.pc i t r hd;have h0:0≤(0:Int)∧(0:Int)<ln (t::r):=⟨by omega,by unfold ln;rw[aZ];omega⟩;have hg:gi (t::r) (0:Int)=t:=rfl;have Ol:∀k,tJ 1 k (t::r)=some (D7 k r):=λk=>a2n 1 k (t::r) (by decide);have agZ:∀k,tJ 2 k (t::r)=some (D7 k (r.drop 1)):=λk=>a2n 2 k (t::r) (by decide);by_cases Ag:t=Af
  · obtain⟨r',rfl⟩:=p1 Ag;subst Ag;refine⟨[⟨false,[92],Af⟩,⟨false,[10],df⟩],2,?_,by decide,by decide,by simp,.bs,rfl,?_,rfl,λy hy=>by simp at hy;rcases hy with rfl|rfl<;>rfl⟩
    · unfold tK;rw[aL h0,hg,lt_eq,show(Af.ah==9)=true from rfl,af,show(Af.az==[92])=true from rfl,af,Ol 13,ai];rfl
    · refine⟨⟨.del 92 (by kernel_rfl),⟨by decide,by decide⟩,Or.inl rfl⟩,Or.inl ?_,⟨.mk 13 (by decide) (by decide),⟨by decide,by decide⟩,Or.inr (Or.inl ⟨rfl,rfl⟩)⟩,Or.inl rfl,trivial⟩;kernel_rfl
  · have CN:cond (t.ah==9) (t.az==[92]) false=false:=by
      cases h9:t.ah==9 with
      |false=>rfl
      |true=>
        rw[af,bE];exact λht=>Ag (agX ft (eq_of_beq h9) ht)
    have yQ:=(Ur t.az (by have:=ym.tl;omega)).2;by_cases hu:t.ah=2∧jj t.az=true
    · have dq:(t.ah==2)=true:=beq_iff_eq.2 hu.1;have hk9:(t.ah==9)=false:=bE.2 (by omega);rcases p2 hu.1 hu.2 with⟨y,r',rfl,hy⟩|⟨y,r',rfl,hy⟩
      · obtain⟨fy,ly⟩:=DO y (by simp);have qN:(y.ah==13)=false:=bE.2 (by omega);refine⟨[jk t,jk y],2,?_,by decide,by decide,by simp,.UQ _ _ rfl rfl (ng ft ym) (ng fy ly) hu.1 hy,rfl,?_,?_,λz hz=>by simp at hz;rcases hz with rfl|rfl<;>rfl⟩
        · unfold tK;rw[aL h0,hg,CN,lt_eq,ae,dq,af,yQ,ai,af,hu.2,lt_eq,af,Ol 13,show D7 13 (y::r')=false from qN,ai,ae,ai,Ol 5,show D7 5 (y::r')=true from beq_iff_eq.2 hy,ai];rfl
        · refine⟨ng ft ym,Or.inl ?_,ng fy ly,Or.inl (O9 hy _),trivial⟩;obtain⟨q,e⟩:=O8 (ng fy ly) hy [];refine Oa hu.1 ?_;show mv (([]++((jk y).w++[]))++[])=true;rw[List.append_nil,List.nil_append,e];rfl
        · show[]++(fv t++([]++(fv y++[])))=cond (cond (t.ah==9) _ false) [92,10] (fv t++(fv y++[]));rw[hk9];rfl
      · obtain⟨fy,ly⟩:=DO y (by simp);obtain⟨fs,ls⟩:=DO df (by simp);refine⟨[jk t,jk df,jk y],3,?_,by decide,by decide,by simp,.UR _ _ _ rfl rfl rfl (ng ft ym) (ng fs ls) (ng fy ly) hu.1 ⟨rfl,rfl⟩ hy,rfl,?_,?_,λz hz=>by simp at hz;rcases hz with rfl|rfl|rfl<;>rfl⟩
        · unfold tK;rw[aL h0,hg,CN,lt_eq,ae,dq,af,yQ,ai,af,hu.2,lt_eq,af,Ol 13,show D7 13 (df::y::r')=true from rfl,ai,af,ai,agZ 5,show D7 5 ((df::y::r').drop 1)=true from beq_iff_eq.2 hy,ai];rfl
        · obtain⟨q,e⟩:=O8 (ng fy ly) hy [];have e2:aC [jk y]++[]=34::q:=by
            show([]++((jk y).w++[]))++[]=_;rw[List.append_nil,List.nil_append,e]
          refine⟨ng ft ym,Or.inl (Oa hu.1 ?_),ng fs ls,Or.inl ?_,ng fy ly,Or.inl (O9 hy _),trivial⟩
          · show mv (([]++([32]++aC [jk y]))++[])=true;show mv (32::(aC [jk y]++[]))=true;rw[e2];rfl
          · rw[e2];show(!(bw 34))=true;rw[JW.1];rfl
        · show[]++(fv t++([]++(fv df++([]++(fv y++[])))))=cond (cond (t.ah==9) _ false) [92,10] (fv t++(fv df++(fv y++[])));rw[hk9];rfl
    · have fX:t.ah=2→jj t.az=false:=by
        intro hk;cases hx:jj t.az with
        |false=>rfl
        |true=>exact absurd ⟨hk,hx⟩ hu
      refine⟨[jk t],1,?_,by decide,by decide,by simp,.one _ rfl (ng ft ym) fX,rfl,⟨ng ft ym,Or.inl ?_,trivial⟩,?_,λz hz=>by simp at hz;rw[hz];rfl⟩
      · unfold tK;rw[aL h0,hg,CN,lt_eq,ae];cases dq:t.ah==2 with
        |false=>
          rw[ae,ai,ae,lt_eq,ae];rfl
        |true=>
          rw[af,yQ,fX (eq_of_beq dq),ai,af,lt_eq,ae];rfl
      · exact agS t ft fX Ag
      · show[]++(fv t++[])=cond (cond (t.ah==9) (((1:Nat):Int)==2) false) [92,10] (fv t++[]);cases t.ah==9<;>rfl
theorem FX:∀(a b:List It)(e:J),Good (a++b) e↔Good a (aC b++e)∧Good b e
  |[],b,e=>⟨λh=>⟨trivial,h⟩,λh=>h.2⟩
  |x::a,b,e=>by
    have ih:=FX a b e;have he:aC (a++b)++e=aC a++(aC b++e):=by rw[rc,c7]
    constructor
    · rintro⟨h1,h2,h3⟩;have h2:okB x.t (aC (a++b)++e)=true∨Sh x.t (aC (a++b)++e):=h2;rw[he]at h2;exact⟨⟨h1,h2,(ih.1 h3).1⟩,(ih.1 h3).2⟩
    · rintro⟨⟨h1,h2,h3⟩,h4⟩;refine⟨h1,?_,ih.2 ⟨h3,h4⟩⟩;show okB x.t (aC (a++b)++e)=true∨Sh x.t (aC (a++b)++e);rw[he];exact h2
theorem Om:∀(a:List It)(r x:J),(4≤r.length∨sE x)→(r≠[]∨t1 bw x=false)→Good a r→Good a (r++x)
  |[],r,x,h,hs,hg=>trivial
  |y::a,r,x,h,hs,hg=>by
    obtain⟨h1,h2,h3⟩:=hg;refine⟨h1,?_,Om a r x h hs h3⟩;rw[←c7];rcases h2 with h2|h2
    · left;refine a25 y.t h1.fi _ x ?_ ?_ h2
      · rcases h with h|h
        · exact Or.inl (by rw[bB];omega)
        · exact Or.inr h
      · intro _;rcases hs with hs|hs
        · left;intro he;exact hs (List.append_eq_nil_iff.1 he).2
        · exact Or.inr hs
    · exact Or.inr (a26 _ _ _ h2)
theorem ah0:((List.range 256).all λn=>(!(dc (UInt8.ofNat n))||!(k7 (UInt8.ofNat n)))&&((!(CR (UInt8.ofNat n)&&!(pP (UInt8.ofNat n)))||(n==0||!(k7 (UInt8.ofNat n))))&&((lR (UInt8.ofNat n)||!(k7 (UInt8.ofNat n)))&&((!(aK (UInt8.ofNat n))||!(k7 (UInt8.ofNat n)))&&((!(oT (UInt8.ofNat n))||!(k7 (UInt8.ofNat n)))&&(Nat.ble 128 n||(n==0||!(ee (fc (UInt8.ofNat n))))))))))=true:=by kernel_rfl
structure Cb(c:UInt8):Prop where
  l:dc c=true→k7 c=false
  q:CR c=true→pP c=false→0<c.toNat→k7 c=false
  u:lR c=false→k7 c=false
  d:aK c=true→k7 c=false
  dl:oT c=true→k7 c=false
  e:0<c.toNat→c.toNat<128→ee (fc c)=false
theorem cb(c:UInt8):Cb c:=by
  have h:=iw (p:=λn=>(!(dc (UInt8.ofNat n))||!(k7 (UInt8.ofNat n)))&&((!(CR (UInt8.ofNat n)&&!(pP (UInt8.ofNat n)))||(n==0||!(k7 (UInt8.ofNat n))))&&((lR (UInt8.ofNat n)||!(k7 (UInt8.ofNat n)))&&((!(aK (UInt8.ofNat n))||!(k7 (UInt8.ofNat n)))&&((!(oT (UInt8.ofNat n))||!(k7 (UInt8.ofNat n)))&&(Nat.ble 128 n||(n==0||!(ee (fc (UInt8.ofNat n)))))))))) ah0 c;rw[UInt8.ofNat_toNat]at h;simp only[Bool.and_eq_true,Bool.or_eq_true,Bool.not_eq_true']at h;obtain⟨h1,h2,h3,h4,h5,h6⟩:=h;refine⟨λh=>?_,λha hb h0=>?_,λh=>?_,λh=>?_,λh=>?_,λh0 aM=>?_⟩
  · rcases h1 with h1|h1
    · rw[h]at h1;cases h1
    · exact h1
  · rcases h2 with h2|h2|h2
    · rw[ha,hb]at h2;cases h2
    · have:=eq_of_beq h2;omega
    · exact h2
  · rcases h3 with h3|h3
    · rw[h]at h3;cases h3
    · exact h3
  · rcases h4 with h4|h4
    · rw[h]at h4;cases h4
    · exact h4
  · rcases h5 with h5|h5
    · rw[h]at h5;cases h5
    · exact h5
  · rcases h6 with h6|h6|h6
    · have:=Nat.le_of_ble_eq_true h6;omega
    · have:=eq_of_beq h6;omega
    · exact h6
theorem Kc(f:Nat→UInt8→Bool)(p:UInt8→Bool)(hp:∀k c,f k c=true→p c=true→0<c.toNat→k7 c=false):∀(l:J)(k:Nat),(∀c∈l,0<c.toNat)→pQ f p k l→ee (bR f k l)=false
  |[],k,h0,h=>rfl
  |c::l,k,h0,h=>by
    obtain⟨h1,h2,h3⟩:=h;rw[bR,lT,Kc f p hp l (k+1) (λd hd=>h0 d (List.mem_cons_of_mem _ hd)) h3,Bool.or_false];cases hf:f k c with
    |true=>
      show(k7 c||false)=false;rw[hp k c hf (h1 hf) (h0 c List.mem_cons_self)];rfl
    |false=>exact(cb c).e (h2 hf).1 (h2 hf).2
theorem a2p{s:J}(h:∀c∈s,k7 c=false):ee s=false:=by
  unfold ee;rw[List.any_eq_false];intro c hc;rw[h c hc];simp
theorem V6(f:Int)(s:J)(h0:∀c∈s,0<c.toNat):ee (cg f s)=false:=
  Kc _ dc (λk c _ hc _=>(cb c).l hc) s 0 h0 (uc f s s 0 λc hc=>⟨hc,h0 c hc⟩)
theorem ah1(u:J)(h0:∀c∈u,0<c.toNat):ee (bX u)=false:=by
  obtain⟨f,f1,f2⟩:=Uk u h0;rw[f1];exact Kc _ dc (λk c _ hc _=>(cb c).l hc) u 0 h0 f2
theorem V7(n:Int)(pt:Bool)(h1:-1000000000000≤n)(h2:n≤1000000000000):ee (fV n pt)=false:=by
  obtain⟨D2,hN⟩:=JI n pt h1 h2;have e:fV n pt=fU n++(Lib.decDigits (n.natAbs/1000)++ez (n.natAbs%1000) pt):=rfl;rw[e,lT,lT,a2p (s:=Lib.decDigits (n.natAbs/1000)) (λc hc=>(cb c).d (hN.dL c hc))];have e1:ee (fU n)=false:=by rcases hN.hs with h|h<;>rw[h]<;>rfl
  have e2:ee (ez (n.natAbs%1000) pt)=false:=by
    rcases hN.hF with⟨h,_⟩|⟨h,_⟩
    · rw[h];rfl
    · rw[h,CT,a2p (λc hc=>(cb c).d (hN.dw c hc))];rfl
  rw[e1,e2];rfl
theorem ah2:((List.range 25).all λn=>!(ee (nX n)))=true:=by kernel_rfl
theorem a2q(t:aq)(h:Fi t):ee (fv t)=false:=by
  cases h with
  |nm k s hk h h0=>
    have hn:=V6 (bP s) s h0;rcases hk with rfl|rfl|rfl
    · exact hn
    · show ee (cg (bP s) s++[40])=false;rw[lT,hn];rfl
    · show ee (64::cg (bP s) s)=false;rw[CT,hn];rfl
  |hash s b h h0 hb=>
    show ee (35::cg (cond b (bP s) 0) s)=false;rw[CT,V6 _ s h0];rfl
  |st k s dq h0=>
    rcases dq with rfl|rfl
    · show ee (34::(ms s++[34]))=false;rw[CT,lT];have:ee (ms s)=false:=Kc _ CR (λk c hf hc h0=>(cb c).q hc (by simpa using hf) h0) s 0 h0 (Ud s 0);rw[this];rfl
    · show ee ([117,114,108,40]++(gX s++[41]))=false;rw[lT,lT];have:ee (gX s)=false:=Kc _ JQ (λk c hf hc h0=>(cb c).u (by simpa using hf)) s 0 h0 (NR s 0 h0);rw[this];rfl
  |del c hc=>
    show ee [c]=false;rw[CT,(cb c).dl hc];rfl
  |num n b h1 h2 h3=>exact V7 n _ h1 h2
  |mw n h1 h2=>
    show ee (fV n false++[37])=false;rw[lT,V7 n _ h1 h2];rfl
  |jZ n b u h1 h2 h3 hu h0=>
    show ee (fV n (!b)++bX u)=false;rw[lT,V7 n _ h1 h2,ah1 u h0];rfl
  |mk k h1 h2=>
    obtain⟨n,rfl⟩:∃n:Nat,k=n:=⟨k.toNat,by omega⟩;have hm:=lj (p:=λn=>!(ee (nX n))) ah2 (n:=n) (by omega);rw[Bool.not_eq_true']at hm;have ew:fv ⟨(n:Int),[],0,[],false⟩=nX n:=NZ n (by omega);rw[ew];exact hm
theorem ah3{x:It}(h:iM x):ee x.w=false:=by
  rcases h.wt with h1|⟨_,h1⟩|⟨_,q,_,h1⟩
  · rw[h1];exact a2q _ h.fi
  · rw[h1];rfl
  · have:=a2q _ h.fi;rw[h1,CT]at this;exact(pw.1 this).2
theorem Kd:∀(l:List It)(e:J),Good l e→ee (aC l)=false
  |[],_,_=>rfl
  |x::l,e,h=>by
    show ee (dz x.sep++(x.w++aC l))=false;rw[lT,lT,ah3 h.1,Kd l e h.2.2];cases x.sep<;>rfl
def On(it:List It)(st:List lM):Prop:=
  ∀n (h:n<st.length),∃pre x ue,it=pre++x::ue∧(st[n]'h).xG=(pre.length:Int)∧(st[n]'h).at_=(((aC pre).length+(dz x.sep).length:Nat):Int)∧st.length-n≤ue.length+1
theorem a2r:∀(l:List It)(e:J),Good l e→l.length≤(aC l).length
  |[],_,_=>dE _
  |x::l,e,h=>by
    have:=a2r l e h.2.2;have hp:=List.length_pos_iff.2 (ye x.t h.1.fi x.w h.1.wt).ne;show l.length+1≤(dz x.sep++(x.w++aC l)).length;rw[bB,bB];omega
theorem ah4{x:It}{b:Bool}{l:List It}{e:J}(h:Good (⟨b,x.w,x.t⟩::l) e):Good (x::l) e:=⟨⟨h.1.fi,h.1.len,h.1.wt⟩,h.2.1,h.2.2⟩
theorem a2s{x:It}{b:Bool}{l:List It}{e:J}(h:Good (x::l) e):Good (⟨b,x.w,x.t⟩::l) e:=⟨⟨h.1.fi,h.1.len,h.1.wt⟩,h.2.1,h.2.2⟩
theorem ah5(x:It)(l:List It)(h:x.sep=true):sE (aC (x::l))∧t1 bw (aC (x::l))=false:=by
  have e:aC (x::l)=47::([42,42,47]++(x.w++aC l)):=by
    show dz x.sep++(x.w++aC l)=_;rw[h];rfl
  rw[e];exact⟨rfl,by show bw 47=false;kernel_rfl⟩
theorem ah6(it:List It)(hg:Good it [])(st:List lM)(hs:On it st)(h4:4≤st.length)(hl:(aC it).length≤5000):∃(k a:Nat)(o:List It),(st[st.length-4]'(by omega)).xG=(k:Int)∧(st[st.length-4]'(by omega)).at_=(a:Int)∧a≤(aC it).length∧(aC it).drop a=aC o∧k≤it.length∧o.map It.t=(it.map It.t).drop k∧Good o []∧(∀new,Good (o++new) []→Good (it++new) []):=by
  obtain⟨pre,x,ue,e1,e2,e3,e4⟩:=hs (st.length-4) (by omega);subst e1;have DT:=(FX pre (x::ue) []).1 hg;refine⟨pre.length,(aC pre).length+(dz x.sep).length,⟨false,x.w,x.t⟩::ue,e2,e3,?_,?_,?_,?_,a2s DT.2,λnew hn=>?_⟩
  · rw[rc,bB];show _≤_+(dz x.sep++(x.w++aC ue)).length;rw[bB];omega
  · rw[rc,←List.drop_drop,List.drop_left];show(dz x.sep++(x.w++aC ue)).drop _=_;rw[List.drop_left];rfl
  · rw[bB];omega
  · rw[List.map_append,show pre.length=(pre.map It.t).length from(List.length_map ..).symm,List.drop_left];rfl
  · have KS:Good ((x::ue)++new) []:=ah4 hn;rw[c7];refine(FX pre _ []).2 ⟨?_,KS⟩;have h5:=a2r (x::ue) [] DT.2;rw[List.append_nil,rc];have hp:=DT.1;rw[List.append_nil]at hp;refine Om pre _ _ (Or.inl ?_) (Or.inl (Od DT.2.1)) hp;rw[aZ]at h5;omega
theorem a2t(s:J)(k:Nat):(ax s).drop k=ax (s.drop k):=by unfold ax;rw[List.map_drop]
theorem ah7{it:List It}{st:List lM}(h:On it st)(x:It)(new:List It):On (it++x::new) (st++[⟨(it.length:Int),(((aC it).length+(dz x.sep).length:Nat):Int)⟩]):=by
  intro n hn;rw[bB,aZ,bW]at hn;by_cases h1:n<st.length
  · obtain⟨pre,y,ue,e1,e2,e3,e4⟩:=h n h1;refine⟨pre,y,ue++x::new,by rw[e1,c7];rfl,?_,?_,?_⟩
    · rw[List.getElem_append_left h1];exact e2
    · rw[List.getElem_append_left h1];exact e3
    · simp only[bB,aZ,bW];omega
  · have kD:n=st.length:=by omega
    subst kD;refine⟨it,x,new,rfl,?_,?_,?_⟩
    · simp
    · simp
    · simp only[bB,aZ,bW];omega
theorem FY{α:Type}(l:List α)(i j:Nat):dD l (i:Int) (j:Int)=(l.drop i).take (j-i):=by
  unfold dD;rw[Int.toNat_natCast,Int.toNat_natCast]
theorem w9{α:Type}(l:List α)(i:Nat):dD l (i:Int) (ln l)=l.drop i:=by
  unfold ln;rw[FY,List.take_of_length_le (by rw[List.length_drop];omega)]
theorem ah8{s:J}{j k:Nat}(h:fq 30000 s (j:Int)=some (k:Int))(hj:j≤s.length):∃z:Nat,fq 30000 s (j:Int)=some (z:Int)∧(s.length<29000→j≤k)∧True:=by
  refine⟨k,h,λhs=>?_,trivial⟩;obtain⟨z,z1,z2,z3⟩:=CV s (by omega) 30000 j (by omega) hj;have h:tj 30000 s 30000 (j:Int)=some (k:Int):=h;rw[z1]at h;injection h with h;omega
theorem V8{s:J}(hs:s.length≤5000){i:Nat}{l:List aq}(h:iL s i l):l.length+i≤s.length:=by
  induction h with
  |nil=>simp
  |cons h1 h2 h3 h4 h5 h6 h7 ih=>
    obtain⟨z,z1,z2,z3⟩:=ah8 h5 h4;have:=z2 (by omega);rw[aZ];omega
theorem ah9(s:J)(h:4000<s.length):iG 30000 s=some ([],28):=by
  have hc:gU s=([],28):=by unfold gU;rw[if_pos (by unfold ln;omega)]
  unfold iG xi;rw[hc];rfl
def Wr(l:List aq)(r:Sum (J×Int) (List Int)):Prop:=r=.inl ([],28)∨∃Oo,r=.inr (ax (aC Oo))∧Good Oo []∧Oo.map It.t=l∧(aC Oo).length≤4000
theorem aha(l:List aq)(h:V5 l):∀(n kk i:Nat)(it:List It)(st:List lM),l.length-i≤n→n<kk→i≤l.length→Good it []→it.map It.t=l.take i→(aC it).length≤4000→On it st→st.length≤i→
    ∃r,vt 30000 l kk (ax (aC it)) st (i:Int)=some r∧Wr l r:=by
  have hll:=h.len;intro n
  induction n with
  |zero=>
    intro kk i it st hn hk hi hg hm hl hs iX;obtain⟨kk,rfl⟩:∃q,kk=q+1:=⟨kk-1,by omega⟩;rw[vt,eS (by omega),ae];refine⟨_,rfl,Or.inr ⟨it,rfl,hg,?_,hl⟩⟩;rw[hm,List.take_of_length_le (by omega)]
  |succ n ih=>
    intro kk i it st hn hk hi hg hm hl hs iX;obtain⟨kk,rfl⟩:∃q,kk=q+1:=⟨kk-1,by omega⟩;by_cases aM:i<l.length
    · rw[vt,dM aM,af,aL ⟨by omega,by unfold ln;omega,by omega⟩,w9,lt_eq];have V9:l.drop i=l[i]::l.drop (i+1):=gp aM;obtain⟨new,p,P⟩:=agY l h i _ _ V9;rw[←V9]at P;have hp1:=P.p1;have hp3:=P.p3;have Ge:=P.pq;rw[List.length_drop]at Ge;have ahb:it.length=i:=by
        have:=congrArg List.length hm;rw[List.length_map,List.length_take]at this;omega
      have hw:aa ((i:Int)+(p:Int))=((i+p:Nat):Int):=r7 (by omega);have SQ:((l.drop i).take p).length≤10:=by rw[List.length_take];omega
      have hqB:∀t∈(l.drop i).take p,CI t:=λt ht=>by
        obtain⟨a,b⟩:=h.fi t (List.mem_of_mem_drop (List.mem_of_mem_take ht));exact agT t a b
      rw[P.pe,ai,hw,aL ⟨by omega,by omega,by unfold ln;omega⟩,FY,show i+p-i=p from by omega,lt_eq];rw[show EW 30000 ((l.drop i).take p) 30000 [] 0=_ from agW _ hqB SQ 30000 0 [] (by omega) (dE _) (by decide),ai,fG,List.nil_append,dN aM,iq l i aM,lt_eq];have ahc:(cond (cond (l[i].ah==9) ((p:Int)==2) false) (some ([92,10]:List Int)) (some (ax (D6 ((l.drop i).take p)))))=some (ax (aC new)):=by
        rw[P.tx,show gi (l.drop i) 0=l[i]from by rw[V9];rfl];cases cond (l[i].ah==9) ((p:Int)==2) false<;>rfl
      rw[ahc,ai]
      -- the window
      have ahd:∃(k a:Nat)(o:List It),cond (decide (0≤aa (ln st-4))) (aB (0≤aa (ln st-4)∧aa (ln st-4)<ln st)<|some ((gi st (aa (ln st-4))).xG,(gi st (aa (ln st-4))).at_)) (some (0,0))=some ((k:Int),(a:Int))∧a≤(aC it).length∧(aC it).drop a=aC o∧k≤it.length∧o.map It.t=(it.map It.t).drop k∧Good o []∧(∀new,Good (o++new) []→Good (it++new) []):=by
        by_cases h4:4≤st.length
        · have Va:aa (ln st-4)=((st.length-4:Nat):Int):=by unfold ln;rw[cT (by omega) (by omega)];omega
          obtain⟨k,a,o,e1,e2,e3⟩:=ah6 it hg st hs h4 (by omega);refine⟨k,a,o,?_,e3⟩;rw[Va,bC (by omega),af,dN (by omega),iq st _ (by omega),e1,e2]
        · have Va:aa (ln st-4)=((st.length:Nat):Int)-4:=by unfold ln;rw[cT (by omega) (by omega)]
          refine⟨0,0,it,?_,dE _,rfl,dE _,rfl,hg,λ_ h=>h⟩;rw[Va,bV (by omega),ae];rfl
      obtain⟨k,a,o,w1,w2,w3,w4,w5,w6,w7⟩:=ahd;rw[w1,ai];dsimp only;have oa:ln (ax (aC it))=((aC it).length:Int):=kP _;have hx:bD (dD (ax (aC it)) (a:Int) (ln (ax (aC it))))++bD (ax (aC new))=aC (o++new):=by
        rw[w9,a2t,ll,ll,w3,rc]
      have hnl:(aC new).length≤500000:=by
        rw[P.tx];have key:∀q:List aq,(∀t∈q,CI t)→(D6 q).length≤40030*q.length:=by
          intro q
          induction q with
          |nil=>intro _;exact dE _
          |cons t q ihq=>
            intro hq;have a1:=a2m t (hq t List.mem_cons_self);have a2:=ihq λy hy=>hq y (List.mem_cons_of_mem _ hy);show(fv t++D6 q).length≤_;rw[bB,aZ];omega
        have:=key _ hqB;cases cond ((gi (l.drop i) 0).ah==9) ((p:Int)==2) false with
        |true=>show([92,10]:J).length≤_;decide
        |false=>rw[ae];omega
      have pb:(aC (o++new)).length≤600000:=by
        rw[rc,bB,←w3,List.length_drop];omega
      rw[aL ⟨by omega,by rw[oa];omega,by omega⟩,aL (by rw[w9,a2t,ll,ll];unfold ln;rw[List.length_drop];omega),lt_eq,hx]
      -- the next items, whatever is put between
      have fin:∀(x:It)(xs:List It),(x::xs).map It.t=(l.drop i).take p→(x.w++aC xs).length≤600000→Good (it++x::xs) []→∀FZ eV:List Int,FZ=ax (aC it++dz x.sep)→eV=ax (x.w++aC xs)→
          ∃r,(aB (ln st+ln ([lM.mk (i:Int) (ln FZ)]:List lM)≤1099511627776)<|
            lt (st++([lM.mk (i:Int) (ln FZ)]:List lM)) λEX=>
            aB (ln FZ+ln eV≤1099511627776)<|
            lt (FZ++eV) λxH=>
            cond (decide (4000<ln xH)) (
            some (.inl ([],28))) (
            vt 30000 l kk xH EX ((i+p:Nat):Int)))=some r∧Wr l r:=by
        intro x xs Pu Dw hgx FZ eV ho hz;subst ho hz;have hio:ax (aC it++dz x.sep)++ax (x.w++aC xs)=ax (aC (it++x::xs)):=by
          rw[←jn,rc,c7];rfl
        have jE:=ah7 hs x xs;have yz:ln (ax (aC it++dz x.sep))=(((aC it).length+(dz x.sep).length:Nat):Int):=by rw[kP,bB]
        have ajY:(dz x.sep).length≤4:=by cases x.sep<;>decide
        rw[aL (by unfold ln;simp only[aZ,bW];omega),lt_eq,aL (by rw[yz,kP];omega),lt_eq,hio,yz];rw[ahb]at jE;by_cases ajZ:4000<(aC (it++x::xs)).length
        · rw[bC (by rw[kP];omega),af];exact⟨_,rfl,Or.inl rfl⟩
        · rw[bV (by rw[kP];omega),ae];refine ih kk (i+p) (it++x::xs) _ (by omega) (by omega) (by omega) hgx ?_ (by omega) jE (by rw[bB,aZ,bW];omega);rw[List.map_append,hm,Pu,←List.take_add]
      obtain⟨x,xs,b0,q0,Ke,nY,hxi,_⟩:=D0 P.np;have hgn:=P.gd;have CC:=P.mp;have D5:aC new=x.w++aC xs:=by
        rw[Ke];show dz x.sep++(x.w++aC xs)=_;rw[nY];rfl
      have a2u:(x.w++aC xs).length≤600000:=by rw[←D5];omega
      have a2v:=fin ⟨true,x.w,x.t⟩ xs (by rw[←CC,Ke];rfl) a2u (by
        refine(FX it _ []).2 ⟨?_,a2s (by rw[←Ke];exact hgn)⟩;obtain⟨u1,u2⟩:=ah5 ⟨true,x.w,x.t⟩ xs rfl;rw[List.append_nil];exact Om it [] _ (Or.inr u1) (Or.inr u2) hg) (ax (aC it)++ax [47,42,42,47]) (ax (aC new)) (by rw[←jn];rfl) (by rw[D5])
      have Dp:ln (ax (aC it))+ln [47,42,42,47]≤1099511627776:=by rw[oa];show _+4≤_;omega
      have uo:ee (aC (o++new))=false:=by
        rw[rc,lT,Kd o [] w6,Kd new [] hgn];rfl
      obtain⟨⟨tl,tc⟩,ht⟩:=agO (aC (o++new)) (by
        by_cases ak0:4000<(aC (o++new)).length
        · have:gU (aC (o++new))=([],28):=by unfold gU;rw[if_pos (by unfold ln;omega)]
          rw[this];simp
        · rw[FT _ (by omega),FR _ uo];show(aC (o++new)).length≤4000;omega)
      rw[ht,ai];dsimp only;cases rD:tc !=0 with
      |true=>
        rw[lt_eq,af,ai,af,aL Dp,lt_eq,ai];exact a2v
      |false=>
        have htc:tc=0:=by simpa using rD
        subst htc;have Pt:(aC (o++new)).length≤4000:=by
          rcases Nat.lt_or_ge 4000 (aC (o++new)).length with hb|hb
          · rw[ah9 _ hb]at ht;injection ht with ht;injection ht with _ ht;cases ht
          · exact hb
        obtain⟨k0,c1,c2,c3⟩:=agd _ Pt uo tl ht;have Uv:=V8 (by omega) c3;obtain⟨rb,rb1,rb2⟩:=agQ tl ((l.drop k).take (i+p-k)) (by omega) (by rw[List.length_take,List.length_drop];omega);rw[lt_eq,ae,aL ⟨by omega,by omega,by unfold ln;omega⟩,FY,lt_eq,rb1,ai,ai];cases rb with
        |false=>
          rw[j8,af,aL Dp,lt_eq,ai];exact a2v
        |true=>
          rw[dK,ae,ai];have ahe:=rb2.1 rfl;have ahf:(o++new).map It.t=tl:=by
            rw[List.map_append,w5,hm,CC,ahe,List.drop_take,show l.drop i=(l.drop k).drop (i-k)from by rw[List.drop_drop,show k+(i-k)=i from by omega],←List.take_add,show i-k+p=i+p-k from by omega]
          have ux:=window (aC (o++new)) (by omega) new P.np o.length o 0 (cF _) w6 (dE _) rfl k0 c1 (by rw[ahf];exact c3);exact fin x xs (by rw[←CC,Ke]) a2u (by rw[←Ke];exact w7 new ux) (ax (aC it)) (ax (aC new)) (by rw[nY];show _=ax (aC it++[]);rw[List.append_nil]) (by rw[D5])
    · rw[vt,eS (by omega),ae];refine⟨_,rfl,Or.inr ⟨it,rfl,hg,?_,hl⟩⟩;rw[hm,List.take_of_length_le (by omega)]
end Go.Proofs.YtpobihiejncdgaaGreatDoor
namespace Go.Proofs.YtpobihiejncdgaaGreatDoor
open Go Go.V Go.RowKit
theorem yn{α:Type}[Inhabited α]{l:List α}{i:Nat}(h:i<l.length):gi l (i:Int)∈l:=by rw[iq l i h];exact List.getElem_mem h
theorem Vb(s:J):(ax s).length=s.length:=by simp[ax]
theorem a2w(s:J)(hs:s.length≤20000):∃r,qG 30000 s=some r∧xO 30000 s=some r:=by
 obtain⟨l,h1,h2⟩:=a0P 30000 s (by omega) 30000 0 (ax s) (by omega) (by omega) (Vb s) (a0Q s);unfold qG xO;rw[show xd 30000 s 30000 0 (ax s)=_ from h1,show Ck 30000 s 30000 0 (ax s)=_ from h2];exact⟨_,rfl,rfl⟩
def lw(s:J):J:=(qG 30000 s).getD []
theorem Kf(s:J)(hs:s.length≤20000):qG 30000 s=some (lw s):=by
 obtain⟨r,h,_⟩:=a2w s hs;unfold lw;rw[h];rfl
theorem a2x(s:J)(hs:s.length≤20000):xO 30000 s=some (lw s):=by
 obtain⟨r,h,h2⟩:=a2w s hs;unfold lw;rw[h,h2];rfl
theorem Vc(a b:J)(ha:a.length≤20000)(hb:b.length≤20000):rS 30000 a b=some (lw a==lw b):=by
 unfold rS;rw[Kf a ha,Kf b hb];rfl
theorem ahg(a b:J)(ha:a.length≤20000)(hb:b.length≤20000):tU 30000 a b=some (lw a==lw b):=by
 unfold tU;rw[a2x a ha,a2x b hb];rfl
def zb(s:J):Bool:=s.any λb=>b==0
theorem Vd:∀s:J,Lib.indexByte s 0=-1∧zb s=false∨0≤Lib.indexByte s 0∧zb s=true
 |[]=>Or.inl ⟨rfl,rfl⟩
 |b::s=>by
  unfold zb Lib.indexByte;rw[List.any_cons];cases hb:(b==0)
  ·rw[if_neg (by simp),gr];rcases Vd s with⟨h,h2⟩|⟨h,h2⟩
   ·rw[h];exact Or.inl ⟨rfl,h2⟩
   ·rw[if_neg (by simpa using λe:Lib.indexByte s 0=-1=>by omega)];exact Or.inr ⟨by omega,h2⟩
  ·rw[if_pos rfl,Bool.true_or];exact Or.inr ⟨by omega,rfl⟩
theorem a2y(s:J):decide (0≤strings_IndexByte s 0)=zb s:=by
 show decide (0≤Lib.indexByte s 0)=zb s;rcases Vd s with⟨h,h2⟩|⟨h,h2⟩
 ·rw[h,h2];rfl
 ·rw[h2];exact bC h
theorem a2z(s:J):decide (strings_IndexByte s 0<0)=!(zb s):=by
 show decide (Lib.indexByte s 0<0)=!(zb s);rcases Vd s with⟨h,h2⟩|⟨h,h2⟩
 ·rw[h,h2];rfl
 ·rw[h2];exact bV (by omega)
theorem a2A(a b:J):zb (a++b)=(zb a||zb b):=by unfold zb;rw[List.any_append]
theorem ahh{ρ:Type}(F:Nat→Int→Option ρ)(s:J)(hit G0:Option ρ)(hF:∀(kk i:Nat),i<s.length→F (kk+1) (i:Int)=cond (aI s (i:Int)==0) hit (F kk ((i+1:Nat):Int)))(hE:∀kk (i:Nat),s.length≤i→F (kk+1) (i:Int)=G0):
  ∀(kk i:Nat),s.length-i<kk→F kk (i:Int)=cond (zb (s.drop i)) hit G0:=by
 intro kk
 induction kk with
 |zero=>intro i h;omega
 |succ kk ih=>
  intro i h;by_cases h1:i<s.length
  ·rw[hF kk i h1,ih (i+1) (by omega),gp h1,wT s i h1];unfold zb;rw[List.any_cons];have e:(((s[i].toNat:Nat):Int)==0)=(s[i]==0):=by
    cases h0:(s[i]==0)
    ·refine bE.2 λhh=>?_;have:s[i].toNat=0:=by omega
     have:s[i]=0:=UInt8.toNat_inj.1 this;rw[this]at h0;cases h0
    ·rw[eq_of_beq h0];rfl
   rw[e];cases(s[i]==0)<;>rfl
  ·rw[hE kk i (by omega),fF (by omega)];rfl
theorem ahi{ρ:Type}(F:Nat→Int→Option ρ)(s:J)(hit G0:Option ρ)(hl:s.length≤20000)(hF:∀(kk i:Nat),i<s.length→F (kk+1) (i:Int)=cond (aI s (i:Int)==0) hit (F kk ((i+1:Nat):Int)))(hE:∀kk (i:Nat),s.length≤i→F (kk+1) (i:Int)=G0):
  F 30000 0=cond (zb s) hit G0:=ahh F s hit G0 hF hE 30000 0 (by omega)
theorem ahj(s:J)(hs:s.length≤20000):Fh 30000 s 30000 0=cond (zb s) (some (.inl false)) (some (.inr ())):=
 ahi _ s _ _ hs (λkk i h=>by rw[Fh,dM h,af,dN h,br (by omega)]) (λkk i h=>by rw[Fh,eS h];rfl)
theorem a2B(s:J)(hs:s.length≤20000):zN 30000 s=some (!(zb s)):=by
 unfold zN;rw[ahj s hs];cases zb s<;>rfl
def kR(s:J):Bool:=cond (decide (2≤ln s)) (sub s 0 2==[45,45]) false
theorem Oq(s:J):strings_HasPrefix s [45,45]=some (kR s):=by
 unfold strings_HasPrefix stringslite_HasPrefix kR;rw[show ln ([45,45]:J)=2 from rfl,aL (λh=>⟨by omega,gS h⟩)];rfl
theorem ahk(s:J)(h:kR s=true):(!(s==[45,45]))=decide (2<ln s):=by
 unfold kR at h;cases h2:decide (2≤ln s)
 ·rw[h2]at h;cases h
 ·rw[h2,af]at h;have h3:2≤ln s:=gS h2;by_cases h4:2<ln s
  ·rw[bC h4];rw[Bool.not_eq_true',bE];intro e;rw[e]at h4;exact absurd h4 (by decide)
  ·rw[bV h4];have hl:s.length=2:=by unfold ln at h3 h4;omega
   have e:s=[45,45]:=by
    have h5:sub s 0 2=[45,45]:=eq_of_beq h;have h6:sub s 0 2=s:=by
     unfold sub;show(s.drop 0).take 2=s;rw[fG,List.take_of_length_le (by omega)]
    rw[h6]at h5;exact h5
   rw[e];rfl
def G1(s:J):Bool:=!(cond (cond (s==[]) true (decide (64<ln s))) true (zb s))&&cond (kR s) (decide (2<ln s)) (s==lw s)
theorem ahl(s:J)(hs:s.length≤20000):Ib 30000 s=some (G1 s):=by
 unfold Ib G1;rw[lt_eq,lt_eq,a2y,Oq,ai,Kf s hs,ai];cases(cond (cond (s==[]) true (decide (64<ln s))) true (zb s))
 ·rw[ae,j8,E3];cases hc:kR s
  ·rfl
  ·rw[af,af,ahk s hc]
 ·rfl
def tz(t:aq):Nat:=t.az.length+t.Unit.length
def yo(T:J):Option Bool:=
 aB (true=true→0≤(0:Int)∧(0:Int)<ln T)<|
 lt (cond true (!(fa (aI T 0))) false) λjI=>
 Option.bind (cond (cond jI true (T==[45])) (strings_Contains [32,9,10,12,13,34,39,58,59,44,91,93,40,41,123,125] T) (some default)) λqD=>
 lt (cond (cond jI true (T==[45])) (!qD) false) λIc=>
 some Ic
theorem ahm:((List.range 256).all λn=>match yo [UInt8.ofNat n],Cm 30000 (aI [UInt8.ofNat n] 0)with|some a,some b=>(n==0&&b==false)||a==b|_,_=>false)=true:=by kernel_rfl
theorem ahn(c:UInt8):∃a b,yo [c]=some a∧Cm 30000 (aI [c] 0)=some b∧(c=0∧b=false∨a=b):=by
 have h:=lj ahm (n:=c.toNat) c.toNat_lt;rw[UInt8.ofNat_toNat]at h
 revert h
 cases h1:yo [c]with
 |none=>intro h;cases h
 |some a=>
  cases h2:Cm 30000 (aI [c] 0)with
  |none=>intro h;cases h
  |some b=>
   intro h;refine⟨a,b,rfl,rfl,?_⟩;have h:(c.toNat==0&&b==false||a==b)=true:=h;cases rn:(a==b)
   ·rw[rn,Bool.or_false,Bool.and_eq_true]at h;have:c.toNat=0:=eq_of_beq h.1;exact Or.inl ⟨UInt8.toNat_inj.1 this,eq_of_beq h.2⟩
   ·exact Or.inr (eq_of_beq rn)
theorem aho(s:J):stringslite_HasPrefix s [45]=some (cond (decide (1≤ln s)) (sub s 0 1==[45]) false):=by
 unfold stringslite_HasPrefix;rw[show ln ([45]:J)=1 from rfl,aL (λh=>⟨by omega,gS h⟩)];rfl
theorem ahp(T:J)(h:(T==[])=false):∃nb b,xo T=some nb∧Ja T=some b∧cond (cond nb (!(kR T)) false) true (T==[45])=b:=by
 unfold xo Ja strings_TrimPrefix stringslite_TrimPrefix;rw[aho,ai,h,ae];cases T with
 |nil=>cases h
 |cons c r=>
  have hl:(1:Int)≤ln (c::r):=by unfold ln;rw[aZ];omega
  have h0:0≤(0:Int)∧(0:Int)<ln (c::r):=⟨by omega,by omega⟩;rw[bC hl,af,aL h0,lt_eq];have e1:(sub (c::r) 0 1==[45])=(c==45):=by
   show([c]==[45])=_;cases hc:(c==45)
   ·exact bE.2 λe=>by rw[List.cons.inj e|>.1]at hc;cases hc
   ·rw[eq_of_beq hc];rfl
  have e2:(aI (c::r) 0==45)=(c==45):=by
   show(((c.toNat:Nat):Int)==45)=_;cases hc:(c==45)
   ·refine bE.2 λe=>?_;have:c.toNat=45:=by omega
    have:c=45:=UInt8.toNat_inj.1 this;rw[this]at hc;cases hc
   ·rw[eq_of_beq hc];rfl
  rw[e1,e2];cases hc:(c==45)
  ·have ne:((c::r)==([45]:J))=false:=bE.2 λe=>by rw[List.cons.inj e|>.1]at hc;cases hc
   have nc:kR (c::r)=false:=by
    unfold kR;cases r with
    |nil=>rfl
    |cons d r=>
     rw[bC (by unfold ln;simp only[aZ];omega),af];show([c,d]==[45,45])=false;exact bE.2 λe=>by rw[List.cons.inj e|>.1]at hc;cases hc
   rw[ae,ai,ai,show((c::r)==([]:J))=false from rfl,aL (λ_=>h0),lt_eq,ne,nc,aL (λh=>by cases h),lt_eq];refine⟨_,_,rfl,rfl,?_⟩;show cond (cond (fg (aI (c::r) 0)) true false) true false=cond (cond (ju (aI (c::r) 0)) true false) true (cond false _ false);show cond (cond (fg (aI (c::r) 0)) true false) true false=cond (cond (fg (aI (c::r) 0)) true false) true false;rfl
  ·have ec:c=45:=eq_of_beq hc;subst ec;rw[af,aL ⟨by show(0:Int)≤1;omega,by show(1:Int)≤_;exact hl⟩,ai,ai];cases r with
   |nil=>exact⟨_,_,rfl,rfl,rfl⟩
   |cons d r=>
    have e3:sub (45::d::r) (ln ([45]:J)) (ln (45::d::r))=d::r:=by
     unfold sub;show((45::d::r).drop 1).take ((ln (45::d::r)).toNat-1)=d::r;rw[List.drop_succ_cons,fG,List.take_of_length_le];unfold ln;simp only[aZ];omega
    rw[e3,show((d::r)==([]:J))=false from rfl,aL (λ_=>⟨by omega,by unfold ln;simp only[aZ];omega⟩),lt_eq];rw[show((45::d::r)==([45]:J))=false from rfl,aL (λ_ _=>⟨by omega,by unfold ln;simp only[aZ];omega⟩),lt_eq];refine⟨_,_,rfl,rfl,?_⟩;have e4:ju (aI (45::d::r) 0)=false:=rfl;have e5:kR (45::d::r)=(d==45):=by
     unfold kR;rw[bC (by unfold ln;simp only[aZ];omega),af];show([45,d]==[45,45])=_;cases hd:(d==45)
     ·exact bE.2 λe=>by rw[List.cons.inj (List.cons.inj e).2|>.1]at hd;cases hd
     ·rw[eq_of_beq hd];rfl
    rw[e4,e5];show cond (cond (fg (aI (d::r) 0)) (!(d==45)) false) true false=cond (cond false true false) true (ju (aI (d::r) 0));cases hd:(d==45)
    ·show cond (cond (fg (aI (d::r) 0)) true false) true false=fg (aI (d::r) 0);cases fg (aI (d::r) 0)<;>rfl
    ·rw[eq_of_beq hd];rfl
theorem ahq(k:Int):(k==k)=true:=by simp
theorem a2C(t:aq)(h:tz t≤20000):∃b,s7 t=some b∧Fw 30000 t=some b:=by
 obtain⟨K,T,n,U,f⟩:=t;have hT:T.length≤20000:=by unfold tz at h;simp only at h;omega
 have hU:U.length≤20000:=by unfold tz at h;simp only at h;omega
 have hTU:T.length+U.length≤20000:=h;unfold s7 Fw;simp only[lt_eq];rw[aL (by unfold ln;omega)];simp only[a2z,a2A,a2B T hT,a2B U hU,ahq,E3,B9];have zT:(T==[])=true→zb T=false:=λe=>by rw[eq_of_beq e];rfl
 have zU:(U==[])=true→zb U=false:=λe=>by rw[eq_of_beq e];rfl
 generalize zb U=b2 at*;by_cases k1:K=1∨K=2∨K=3
 ·have e:((cond (K==1) (some (K==1)) (cond (K==2) (some (K==2)) (some (K==3)))):Option Bool)=some true:=by rcases k1 with rfl|rfl|rfl<;>rfl
  rw[e];generalize zb T=b1 at*;cases oV:(T==[])<;>cases kS:(U==[])<;>cases hN:(n==0)<;>cases f<;>cases b1<;>cases b2<;>first|exact⟨_,rfl,rfl⟩|exact absurd (zT oV) (by decide)|exact absurd (zU kS) (by decide)
 by_cases k4:K=4
 ·subst k4;simp only[Int.reduceBEq,ae,af,ai];cases oV:(T==[])
  ·obtain⟨nb,b,h1,h2,h3⟩:=ahp T oV;rw[h1,h2,Oq,←h3];generalize zb T=b1 at*;generalize kR T=cu at*;generalize(T==[45])=t5 at*;cases kS:(U==[])<;>cases hN:(n==0)<;>cases f<;>cases b1<;>cases b2<;>cases nb<;>cases cu<;>cases t5<;>first|exact⟨_,rfl,rfl⟩|exact absurd (zU kS) (by decide)
  ·have hz:=zT oV;have hT1:T=[]:=eq_of_beq oV;subst hT1;rw[hz];cases kS:(U==[])<;>cases hN:(n==0)<;>cases f<;>cases b2<;>first|exact⟨_,rfl,rfl⟩|exact absurd (zU kS) (by decide)
 by_cases k5:K=5∨K=7
 ·generalize zb T=b1 at*;rcases k5 with rfl|rfl
  ·simp only[Int.reduceBEq,ae,af,ai];cases oV:(T==[])<;>cases kS:(U==[])<;>cases hN:(n==0)<;>cases f<;>cases b1<;>cases b2<;>first|exact⟨_,rfl,rfl⟩|exact absurd (zT oV) (by decide)|exact absurd (zU kS) (by decide)
  simp only[Int.reduceBEq,ae,af,ai];cases oV:(T==[])<;>cases kS:(U==[])<;>cases hN:(n==0)<;>cases f<;>cases b1<;>cases b2<;>first|exact⟨_,rfl,rfl⟩|exact absurd (zT oV) (by decide)|exact absurd (zU kS) (by decide)
 by_cases k9:K=9
 ·subst k9;simp only[Int.reduceBEq,ae,af,ai];by_cases hl:T.length=1
  ·obtain⟨c,rfl⟩:∃c,T=[c]:=by
    match T,hl with
    |[c],_=>exact⟨c,rfl⟩
   obtain⟨a,b,h1,h2,h3⟩:=ahn c;have h0:0≤(0:Int)∧(0:Int)<ln [c]:=⟨by omega,by show(0:Int)<1;omega⟩;have hz:zb [c]=(c==0):=by unfold zb;simp
   unfold yo at h1;simp only[lt_eq]at h1;rw[aL (λ_=>h0)]at h1;rw[h2,hz,show(ln [c]==1)=true from rfl,aL (λ_=>h0),aL (λ_=>h0)];have u9:(c==0)=true→([c]==([45]:J))=false:=λe=>by rw[eq_of_beq e];rfl
   have hb:(c==0)=true→b=false∨a=b:=λe=>by
    rcases h3 with h3|h3
    ·exact Or.inl h3.2
    ·exact Or.inr h3
   have DV:(c==0)=true→b=false:=λe=>by
    have hc:c=0:=eq_of_beq e;have hh:(Cm 30000 (aI [(0:UInt8)] 0))=some false:=by kernel_rfl
    rw[hc]at h2;rw[h2]at hh;exact Option.some.inj hh
   have iD:(c==0)=false→a=b:=λe=>by
    rcases h3 with h3|h3
    ·rw[h3.1]at e;cases e
    ·exact h3
   generalize strings_Contains [32,9,10,12,13,34,39,58,59,44,91,93,40,41,123,125] [c]=C at*;generalize([c]==([45]:J))=p at*;generalize(!(fa (aI [c] 0)))=nm at*;generalize(c==0)=z at*;cases z
   ·obtain rfl:=iD rfl;cases C with
    |none=>
     cases nm<;>cases p<;>first|(cases h1;done)|(obtain rfl:=Option.some.inj h1;cases kS:(U==[])<;>cases hN:(n==0)<;>cases f<;>cases b2<;>first|exact⟨_,rfl,rfl⟩|exact absurd (zU kS) (by decide))
    |some y=>
     have h1:some (cond (cond (cond true nm false) true p) (!y) false)=some a:=by rw[←h1];cases nm<;>cases p<;>rfl
     obtain rfl:=Option.some.inj h1;cases nm<;>cases p<;>cases y<;>cases kS:(U==[])<;>cases hN:(n==0)<;>cases f<;>cases b2<;>first|exact⟨_,rfl,rfl⟩|exact absurd (zU kS) (by decide)
   ·obtain rfl:=DV rfl;obtain rfl:=u9 rfl;cases nm<;>cases kS:(U==[])<;>cases hN:(n==0)<;>cases f<;>cases b2<;>first|exact⟨_,rfl,rfl⟩|exact absurd (zU kS) (by decide)
  ·have e1:(ln T==1)=false:=bE.2 λe=>hl (by unfold ln at e;omega);have e2:(T==([45]:J))=false:=bE.2 λe=>hl (by rw[e];rfl);rw[e1,e2];have e3:cond (!(zb T||b2)) false false=false:=by cases(!(zb T||b2))<;>rfl
   rw[e3,aL (λh=>by cases h),aL (λh=>by cases h)];cases(U==[])<;>cases(n==0)<;>cases f<;>exact⟨_,rfl,rfl⟩
 by_cases G2:K=10∨K=11∨K=12
 ·generalize zb T=b1 at*;generalize(Int.tmod n 1000==0)=m1 at*;generalize decide (-1000000000000≤n)=r1 at*;generalize decide (n≤1000000000000)=r2 at*;rcases G2 with rfl|rfl|rfl
  ·simp only[Int.reduceBEq,show((10:Int) !=11)=true from rfl,ae,af,ai];cases oV:(T==[])<;>cases kS:(U==[])<;>cases f<;>cases b1<;>cases b2<;>first|exact absurd (zT oV) (by decide)|exact absurd (zU kS) (by decide)|(cases r1<;>cases r2<;>cases m1<;>exact⟨_,rfl,rfl⟩)
  ·simp only[Int.reduceBEq,show((11:Int) !=11)=false from rfl,ae,af,ai];cases oV:(T==[])<;>cases kS:(U==[])<;>cases f<;>cases b1<;>cases b2<;>first|exact absurd (zT oV) (by decide)|exact absurd (zU kS) (by decide)|(cases r1<;>cases r2<;>cases m1<;>exact⟨_,rfl,rfl⟩)
  simp only[Int.reduceBEq,show((12:Int) !=11)=true from rfl,ae,af,ai];cases oV:(T==[])<;>cases kS:(U==[])<;>cases f<;>cases b1<;>cases b2<;>first|exact absurd (zT oV) (by decide)|exact absurd (zU kS) (by decide)|(cases r1<;>cases r2<;>cases m1<;>exact⟨_,rfl,rfl⟩)
 by_cases k6:K=6∨K=8
 ·rcases k6 with rfl|rfl<;>exact⟨_,rfl,rfl⟩
 ·have e1:(K==1)=false:=bE.2 λe=>k1 (Or.inl e);have e2:(K==2)=false:=bE.2 λe=>k1 (Or.inr (Or.inl e));have e3:(K==3)=false:=bE.2 λe=>k1 (Or.inr (Or.inr e));have e4:(K==4)=false:=bE.2 k4;have e5:(K==5)=false:=bE.2 λe=>k5 (Or.inl e);have e7:(K==7)=false:=bE.2 λe=>k5 (Or.inr e);have e9:(K==9)=false:=bE.2 k9;have vm:(K==10)=false:=bE.2 λe=>G2 (Or.inl e);have vn:(K==11)=false:=bE.2 λe=>G2 (Or.inr (Or.inl e));have NO:(K==12)=false:=bE.2 λe=>G2 (Or.inr (Or.inr e));have e6:(K==6)=false:=bE.2 λe=>k6 (Or.inl e);have e8:(K==8)=false:=bE.2 λe=>k6 (Or.inr e);have ek:decide (1≤K)=decide (13≤K):=by
   by_cases hk:13≤K
   ·rw[bC hk,bC (by omega)]
   ·rw[bV hk];refine bV λh1=>?_;omega
  simp only[e1,e2,e3,e4,e5,e6,e7,e8,e9,vm,vn,NO,ae,ai,ek];generalize decide (13≤K)=r1;generalize decide (K≤24)=r2;cases r1<;>cases r2<;>cases(T==[])<;>cases(U==[])<;>cases(n==0)<;>cases f<;>exact⟨_,rfl,rfl⟩
def fin(t:aq):Bool:=(s7 t).getD false
theorem Ve(t:aq)(h:tz t≤20000):s7 t=some (fin t):=by obtain⟨b,h1,_⟩:=a2C t h;unfold fin;rw[h1];rfl
theorem ahr(t:aq)(h:tz t≤20000):Fw 30000 t=some (fin t):=by obtain⟨b,h1,h2⟩:=a2C t h;unfold fin;rw[h1,h2];rfl
def kd(l:List aq)(j:Nat)(k:Int):Bool:=cond (decide (j<l.length)) ((gi l (j:Int)).ah==k) false
theorem a2D{α:Type}[Inhabited α](l:List α)(i j:Nat):gi (l.drop i) (j:Int)=gi l ((i+j:Nat):Int):=by
 unfold gi;rw[Int.toNat_natCast,Int.toNat_natCast];simp[List.getD_eq_getElem?_getD,List.getElem?_drop]
theorem a2E(l:List aq)(i j:Nat)(k:Int):tJ (j:Int) k (l.drop i)=some (kd l (i+j) k):=by
 unfold tJ kd;rw[aL (λh=>⟨by omega,gS h⟩),lt_eq,a2D];have:decide ((j:Int)<ln (l.drop i))=decide (i+j<l.length):=by
  unfold ln;rw[List.length_drop];by_cases h:i+j<l.length
  ·rw[bC h,bC (by omega)]
  ·rw[bV h,bV (by omega)]
 rw[this]
def D8:J:=[117,114,108]
def wa(x:aq):Bool:=cond (x.ah==9) (x.az==[92]) false
def Kg(x:aq):Bool:=cond (x.ah==2) (lw x.az==lw D8) false
def D9(l:List aq)(i:Nat):Bool:=cond (wa (gi l (i:Int))) (!(kd l (i+1) 13)) (cond (Kg (gi l (i:Int))) (!(kd l (i+cond (kd l (i+1) 13) 2 1) 5)) false)
theorem a2F(l:List aq)(i:Nat)(hi:i<l.length)(hl:l.length≤20000)(ht:tz (gi l (i:Int))≤20000):∃n,tK 30000 (l.drop i)=some n∧(n==0)=D9 l i:=by
 unfold tK D9;have h0:0≤(0:Int)∧(0:Int)<ln (l.drop i):=⟨by omega,by unfold ln;rw[List.length_drop];omega⟩;have e0:gi (l.drop i) (0:Int)=gi l (i:Int):=a2D l i 0;have p1:=a2E l i 1;have p2:=a2E l i 2;have hT:(gi l (i:Int)).az.length≤20000:=by unfold tz at ht;omega
 rw[aL h0,lt_eq,e0,show(1:Int)=((1:Nat):Int)from rfl,p1 13,Vc _ _ hT (by decide)];unfold wa Kg;cases(cond ((gi l (i:Int)).ah==9) ((gi l (i:Int)).az==[92]) false)
 ·cases hk:((gi l (i:Int)).ah==2)
  ·exact⟨1,rfl,rfl⟩
  ·rw[ae,ae,af,ai,lt_eq,af,af];show∃n,cond (lw (gi l (i:Int)).az==lw D8) _ _=_∧_;cases(lw (gi l (i:Int)).az==lw D8)
   ·exact⟨_,rfl,rfl⟩
   ·rw[af,af,ai];cases kd l (i+1) 13
    ·rw[ae,ae,ai,p1 5,ai];cases kd l (i+1) 5
     ·exact⟨0,rfl,rfl⟩
     ·exact⟨_,rfl,by decide⟩
    ·rw[af,af,ai,show(2:Int)=((2:Nat):Int)from rfl,p2 5,ai];cases kd l (i+2) 5
     ·exact⟨0,rfl,rfl⟩
     ·exact⟨_,rfl,by decide⟩
 ·rw[af,af,ai];cases kd l (i+1) 13
  ·exact⟨0,rfl,rfl⟩
  ·exact⟨2,rfl,rfl⟩
theorem a2G(l:List aq)(hl:l.length≤20000)(ht:∀x∈l,tz x≤20000):∀(kk i:Nat),l.length-i<kk→∃b,xu 30000 l kk (i:Int)=some (cond b (.inl 8) (.inr ()))∧Fy 30000 l kk (i:Int)=some (cond b (.inl 8) (.inr ())):=by
 intro kk
 induction kk with
 |zero=>intro i h;omega
 |succ kk ih=>
  intro i h;rw[xu,Fy];by_cases h1:i<l.length
  ·have hm:=yn h1;have hx:=ht _ hm;have hT:(gi l (i:Int)).az.length≤20000:=by unfold tz at hx;omega
   obtain⟨b,iD,lX⟩:=ih (i+1) (by omega);have nx:dD l (i:Int) (ln l)=l.drop i:=by
    unfold dD;show(l.drop i).take (l.length-i)=l.drop i;rw[List.take_of_length_le (by rw[List.length_drop];omega)]
   obtain⟨n,jD,kD⟩:=a2F l i h1 hl hx;rw[dM h1,af,af,dN h1,dN h1,Ve _ hx,ahr _ hx,ai,ai,lt_eq];cases fin (gi l (i:Int))
   ·exact⟨true,rfl,rfl⟩
   ·rw[dK,ae,ae,aL ⟨by omega,by unfold ln;omega,Int.le_refl _⟩,lt_eq,nx,jD,ai,ai,kD,br (by omega),iD,lX];have e13:aB (decide (((i+1:Nat):Int)<ln l)=true→0≤((i+1:Nat):Int)∧((i+1:Nat):Int)<ln l)=λ(k:Option Int)=>k:=funext λk=>aL (λh=>⟨by omega,gS h⟩);have ek:∀k:Int,cond (decide (((i+1:Nat):Int)<ln l)) ((gi l ((i+1:Nat):Int)).ah==k) false=kd l (i+1) k:=λk=>by
     unfold kd;rw[show decide (((i+1:Nat):Int)<ln l)=decide (i+1<l.length)from by
      unfold ln;by_cases h:i+1<l.length
      ·rw[bC h,bC (by omega)]
      ·rw[bV h,bV (by omega)]]
    have eb:cond (((i+1:Nat):Int)==ln l) true ((gi l ((i+1:Nat):Int)).ah !=13)=!(kd l (i+1) 13):=by
     unfold kd;by_cases h:i+1<l.length
     ·rw[show(((i+1:Nat):Int)==ln l)=false from bE.2 (by unfold ln;omega),bC h];rfl
     ·rw[show(((i+1:Nat):Int)==ln l)=true from by rw[beq_iff_eq];unfold ln;omega,bV h];rfl
    have e5:∀j:Nat,cond (decide (ln l≤(j:Int))) true ((gi l (j:Int)).ah !=5)=!(kd l j 5):=λj=>by
     unfold kd;by_cases h:j<l.length
     ·rw[bC h,bV (by unfold ln;omega)];rfl
     ·rw[bV h,bC (by unfold ln;omega)];rfl
    have e42:cond ((gi l (i:Int)).ah==9) ((gi l (i:Int)).az==[92]) false=wa (gi l (i:Int)):=rfl;rw[e42,eb,ahg _ _ hT (by decide)];have lU:∀k:Option (Sum Int Unit),aB ((((i+1:Nat):Int)==ln l)=false→wa (gi l (i:Int))=true→0≤((i+1:Nat):Int)∧((i+1:Nat):Int)<ln l) k=k:=λk=>aL (λh _=>⟨by omega,by have:=bE.1 h;unfold ln at this⊢;omega⟩);have hz:Option.bind (aB (decide (((i+1:Nat):Int)<ln l)=true→0≤((i+1:Nat):Int)∧((i+1:Nat):Int)<ln l)<|
      lt (cond (decide (((i+1:Nat):Int)<ln l)) ((gi l ((i+1:Nat):Int)).ah==13) false) λNp=>
      cond Np (some (aa (((i+1:Nat):Int)+1))) (some ((i+1:Nat):Int))) (λ(oK:Int)=>
      aB (decide (ln l≤oK)=false→0≤oK∧oK<ln l)<|
      lt (cond (decide (ln l≤oK)) true ((gi l oK).ah !=5)) λzC=>
      cond zC (some (Sum.inl (Sum.inl 8))) (some (.inr ()):Option (Sum (Sum Int Unit) Unit)))=some (cond (!(kd l (i+cond (kd l (i+1) 13) 2 1) 5)) (.inl (.inl 8)) (.inr ())):=by
     rw[aL (λh=>⟨by omega,gS h⟩),lt_eq,ek,br (by omega)];cases kd l (i+1) 13
     ·rw[ae,ae,ai,aL (λh=>⟨by omega,by have:=of_decide_eq_false h;omega⟩),lt_eq,e5];cases(!(kd l (i+1) 5))<;>rfl
     ·rw[af,af,ai,aL (λh=>⟨by omega,by have:=of_decide_eq_false h;omega⟩),lt_eq,show i+1+1=i+2 from rfl,e5];cases(!(kd l (i+2) 5))<;>rfl
    rw[hz];unfold D9;have hbu:wa (gi l (i:Int))=true→((gi l (i:Int)).ah==2)=false:=λh=>by
     unfold wa at h;cases hk:((gi l (i:Int)).ah==9)
     ·rw[hk]at h;cases h
     ·rw[eq_of_beq hk];rfl
    simp only[lt_eq,lU];cases hb:wa (gi l (i:Int))
    ·unfold Kg;cases((gi l (i:Int)).ah==2)
     ·exact⟨b,rfl,rfl⟩
     ·simp only[af,ae,ai];show∃b',_=some (cond b' _ _)∧Option.bind (cond (lw (gi l (i:Int)).az==lw D8) _ _) _=_;cases(lw (gi l (i:Int)).az==lw D8)
      ·exact⟨b,rfl,rfl⟩
      ·cases kd l (i+cond (kd l (i+1) 13) 2 1) 5
       ·exact⟨true,rfl,rfl⟩
       ·exact⟨b,rfl,rfl⟩
    ·rw[hbu hb];cases kd l (i+1) 13
     ·exact⟨true,rfl,rfl⟩
     ·exact⟨b,rfl,rfl⟩
  ·rw[eS (by omega)];exact⟨false,rfl,rfl⟩
theorem Vf(l:List aq)(hl:l.length≤20000)(ht:∀x∈l,tz x≤20000):∃e,qL 30000 l=some e∧Co 30000 l=some e:=by
 unfold qL Co;by_cases h:1500<ln l
 ·rw[bC h];exact⟨4,rfl,rfl⟩
 ·rw[bV h,ae,ae];obtain⟨b,h1,h2⟩:=a2G l hl ht 30000 0 (by unfold ln at h;omega);rw[show xu 30000 l 30000 0=_ from h1,show Fy 30000 l 30000 0=_ from h2];cases b
  ·exact⟨0,rfl,rfl⟩
  ·exact⟨8,rfl,rfl⟩
end Go.Proofs.YtpobihiejncdgaaGreatDoor
namespace Go.Proofs.YtpobihiejncdgaaGreatDoor
open Go Go.V
theorem ahs(l:List aq)(hl:l.length≤20000)(ht:∀x∈l,tz x≤20000):∀(kk i:Nat),l.length-i<kk→xu 30000 l kk (i:Int)=some (.inr ())→∀j,i≤j→(hj:j<l.length)→fin l[j]=true∧D9 l j=false:=by
  intro kk
  induction kk with
  |zero=>intro i h;omega
  |succ kk ih=>
    intro i hk h j cY hj;have aM:i<l.length:=by omega
    have hm:l[i]∈l:=List.getElem_mem aM;obtain⟨n,n1,n2⟩:=a2F l i aM hl (by rw[iq l i aM];exact ht _ hm);rw[xu,dM aM,af,dN aM,iq l i aM,Ve _ (ht _ hm),ai,lt_eq,aL ⟨by omega,by unfold ln;omega,by omega⟩,w9,lt_eq,n1,ai,n2,br (by omega)]at h;cases hf:fin l[i]with
    |false=>rw[hf]at h;cases h
    |true=>
      rw[hf,dK,ae,ai]at h;cases hb:D9 l i with
      |true=>rw[hb]at h;cases h
      |false=>
        rw[hb,ae]at h;by_cases AR:j=i
        · subst AR;exact⟨hf,hb⟩
        · exact ih (i+1) (by omega) h j (by omega) hj
theorem aht(l:List aq)(hl:l.length≤20000)(ht:∀x∈l,tz x≤20000)(h:qL 30000 l=some 0):l.length≤1500∧∀j (hj:j<l.length),fin l[j]=true∧D9 l j=false:=by
  unfold qL at h;rcases gJ h with⟨_,h⟩|⟨h1,h⟩
  · injection h with h;cases h
  · obtain⟨a,ha,h⟩:=eQ h;have hlen:l.length≤1500:=by
      have:=of_decide_eq_false h1;unfold ln at this;omega
    cases a with
    |inl x=>
      obtain⟨b,b1,b2⟩:=a2G l hl ht 30000 0 (by omega);rw[show xu 30000 l 30000 0=_ from b1]at ha;cases b with
      |true=>
        injection ha with ha;injection ha with ha;rw[←ha]at h;injection h with h;cases h
      |false=>cases ha
    |inr u=>exact⟨hlen,λj hj=>ahs l hl ht 30000 0 (by omega) ha j (dE _) hj⟩
theorem G3{s:J}(h:zb s=false):∀c∈s,0<c.toNat:=by
  intro c hc;unfold zb at h;rw[List.any_eq_false]at h;have:=h c hc;rcases Nat.eq_zero_or_pos c.toNat with h0|h0
  · exfalso;apply this;rw[show c=0 from UInt8.toNat_inj.1 h0];rfl
  · exact h0
theorem ahu:((List.range 256).all λn=>match yo [UInt8.ofNat n]with
  |some a=>!a||(n==0||oT (UInt8.ofNat n))
  |none=>true)=true:=by kernel_rfl
theorem ahv(c:UInt8)(h0:(c==0)=false)(h:yo [c]=some true):oT c=true:=by
  have h1:=iw (p:=λn=>match yo [UInt8.ofNat n]with
    |some a=>!a||(n==0||oT (UInt8.ofNat n))
    |none=>true) ahu c
  rw[UInt8.ofNat_toNat,h]at h1;have h1:(!true||(c.toNat==0||oT c))=true:=h1;rw[dK,gr,Bool.or_eq_true,beq_iff_eq]at h1;rcases h1 with h1|h1
  · rw[show c=0 from UInt8.toNat_inj.1 h1]at h0;cases h0
  · exact h1
theorem uf{s:J}(h:(s==[])=true):s=[]:=eq_of_beq h
theorem Vg{s:J}(h:(s==[])=false):s≠[]:=bE.1 h
theorem a2H(n:Int)(h:(Int.tmod n 1000==0)=true):n.natAbs%1000=0:=by
  have h:=eq_of_beq h;have:=Int.natAbs_tmod n 1000;rw[h]at this;simpa using this.symm
theorem ahw(t:aq)(hz:tz t≤20000)(hf:fin t=true):Fi t:=by
  have h:=Ve t hz;rw[hf]at h;obtain⟨K,T,n,U,f⟩:=t;have hTU:T.length+U.length≤20000:=hz;unfold s7 at h;simp only[lt_eq]at h;rw[aL (by unfold ln;omega)]at h;simp only[a2z,a2A,a1a,a18]at h;generalize hU:(U==[])=uE at h;generalize hN:(n==0)=sG at h;generalize iD:zb T=b1 at h;generalize lX:zb U=b2 at h;by_cases k1:K=1∨K=2∨K=3
  · have e:((cond (K==1) (some (K==1)) (cond (K==2) (some (K==2)) (some (K==3)))):Option Bool)=some true:=by rcases k1 with rfl|rfl|rfl<;>rfl
    rw[e]at h;generalize hT:(T==[])=tE at h;cases tE<;>cases uE<;>cases sG<;>cases f<;>cases b1<;>cases b2<;>first|(cases h;done)|skip
    rw[uf hU,eq_of_beq hN];exact .nm K T k1 (Vg hT) (G3 iD)
  by_cases k4:K=4
  · subst k4;simp only[Int.reduceBEq,ae,af,ai]at h;generalize hT:(T==[])=tE at h;generalize uw:ub T=nb at h;generalize JH:Aa T=p2 at h;generalize ht5:(T==[45])=t5 at h;have key:tE=false∧b1=false∧uE=true∧sG=true∧(f=false→((nb&&!p2)||t5)=true):=by
      cases tE<;>cases uE<;>cases sG<;>cases f<;>cases b1<;>cases b2<;>cases nb<;>cases p2<;>cases t5<;>first|(cases h;done)|exact⟨rfl,rfl,rfl,rfl,λ_=>rfl⟩|exact⟨rfl,rfl,rfl,rfl,λh=>by cases h⟩
    obtain⟨a1,a2,a3,a4,a5⟩:=key;subst a1 a2 a3 a4;rw[uf hU,eq_of_beq hN];refine .hash T f (Vg hT) (G3 iD) λKh=>?_;unfold JX;rw[uw,JH,ht5];exact a5 Kh
  by_cases k5:K=5∨K=7
  · generalize hT:(T==[])=tE at h;have key:uE=true∧sG=true∧f=false∧b1=false:=by
      rcases k5 with rfl|rfl
      · simp only[Int.reduceBEq,ae,af,ai]at h;cases tE<;>cases uE<;>cases sG<;>cases f<;>cases b1<;>cases b2<;>first|(cases h;done)|exact⟨rfl,rfl,rfl,rfl⟩
      · simp only[Int.reduceBEq,ae,af,ai]at h;cases tE<;>cases uE<;>cases sG<;>cases f<;>cases b1<;>cases b2<;>first|(cases h;done)|exact⟨rfl,rfl,rfl,rfl⟩
    obtain⟨a1,a2,a3,a4⟩:=key;subst a1 a2 a3 a4;rw[uf hU,eq_of_beq hN];exact .st K T k5 (G3 iD)
  by_cases k9:K=9
  · subst k9;simp only[Int.reduceBEq,ae,af,ai]at h;by_cases hl:T.length=1
    · obtain⟨c,rfl⟩:∃c,T=[c]:=by
        match T,hl with
        |[c],_=>exact⟨c,rfl⟩
      have h0:0≤(0:Int)∧(0:Int)<ln [c]:=⟨by omega,by show(0:Int)<1;omega⟩;have hzc:zb [c]=(c==0):=by unfold zb;simp
      rw[show(ln [c]==1)=true from rfl,aL (λ_=>h0)]at h;rw[hzc]at iD;have key:uE=true∧sG=true∧f=false∧b1=false∧yo [c]=some true:=by
        have Ki:(([c]:J)==[45])=true→b1=false:=λe=>by
          rw[←iD];have:=eq_of_beq e;injection this with this;rw[this];rfl
        clear iD;unfold yo;simp only[lt_eq];rw[aL (λ_=>h0)];generalize strings_Contains [32,9,10,12,13,34,39,58,59,44,91,93,40,41,123,125] [c]=C at*;generalize([c]==([45]:J))=p at*;generalize(!(fa (aI [c] 0)))=nm at*;cases C with
        |none=>cases nm<;>cases p<;>cases b1<;>cases b2<;>cases uE<;>cases sG<;>cases f<;>first|(cases h;done)|exact⟨rfl,rfl,rfl,rfl,rfl⟩|(cases Ki rfl;done)
        |some y=>cases nm<;>cases p<;>cases y<;>cases b1<;>cases b2<;>cases uE<;>cases sG<;>cases f<;>first|(cases h;done)|exact⟨rfl,rfl,rfl,rfl,rfl⟩|(cases Ki rfl;done)
      obtain⟨a1,a2,a3,a4,a5⟩:=key;subst a1 a2 a3 a4;rw[uf hU,eq_of_beq hN];exact .del c (ahv c iD a5)
    · exfalso;have e1:(ln T==1)=false:=bE.2 λe=>hl (by unfold ln at e;omega);have e2:(T==([45]:J))=false:=bE.2 λe=>hl (by rw[e];rfl);rw[e1,e2]at h;have e3:cond (!(b1||b2)) false false=false:=by cases(!(b1||b2))<;>rfl
      rw[e3,aL (λh=>by cases h)]at h;cases uE<;>cases sG<;>cases f<;>(cases h;done)
  by_cases G2:K=10∨K=11∨K=12
  · generalize hT:(T==[])=tE at h;generalize vY:(Int.tmod n 1000==0)=m1 at h;generalize nh:decide (-1000000000000≤n)=r1 at h;generalize ur:decide (n≤1000000000000)=r2 at h;rcases G2 with rfl|rfl|rfl
    · simp only[Int.reduceBEq,ae,af,ai]at h;have key:tE=true∧uE=true∧r1=true∧r2=true∧(f=true→m1=true):=by
        cases tE<;>cases uE<;>cases f<;>cases b1<;>cases b2<;>cases m1<;>cases r1<;>cases r2<;>first|(cases h;done)|exact⟨rfl,rfl,rfl,rfl,λ_=>rfl⟩|exact⟨rfl,rfl,rfl,rfl,λh=>by cases h⟩
      obtain⟨a1,a2,a3,a4,a5⟩:=key;subst a1 a2 a3 a4;rw[uf hU,uf hT];exact .num n f (gS nh) (gS ur) λKh=>a2H n (by rw[vY];exact a5 Kh)
    · simp only[Int.reduceBEq,show((11:Int) !=11)=false from rfl,ae,af,ai]at h;have key:tE=true∧uE=true∧r1=true∧r2=true∧f=false:=by
        cases tE<;>cases uE<;>cases f<;>cases b1<;>cases b2<;>cases m1<;>cases r1<;>cases r2<;>first|(cases h;done)|exact⟨rfl,rfl,rfl,rfl,rfl⟩
      obtain⟨a1,a2,a3,a4,a5⟩:=key;subst a1 a2 a3 a4 a5;rw[uf hU,uf hT];exact .mw n (gS nh) (gS ur)
    · simp only[Int.reduceBEq,ae,af,ai]at h;have key:tE=true∧uE=false∧r1=true∧r2=true∧b2=false∧(f=true→m1=true):=by
        cases tE<;>cases uE<;>cases f<;>cases b1<;>cases b2<;>cases m1<;>cases r1<;>cases r2<;>first|(cases h;done)|exact⟨rfl,rfl,rfl,rfl,rfl,λ_=>rfl⟩|exact⟨rfl,rfl,rfl,rfl,rfl,λh=>by cases h⟩
      obtain⟨a1,a2,a3,a4,a5,a6⟩:=key;subst a1 a2 a3 a4 a5;rw[uf hT];exact .jZ n f U (gS nh) (gS ur) (λKh=>a2H n (by rw[vY];exact a6 Kh)) (Vg hU) (G3 lX)
  have ne:∀k,k=1∨k=2∨k=3∨k=4∨k=5∨k=7∨k=9∨k=10∨k=11∨k=12→(K==k)=false:=λk hk=>bE.2 (by omega);simp only[ne 1 (by omega),ne 2 (by omega),ne 3 (by omega),ne 4 (by omega),ne 5 (by omega),ne 7 (by omega),ne 9 (by omega),ne 10 (by omega),ne 11 (by omega),ne 12 (by omega),ae,ai]at h;generalize hT:(T==[])=tE at h;generalize nh:decide (13≤K)=r1 at h;generalize ur:decide (K≤24)=r2 at h;have key:tE=true∧uE=true∧sG=true∧f=false∧r1=true∧r2=true:=by
    cases tE<;>cases uE<;>cases sG<;>cases f<;>cases r1<;>cases r2<;>first|(cases h;done)|exact⟨rfl,rfl,rfl,rfl,rfl,rfl⟩
  obtain⟨a1,a2,a3,a4,a5,a6⟩:=key;subst a1 a2 a3 a4 a5 a6;rw[uf hT,uf hU,eq_of_beq hN];exact .mk K (gS nh) (gS ur)
theorem ahx(t:aq)(h:t.az.length≤20000):(lw t.az==lw D8)=jj t.az:=by
  have h1:=Vc t.az D8 h (by decide);have h2:=(Ur t.az h).2;have h1:rS 30000 t.az [117,114,108]=_:=h1;rw[h2]at h1;injection h1 with h1;exact h1.symm
theorem Ot{l:List aq}{j:Nat}{k:Int}(h:kd l j k=true):∃y r,l.drop j=y::r∧y.ah=k∧y∈l:=by
  unfold kd at h;by_cases hj:j<l.length
  · rw[bC hj,af,iq l j hj]at h;exact⟨l[j],l.drop (j+1),gp hj,eq_of_beq h,List.getElem_mem hj⟩
  · rw[bV hj]at h;cases h
theorem ahy(l:List aq)(hl:l.length≤20000)(ht:∀x∈l,tz x≤4500)(h:qL 30000 l=some 0):V5 l:=by
  obtain⟨h1,h2⟩:=aht l hl (λx hx=>by have:=ht x hx;omega) h;have oU:∀t∈l,Fi t:=by
    intro t hm;obtain⟨j,hj,rfl⟩:=List.getElem_of_mem hm;exact ahw _ (by have:=ht _ hm;omega) (h2 j hj).1
  refine⟨λt hm=>⟨oU t hm,?_⟩,λi t r hd=>?_,h1⟩
  · have:=ht t hm;unfold tz at this;exact⟨by omega,by omega⟩
  · have hi:i<l.length:=by
      rcases Nat.lt_or_ge i l.length with h|h
      · exact h
      · rw[fF h]at hd;cases hd
    have e:=gp hi;rw[hd]at e;injection e with e1 e2;have hb:=(h2 i hi).2;unfold D9 at hb;rw[iq l i hi,←e1]at hb;have hm:t∈l:=by rw[e1];exact List.getElem_mem hi
    constructor
    · intro Ag;subst Ag;rw[show wa Af=true from rfl,af,Bool.not_eq_false']at hb;obtain⟨y,r',k1,k2,k3⟩:=Ot hb;rw[a2o (oU y k3) k2]at k1;exact⟨r',by rw[e2,k1]⟩
    · intro hk hu;have Ag:wa t=false:=by unfold wa;rw[hk];rfl
      have hur:Kg t=true:=by
        unfold Kg;rw[hk,ahx t (by have:=ht t hm;unfold tz at this;omega),hu];rfl
      rw[Ag,ae,hur,af,Bool.not_eq_false']at hb;cases mZ:kd l (i+1) 13 with
      |false=>
        rw[mZ,ae]at hb;obtain⟨y,r',k1,k2,k3⟩:=Ot hb;exact Or.inl ⟨y,r',by rw[e2,k1],k2⟩
      |true=>
        rw[mZ,af]at hb;obtain⟨z,r1,j1,j2,j3⟩:=Ot mZ;obtain⟨y,r',k1,k2,k3⟩:=Ot hb;right;refine⟨y,r',?_,k2⟩;rw[e2,j1,a2o (oU z j3) j2];have:l.drop (i+2)=r1:=by
          rw[show i+2=(i+1)+1 from rfl,←List.drop_drop,j1];rfl
        rw[←this,k1]
structure oW(l:List aq)(it:List It):Prop where
  G4:Good it []
  Ou:it.map It.t=l
  len:(aC it).length≤4000
theorem ahz(l:List aq)(hl:l.length≤20000)(ht:∀x∈l,tz x≤4500):∃c,qL 30000 l=some c∧((c≠0∧C6 30000 l=some ([],c))∨(c=0∧(C6 30000 l=some ([],28)∨∃it,oW l it∧C6 30000 l=some (aC it,0)))):=by
  obtain⟨c,hc,_⟩:=Vf l hl (λx hx=>by have:=ht x hx;omega);refine⟨c,hc,?_⟩;unfold C6;rw[hc,ai];by_cases h0:c=0
  · right;subst h0;refine⟨rfl,?_⟩;have hk:=ahy l hl ht hc;have Ad:=hk.len;obtain⟨r,r1,r2⟩:=aha l hk l.length 30000 0 [] [] (by omega) (by omega) (dE _) trivial rfl (by decide) (λn h=>by cases h) (cF _);rw[show((0:Int) !=0)=false from rfl,ae,show vt 30000 l 30000 [] [] 0=_ from r1,ai];rcases r2 with rfl|⟨it,rfl,g1,g2,g3⟩
    · exact Or.inl rfl
    · right;refine⟨it,⟨g1,g2,g3⟩,?_⟩;rw[mU,ll]
  · left;refine⟨h0,?_⟩;rw[show(c !=0)=true from bne_iff_ne.2 h0,af]
theorem ahA(l:List aq)(it:List It)(h:oW l it)(hl:l.length≤1500):iG 30000 (aC it)=some (l,0):=by
  have h4:=h.len;obtain⟨k,k1,k2,k3⟩:=UL (aC it) (by omega) it.length it 0 (cF _) h.G4 (dE _) rfl;rw[h.Ou]at k3;exact UF (aC it) h4 (Kd it [] h.G4) k k1 l k3 hl
end Go.Proofs.YtpobihiejncdgaaGreatDoor
namespace Go.Proofs.YtpobihiejncdgaaGreatDoor
open Go Go.V Go.RowKit
def zT(x:aq):Nat:=6
mutual
def zV:al→Nat
  | .mk t l=>zT t+(cn l+1)+1
def cn:List al→Nat
  |[]=>0
  |v::r=>zV v+cn r
end
theorem oX(x:al):cn x.cx+6<zV x:=by
 obtain⟨t,l⟩:=x;simp only[zV,al.cx,zT];omega
theorem wb{x:al}:∀{l:List al},x∈l→zV x≤cn l
 |[],h=>by cases h
 |y::l,h=>by
  rcases List.mem_cons.1 h with rfl|h
  ·simp only[cn];omega
  ·have:=wb h;simp only[cn];omega
theorem ni:∀l:List al,l.length≤cn l
 |[]=>cF _
 |y::l=>by have:=ni l;have:=oX y;simp only[cn,aZ];omega
def cC(k:Int):Int:=su k
theorem Kj(k:Int):jL k=cC k:=by
 unfold jL cC su;simp only[lt_eq];by_cases h2:k=2
 ·subst h2;rfl
 by_cases Kk:k=19
 ·subst Kk;rfl
 by_cases Kl:k=21
 ·subst Kl;rfl
 by_cases Km:k=23
 ·subst Km;rfl
 have b2:(k==2)=false:=by simpa using h2
 have b19:(k==19)=false:=by simpa using Kk
 have b21:(k==21)=false:=by simpa using Kl
 have b23:(k==23)=false:=by simpa using Km
 rw[b2,b19,b21,b23];rfl
mutual
def Da:al→Nat
 | .mk t l=>cond (cC t.ah==0) 0 (1+dR l)
def dR:List al→Nat
 |[]=>0
 |v::r=>max (Da v) (dR r)
end
mutual
def Db:al→Nat
 | .mk t l=>cond (cC t.ah==0) 1 (1+dP l+1)
def dP:List al→Nat
 |[]=>0
 |v::r=>Db v+dP r
end
mutual
def Dc:Int→al→Bool
 |c,.mk t l=>cond (c !=0) (t.ah==c) false||cond (cC t.ah==0) (decide (0<ln l)) (eR (cC t.ah) l)
def eR:Int→List al→Bool
 |_,[]=>false
 |c,v::r=>Dc c v||eR c r
end
theorem G5(x:al):Da x=cond (cC x.aY.ah==0) 0 (1+dR x.cx):=by obtain⟨t,l⟩:=x;rw[Da];rfl
theorem yp(x:al):Db x=cond (cC x.aY.ah==0) 1 (1+dP x.cx+1):=by obtain⟨t,l⟩:=x;rw[Db];rfl
theorem G6(c:Int)(x:al):Dc c x=(cond (c !=0) (x.aY.ah==c) false||cond (cC x.aY.ah==0) (decide (0<ln x.cx)) (eR (cC x.aY.ah) x.cx)):=by obtain⟨t,l⟩:=x;rw[Dc];rfl
theorem ahB{l:List al}{i:Nat}(h:i<l.length):dR (l.drop i)=max (Da (gi l (i:Int))) (dR (l.drop (i+1))):=by
 rw[gp h,dR,iq l i h]
theorem Ov{l:List al}{i:Nat}(h:i<l.length):dP (l.drop i)=Db (gi l (i:Int))+dP (l.drop (i+1)):=by
 rw[gp h,dP,iq l i h]
theorem ahC(c:Int){l:List al}{i:Nat}(h:i<l.length):eR c (l.drop i)=(Dc c (gi l (i:Int))||eR c (l.drop (i+1))):=by
 rw[gp h,eR,iq l i h]
theorem Vh(n:Nat):∀v:List al,cn v≤n→dP v≤cn v∧dR v≤cn v:=by
 induction n with
 |zero=>
  intro v h;cases v with
  |nil=>exact⟨cF _,cF _⟩
  |cons x r=>have:=oX x;simp only[cn]at h;omega
 |succ n ih=>
  intro v
  induction v with
  |nil=>intro _;exact⟨cF _,cF _⟩
  |cons x r Vi=>
   intro h;have hk:=oX x;rw[cn]at h;have h1:=Vi (by omega);have h2:=ih x.cx (by omega);rw[dP,cn,dR,yp,G5];cases(cC x.aY.ah==0)<;>simp only[af,ae]<;>omega
theorem ahD(m:Nat)(v:List al)(c:Int)(rec:List al→Int→Option vf)(hl:cn v≤20000)(hr:∀x∈v,∀c,rec x.cx c=some ⟨((dR x.cx:Nat):Int),((dP x.cx:Nat):Int),eR c x.cx⟩):
  ∀(kk i a t:Nat)(b:Bool),v.length-i<kk→i≤v.length→a≤20001→t+dP (v.drop i)≤20001→
   I4 m v c rec kk (i:Int) (a:Int) (t:Int) b=some (((max a (dR (v.drop i)):Nat):Int),((t+dP (v.drop i):Nat):Int),b||eR c (v.drop i)):=by
 have hlen:=ni v;intro kk
 induction kk with
 |zero=>intro i a t b h;omega
 |succ kk ih=>
  intro i a t b h hi ha jz;rw[I4];by_cases h1:i<v.length
  ·have hm:=yn h1;have hz:=wb hm;have hk:=oX (gi v (i:Int));have ak1:=Vh _ (gi v (i:Int)).cx (cF _);rw[Ov h1,yp]at jz;rw[dM h1,af,dN h1,lt_eq,lt_eq,ahC c h1,G6,ahB h1,G5,Ov h1,yp,Kj,hr _ hm];have wi:aa ((i:Int)+1)=((i+1:Nat):Int):=br (by omega);have ak2:t+1≤20001:=by
    cases hq:(cC (gi v (i:Int)).aY.ah==0)<;>rw[hq]at jz<;>simp only[af,ae]at jz<;>omega
   have w1:aa ((t:Int)+1)=((t+1:Nat):Int):=br (by omega);unfold bne;cases hc:(cC (gi v (i:Int)).aY.ah==0)
   ·rw[hc]at jz;simp only[ae]at jz;have w2:aa (((dR (gi v (i:Int)).cx:Nat):Int)+1)=((dR (gi v (i:Int)).cx+1:Nat):Int):=br (by omega);have w3:aa (aa (aa ((t:Int)+1)+((dP (gi v (i:Int)).cx:Nat):Int))+1)=((t+(1+dP (gi v (i:Int)).cx+1):Nat):Int):=by
     rw[w1,cT (x:=((t+1:Nat):Int)+_) (by omega) (by omega),cT (by omega) (by omega)];omega
    have e:(if(a:Int)<((dR (gi v (i:Int)).cx+1:Nat):Int)then((dR (gi v (i:Int)).cx+1:Nat):Int)else(a:Int))=((max a (1+dR (gi v (i:Int)).cx):Nat):Int):=by split<;>omega
    have Vj:=λb=>ih (i+1) (max a (1+dR (gi v (i:Int)).cx)) (t+(1+dP (gi v (i:Int)).cx+1)) b (by omega) (by omega) (by omega) (by omega);cases hz:(c==0)<;>cases hk:((gi v (i:Int)).aY.ah==c)<;>cases hs:eR (cC (gi v (i:Int)).aY.ah) (gi v (i:Int)).cx<;>cases b<;>
     simp only[j8,dK,af,ae,ai,lt_eq,gr,Bool.true_or,Bool.or_false,Bool.or_true,w2,w3,wi,e,Vj]<;>simp only[Nat.max_assoc,Nat.add_assoc]
   ·rw[hc]at jz;simp only[af]at jz;have Vj:=λb=>ih (i+1) a (t+1) b (by omega) (by omega) (by omega) (by omega);cases hz:(c==0)<;>cases hk:((gi v (i:Int)).aY.ah==c)<;>cases hs:decide (0<ln (gi v (i:Int)).cx)<;>cases b<;>
     simp only[j8,dK,af,ae,ai,lt_eq,gr,Bool.true_or,Bool.or_false,Bool.or_true,w1,wi,Vj]<;>simp only[Nat.zero_max,Nat.add_assoc]
  ·rw[eS (by omega),ae,fF (by omega),eR,dR,dP,Bool.or_false,Nat.max_zero,Nat.add_zero]
theorem ahE(m:Nat)(hm:20001<m):∀(k:Nat)(v:List al)(c:Int),cn v<k→cn v≤20000→BK m k v c=some ⟨((dR v:Nat):Int),((dP v:Nat):Int),eR c v⟩:=by
 intro k
 induction k with
 |zero=>intro v c h;omega
 |succ k ih=>
  intro v c h hb;have hl:=ni v;have hk:=(Vh _ v (cF _)).1;have hn:=ahD m v c (BK m k) hb (λx hx c=>by
   have h1:=wb hx;have h2:=oX x;exact ih _ _ (by omega) (by omega)) m 0 0 0 false (by omega) (by omega) (by omega) (by rw[fG];omega)
  rw[BK];rw[show(0:Int)=((0:Nat):Int)from rfl,hn,ai,fG,Nat.zero_max,Nat.zero_add,gr]
def iz(v:List al):Int:=if 16<dR v then 20 else if 1500<dP v then 4 else if eR 0 v then 8 else 0
theorem Ox(m:Nat)(hm:20001<m)(v:List al)(hb:cn v≤20000):zA m v=some (iz v):=by
 unfold zA RF iz;rw[ahE m hm m v 0 (by omega) hb,ai];have e1:decide ((16:Int)<((dR v:Nat):Int))=decide (16<dR v):=by simp;omega
 have e2:decide ((1500:Int)<((dP v:Nat):Int))=decide (1500<dP v):=by simp;omega
 show cond (decide ((16:Int)<((dR v:Nat):Int))) _ _=_;rw[e1,e2];by_cases h1:16<dR v
 ·simp[h1]
 ·by_cases h2:1500<dP v
  ·simp[h1,h2]
  ·cases eR 0 v<;>simp[h1,h2]
theorem ahF(m:Nat)(v:List al)(rec:List al→List al→Option Bool)(hl:cn v≤20000)(hr:∀x∈v,rec x.cx x.cx=some true):
  ∀(kk i:Nat),v.length-i<kk→i≤v.length→J4 m v v rec kk (i:Int)=some (.inr ()):=by
 have hlen:=ni v;intro kk
 induction kk with
 |zero=>intro i h;omega
 |succ kk ih=>
  intro i h hi;rw[J4];by_cases h1:i<v.length
  ·rw[dM h1,af,dN h1,dN h1,lt_eq,hr _ (yn h1)];simp only[beq_self_eq_true,B9,dK,ae,ai];rw[br (by omega)];exact ih (i+1) (by omega) (by omega)
  ·rw[eS (by omega),ae]
theorem ahG(m:Nat)(hm:20001<m):∀(k:Nat)(v:List al),cn v<k→cn v≤20000→Cd m k v v=some true:=by
 intro k
 induction k with
 |zero=>intro v h;omega
 |succ k ih=>
  intro v h hb;have hl:=ni v;have hn:=ahF m v (Cd m k) hb (λx hx=>by
   have h1:=wb hx;have h2:=oX x;exact ih _ (by omega) (by omega)) m 0 (by omega) (by omega)
  rw[Cd];rw[show(0:Int)=((0:Nat):Int)from rfl,hn,ai,bne_self_eq_false];rfl
theorem ahH{α:Type}[Inhabited α](F:Nat→Int→Option (Sum Int Unit))(l:List α)(t:α→Bool)(hl:l.length≤20000)
  (hF:∀(kk i:Nat),i<l.length→gi l (i:Int)∈l→F (kk+1) (i:Int)=cond (t (gi l (i:Int))) (some (.inl (i:Int))) (F kk ((i+1:Nat):Int)))(hE:∀kk (i:Nat),l.length≤i→F (kk+1) (i:Int)=some (.inr ())):
  ∀(kk i:Nat),l.length-i<kk→∃j:Nat,F kk (i:Int)=some (cond ((l.drop i).any t) (.inl (j:Int)) (.inr ())):=by
 intro kk
 induction kk with
 |zero=>intro i h;omega
 |succ kk ih=>
  intro i h;by_cases h1:i<l.length
  ·obtain⟨j,hj⟩:=ih (i+1) (by omega);rw[hF kk i h1 (yn h1),hj,gp h1,List.any_cons,←iq l i h1];cases t (gi l (i:Int))
   ·exact⟨j,rfl⟩
   ·exact⟨i,rfl⟩
  ·rw[hE kk i (by omega),fF (by omega)];exact⟨0,rfl⟩
theorem a2I{α:Type}[Inhabited α](F:Nat→Int→Option (Sum Int Unit))(l:List α)(t:α→Bool)(hl:l.length≤20000)
  (hF:∀(kk i:Nat),i<l.length→gi l (i:Int)∈l→F (kk+1) (i:Int)=cond (t (gi l (i:Int))) (some (.inl (i:Int))) (F kk ((i+1:Nat):Int)))(hE:∀kk (i:Nat),l.length≤i→F (kk+1) (i:Int)=some (.inr ())):
  (Option.bind (Option.bind (F 30000 0) λ(z3:Sum Int Unit)=>eY z3 λlc=>some (-1)) λy3=>some (decide (0≤y3)))=some (l.any t):=by
 obtain⟨j,hj⟩:=ahH F l t hl hF hE 30000 0 (by omega);rw[show F 30000 0=_ from hj,fG];cases l.any t
 ·rfl
 ·show some (decide (0≤(j:Int)))=some true;rw[bC (by omega)]
def zD(d:bJ):Nat:=(d.ck.length+1)+(cn d.Value+1)+1+1
theorem Vk(x:bJ):zD x=x.ck.length+cn x.Value+4:=by unfold zD;omega
theorem ahI:20001<30000:=by decide
def Dd(k:Int):aq:=aq.mk k [] 0 [] false
mutual
def wc:al→List aq
 | .mk t l=>cond (cC t.ah==0) [t] (t::(bH l++[Dd (cC t.ah)]))
def bH:List al→List aq
 |[]=>[]
 |x::r=>wc x++bH r
end
theorem we(x:al):wc x=cond (cC x.aY.ah==0) [x.aY] (x.aY::(bH x.cx++[Dd (cC x.aY.ah)])):=by obtain⟨t,l⟩:=x;rw[wc];rfl
theorem yq(n:Nat):∀v:List al,cn v≤n→(bH v).length=dP v:=by
 induction n using Nat.strongRecOn with
 |_ n ih=>
  intro v
  induction v with
  |nil=>intro _;rw[bH,dP];rfl
  |cons x r Vi=>
   intro h;rw[cn]at h;have hk:=oX x;rw[bH,dP,bB,Vi (by omega),we,yp];have:=ih (cn x.cx) (by omega) x.cx (cF _);cases(cC x.aY.ah==0)
   ·simp only[ae,aZ,bB,bW,this];omega
   ·rfl
theorem a2J{l:List al}{i:Nat}(h:i<l.length):bH (l.drop i)=wc (gi l (i:Int))++bH (l.drop (i+1)):=by
 rw[gp h,bH,←iq l i h]
theorem ahJ(x:al):(wc x).length=Db x:=by
 have:=yq (cn [x]) [x] (cF _);rw[bH,dP,bH,dP]at this;simpa using this
theorem ahK(v:List al)(rec:List aq→List al→Option (List aq))(hl:v.length≤20000)(hr:∀x∈v,∀l:List aq,l.length+dP x.cx≤2500000→rec l x.cx=some (l++bH x.cx)):
  ∀(kk i:Nat)(a:List aq),v.length-i<kk→i≤v.length→a.length+dP (v.drop i)≤2500000→Ey 30000 v rec kk a (i:Int)=some (a++bH (v.drop i)):=by
 intro kk
 induction kk with
 |zero=>intro i a h;omega
 |succ kk ih=>
  intro i a h hi ha;rw[Ey];by_cases h1:i<v.length
  ·have hm:=yn h1;have jz:=Ov h1;have hlen:=ahJ (gi v (i:Int));rw[yp]at jz hlen;have hq:(a++[(gi v (i:Int)).aY]).length=a.length+1:=by simp
   rw[dM h1,af,dN h1,aL (by unfold ln;simp only[aZ,bW];omega),lt_eq,lt_eq,Kj];rw[a2J h1,we]at*;cases hc:(cC (gi v (i:Int)).aY.ah==0)
   ·have hz:(cC (gi v (i:Int)).aY.ah !=0)=true:=by rw[bne,hc];rfl
    rw[hc,ae]at jz hlen;have Vl:(bH (gi v (i:Int)).cx).length=dP (gi v (i:Int)).cx:=yq _ _ (cF _);rw[hz,af,hr _ hm _ (by omega),ai,aL (by unfold ln;simp only[aZ,bW,bB];omega),lt_eq,ai,br (by omega),ih (i+1) _ (by omega) (by omega) (by simp only[bB,aZ,bW];omega),ae];congr 1;simp only[c7,List.cons_append,List.nil_append];rfl
   ·have hz:(cC (gi v (i:Int)).aY.ah !=0)=false:=by rw[bne,hc];rfl
    rw[hc,af]at jz;rw[hz,ae,ai,br (by omega),ih (i+1) (a++[(gi v (i:Int)).aY]) (by omega) (by omega) (by rw[hq];omega),af,c7]
  ·rw[eS (by omega),ae,fF (by omega),bH,List.append_nil]
theorem Vm(v:List al):dP v≤cn v:=(Vh (cn v) v (cF _)).1
theorem ahL:∀(k:Nat)(v:List al)(l:List aq),cn v<k→cn v≤20000→l.length+dP v≤2500000→BQ 30000 k l v=some (l++bH v):=by
 intro k
 induction k with
 |zero=>intro v l h;omega
 |succ k ih=>
  intro v l h hb hl;have hn:=ni v;rw[BQ,show Ey 30000 v (BQ 30000 k) 30000 l 0=some (l++bH (v.drop 0))from ahK v _ (by omega) (λx hx l hl=>ih x.cx l (by have:=oX x;have:=wb hx;omega) (by have:=oX x;have:=wb hx;omega) hl) 30000 0 l (by omega) (dE _) (by rw[fG];exact hl),fG];rfl
theorem a2K(v:List al)(hb:cn v≤20000):Ia 30000 [] v=some (bH v):=by
 have h:=Vm v;unfold Ia;rw[ahL 30000 v [] (by omega) hb (by simp only[bW];omega)];rfl
theorem ahM(v:List al)(rec:List al→Option (List aq))(hb:cn v≤20000)(hr:∀x∈v,rec x.cx=some (bH x.cx)):
  ∀(kk i:Nat)(a:List aq),v.length-i<kk→i≤v.length→a.length+dP (v.drop i)≤2500000→Ff 30000 v rec kk a (i:Int)=some (a++bH (v.drop i)):=by
 have hl:=ni v;intro kk
 induction kk with
 |zero=>intro i a h;omega
 |succ kk ih=>
  intro i a h hi ha;rw[Ff];by_cases h1:i<v.length
  ·have hm:=yn h1;have jz:=Ov h1;rw[yp]at jz;rw[dM h1,af,dN h1,aL (by unfold ln;simp only[aZ,bW];omega),lt_eq,lt_eq,a2J h1,we];show Option.bind (cond (cC (gi v (i:Int)).aY.ah !=0) _ _) _=_;cases hc:(cC (gi v (i:Int)).aY.ah==0)
   ·have hz:(cC (gi v (i:Int)).aY.ah !=0)=true:=by rw[bne,hc];rfl
    rw[hc,ae]at jz;have Vl:(bH (gi v (i:Int)).cx).length=dP (gi v (i:Int)).cx:=yq _ _ (cF _);rw[hz,af,hr _ hm,ai,aL (by unfold ln;simp only[aZ,bW,bB];omega),lt_eq,aL (by unfold ln;simp only[aZ,bW,bB];omega),lt_eq,ai,br (by omega),ih (i+1) _ (by omega) (by omega) (by simp only[bB,aZ,bW];omega),ae];congr 1;simp only[c7,List.cons_append,List.nil_append];rfl
   ·have hz:(cC (gi v (i:Int)).aY.ah !=0)=false:=by rw[bne,hc];rfl
    rw[hc,af]at jz;rw[hz,ae,ai,br (by omega),ih (i+1) (a++[(gi v (i:Int)).aY]) (by omega) (by omega) (by simp only[bB,aZ,bW];omega),af,c7]
  ·rw[eS (by omega),ae,fF (by omega),bH,List.append_nil]
theorem ahN:∀(k:Nat)(v:List al),cn v<k→cn v≤20000→Ce 30000 k v=some (bH v):=by
 intro k
 induction k with
 |zero=>intro v h;omega
 |succ k ih=>
  intro v h hb;have hn:=ni v;have ht:=Vm v;rw[Ce,show Ff 30000 v (Ce 30000 k) 30000 [] 0=some ([]++bH (v.drop 0))from ahM v _ hb (λx hx=>ih x.cx (by have:=oX x;have:=wb hx;omega) (by have:=oX x;have:=wb hx;omega)) 30000 0 [] (by omega) (dE _) (by rw[fG];simp only[bW];omega),fG];rfl
theorem ahO(v:List al)(hb:cn v≤20000):N8 30000 v=some (bH v):=ahN 30000 v (by omega) hb
mutual
def G7:al→Bool
 | .mk t l=>cond (cond (cond (t.ah==20) true (t.ah==22)) true (t.ah==24)) true (wg l)
def wg:List al→Bool
 |[]=>false
 |x::r=>G7 x||wg r
end
theorem ahP(x:al):G7 x=cond (cond (cond (x.aY.ah==20) true (x.aY.ah==22)) true (x.aY.ah==24)) true (wg x.cx):=by obtain⟨t,l⟩:=x;rw[G7];rfl
theorem a2L:∀l:List al,wg l=l.any G7
 |[]=>by rw[wg];rfl
 |x::r=>by rw[wg,a2L r];rfl
theorem ahQ:∀(k:Nat)(v:List al),cn v<k→cn v≤20000→zE 30000 k v=some (wg v):=by
 intro k
 induction k with
 |zero=>intro v h;omega
 |succ k ih=>
  intro v h hb;have hl:=ni v;have h1:∀x∈v,Ih 30000 (zE 30000 k) x=some (G7 x):=λx hx=>by
   have h2:=wb hx;have h3:=oX x;unfold Ih cX;rw[lt_eq,ahP,ih x.cx (by omega) (by omega)];cases(cond (cond (x.aY.ah==20) true (x.aY.ah==22)) true (x.aY.ah==24))<;>rfl
  rw[zE];unfold Mq Mp;rw[a2I (EB 30000 (zE 30000 k) v) v G7 (by omega) (λkk i hi hm=>by rw[EB,dM hi,af,dN hi,h1 _ hm,ai,br (by omega)]) (λkk i hi=>by rw[EB,eS hi];rfl),a2L];rfl
def re(v:List al):Bool:=(gi v (0:Int)).aY.ah==13
def rf(v:List al):Bool:=(gi v (aa (ln v-1))).aY.ah==13
theorem a2M{α:Type}{v:List α}(h:0<v.length)(hl:v.length≤20000):0≤aa (ln v-1)∧aa (ln v-1)<ln v:=by
 unfold ln;rw[cT (by omega) (by omega)];omega
def G8(v:List al):Bool:=(qL 30000 (bH v)).getD 0 !=0
theorem ahR(v:List al)(hb:cn v≤20000)(ht:∀t∈bH v,tz t≤4500):∃e,qL 30000 (bH v)=some e∧Co 30000 (bH v)=some e∧(e !=0)=G8 v:=by
 have h1:=yq (cn v) v (cF _);have h2:=Vm v;obtain⟨e,a,b⟩:=Vf (bH v) (by omega) (λt h=>by have:=ht t h;omega);exact⟨e,a,b,by unfold G8;rw[a];rfl⟩
def yr(x:al):Bool:=cond (x.aY.ah==17) true (cond (x.aY.ah==9) (x.aY.az==[33]) false)
theorem ahS(v:List al)(hl:v.length≤20000):Ij 30000 v=some (v.any yr):=by
 unfold Ij Ms;exact a2I (EC 30000 v) v yr hl (λkk i hi hm=>by rw[EC,dM hi,af,dN hi,br (by omega)];rfl) (λkk i hi=>by rw[EC,eS hi];rfl)
def ug(d:bJ):Bool:=!(G1 d.ck)||(iz d.Value !=0||(G8 d.Value||(wg d.Value||(d.Value.any yr||(cond (ln d.Value==0) (!(kR d.ck)) false||cond (decide (0<ln d.Value)) (cond (re d.Value) true (rf d.Value)) false)))))
theorem a2N(v:List al)(hb:cn v≤20000):BT 30000 v=some (cond (iz v !=0) ([],iz v) (bH v,0)):=by
 unfold BT;rw[Ox 30000 ahI v hb,ai,a2K v hb];cases(iz v !=0)<;>rfl
theorem a2O(d:bJ)(hb:zD d≤20000)(ht:∀t∈bH d.Value,tz t≤4500):BW 30000 d=some (cond (ug d) 8 0):=by
 rw[Vk]at hb;have hl:=ni d.Value;obtain⟨e,g1,g2,g3⟩:=ahR d.Value (by omega) ht;unfold BW ug;rw[a2N d.Value (by omega),ai,ahl d.ck (by omega),ai,show S4 30000 d.Value=some (wg d.Value)from ahQ 30000 d.Value (by omega) (by omega),ahS d.Value (by omega),Oq];cases hn:G1 d.ck
 ·rfl
 cases hc:(iz d.Value !=0)
 rotate_left
 ·simp only[af,hc];rfl
 simp only[ae,g1];simp only[dK,ae,show((0:Int) !=0)=false from rfl,ai,lt_eq,g3];cases G8 d.Value
 rotate_left
 ·rfl
 simp only[ae,ai];cases wg d.Value
 rotate_left
 ·rfl
 simp only[ae];cases d.Value.any yr
 rotate_left
 ·rfl
 simp only[ae];by_cases h0:d.Value.length=0
 ·have e1:(ln d.Value==0)=true:=by rw[beq_iff_eq];unfold ln;omega
  have e2:decide (0<ln d.Value)=false:=bV (by unfold ln;omega);rw[e1,e2,af,ai,aL (λh=>by cases h),aL (λ_ h=>by cases h)];cases kR d.ck<;>rfl
 ·have e1:(ln d.Value==0)=false:=bE.2 (by unfold ln;omega);have e2:decide (0<ln d.Value)=true:=bC (by unfold ln;omega);rw[e1,e2,ae,ai,aL (λ_ _=>⟨by omega,by unfold ln;omega⟩),aL (λ_ _ _=>a2M (by omega) (by omega))];show(cond (cond (re d.Value) true (rf d.Value)) (some 8) (some 0):Option Int)=_;cases re d.Value<;>cases rf d.Value<;>rfl
end Go.Proofs.YtpobihiejncdgaaGreatDoor
namespace Go.Proofs.YtpobihiejncdgaaGreatDoor
open Go Go.V
abbrev fW:=List (List al×aq)
def Qs:fW→List al→List (List al)
  |[],c=>[c]
  |x::st,c=>Qs st x.1++[c]
def iA:fW→List aq
  |[]=>[]
  |x::st=>iA st++[x.2]
theorem Ah:∀(st:fW)(c:List al),(Qs st c).length=st.length+1
  |[],c=>rfl
  |x::st,c=>by rw[Qs,bB,Ah st x.1];rfl
theorem yu:∀st:fW,(iA st).length=st.length
  |[]=>rfl
  |x::st=>by rw[iA,bB,yu st];rfl
theorem Ai{α:Type}[Inhabited α](l:List α)(x:α)(n:Nat)(h:l.length=n):gi (l++[x]) (n:Int)=x:=by
  subst h;rw[iq _ _ (by rw[bB];exact Nat.lt_succ_self _)];simp
theorem a2P(st:fW)(c:List al):gi (Qs st c) (st.length:Int)=c:=by
  cases st with
  |nil=>rfl
  |cons x st=>exact Ai _ _ _ (Ah st x.1)
theorem a2Q(st:fW)(c y:List al):cy (Qs st c) (st.length:Int) y=Qs st y:=by
  cases st with
  |nil=>rfl
  |cons x st=>
    show cy (Qs st x.1++[c]) ((st.length+1:Nat):Int) y=Qs st x.1++[y];unfold cy;rw[Int.toNat_natCast,←Ah st x.1];simp
theorem a2R(q:List al)(o:aq)(st:fW)(c:List al)(hl:st.length≤100000)(hq:q.length≤100000):zx (Qs ((q,o)::st) c) (iA ((q,o)::st))=some (Qs st (q++[al.mk o c]),iA st):=by
  have l1:=yu ((q,o)::st);have l2:=Ah ((q,o)::st) c;have l3:=Ah st q;rw[aZ]at l1 l2;have e0:aa (ln (iA ((q,o)::st))-1)=(st.length:Int):=by
    unfold ln;rw[l1,cT (by omega) (by omega)];omega
  have e1:aa ((st.length:Int)+1)=((st.length+1:Nat):Int):=br (by omega);have e2:(Qs ((q,o)::st) c).take (st.length+1)=Qs st q:=by
    show(Qs st q++[c]).take _=_;rw[←Ah st q,List.take_left]
  have e3:(iA ((q,o)::st)).take st.length=iA st:=by
    show(iA st++[o]).take _=_;rw[←yu st,List.take_left]
  have e4:gi (iA ((q,o)::st)) (st.length:Int)=o:=Ai _ _ _ (yu st);have e5:gi (Qs ((q,o)::st) c) ((st.length+1:Nat):Int)=c:=Ai _ _ _ (Ah st q);unfold zx qY qX;rw[e0,e1,Int.toNat_natCast,Int.toNat_natCast,e2,e3,e4,e5,a2P,a2Q,aL ⟨by omega,by unfold ln;omega⟩,aL ⟨by omega,by unfold ln;omega⟩,aL ⟨by omega,by unfold ln;omega⟩,aL (by unfold ln;omega)]
def jA:fW→List al→Nat
  |[],c=>c.length
  |x::st,c=>c.length+1+jA st x.1
theorem Kn:∀(st:fW)(c:List al),c.length+st.length≤jA st c
  |[],c=>cF _
  |x::st,c=>by have:=Kn st x.1;rw[jA,aZ];omega
theorem Oy(st:fW)(a:List al)(v:al):jA st (a++[v])=jA st a+1:=by
  cases st with
  |nil=>rw[jA,jA,bB];rfl
  |cons x st=>rw[jA,jA,bB,List.length_singleton];omega
def yv:fW→Int
  |[]=>0
  |x::_=>cC x.2.ah
def De(t:aq):fW→Bool
  |[]=>false
  |x::_=>t.ah==cC x.2.ah
def up:fW→List al→fW×List al
  |[],c=>([],c)
  |x::st,c=>(st,x.1++[al.mk x.2 c])
def pz:List aq→fW→List al→Option (fW×List al)
  |[],st,c=>some (st,c)
  |t::l,st,c=>cond (De t st) (pz l (up st c).1 (up st c).2) (cond (cC t.ah !=0) (cond (st.length==16) none (pz l ((c,t)::st) [])) (pz l st (c++[al.mk t []])))
def pzR:Option (fW×List al)→Sum (List al×Int) (List (List al)×List aq)
  |none=>.inl ([],20)
  |some z=>.inr (Qs z.1 z.2,iA z.1)
theorem ahT(t:aq)(st:fW)(hs:st.length≤100000):cond (decide (0<ln (iA st))) (t.ah==jL (gi (iA st) (aa (ln (iA st)-1))).ah) false=De t st:=by
  cases st with
  |nil=>rfl
  |cons x st=>
    have l1:=yu (x::st);rw[aZ]at l1 hs;have e0:aa (ln (iA (x::st))-1)=(st.length:Int):=by
      unfold ln;rw[l1,cT (by omega) (by omega)];omega
    have e4:gi (iA (x::st)) (st.length:Int)=x.2:=Ai _ _ _ (yu st);rw[bC (by unfold ln;omega),af,e0,e4,Kj];rfl
theorem a2S{st:fW}{c:List al}{t:aq}(h:De t st=true):jA (up st c).1 (up st c).2≤jA st c:=by
  cases st with
  |nil=>cases h
  |cons x st=>show jA st (x.1++[_])≤_;rw[Oy,jA];omega
theorem ahU{st:fW}{c:List al}{t:aq}(h:De t st=true)(hc:jA st c≤5000):zx (Qs st c) (iA st)=some (Qs (up st c).1 (up st c).2,iA (up st c).1):=by
  cases st with
  |nil=>cases h
  |cons x st=>
    rw[jA]at hc;have:=Kn st x.1;exact a2R x.1 x.2 st c (by omega) (by omega)
theorem ahV(l:List aq)(hl:l.length≤5000):∀(kk i:Nat)(st:fW)(c:List al),l.length-i<kk→i≤l.length→jA st c≤i→xj l kk (Qs st c) (iA st) (i:Int)=some (pzR (pz (l.drop i) st c)):=by
  intro kk
  induction kk with
  |zero=>intro i st c h;omega
  |succ kk ih=>
    intro i st c hk hi hc;have uo:=Kn st c;have l1:=yu st;have l2:=Ah st c;rw[xj];by_cases aM:i<l.length
    · rw[dM aM,af,dN aM,ahT _ st (by omega),iq l i aM,aL (λh=>by
        have h:=gS h;unfold ln at h⊢;rw[cT (by omega) (by omega)];omega),lt_eq,gp aM,pz,Kj]
      cases h1:De l[i] st with
      |true=>
        have:=a2S (c:=c) h1;rw[af,af,ahU h1 (by omega),ai,br (by omega)];exact ih (i+1) _ _ (by omega) aM (by omega)
      |false=>
        rw[ae,ae];cases h2:(cC l[i].ah !=0)with
        |true=>
          rw[af,af];by_cases Vn:st.length=16
          · rw[show(ln (iA st)==16)=true from by unfold ln;rw[l1,Vn];rfl,show(st.length==16)=true from by rw[Vn];rfl];rfl
          · rw[show(ln (iA st)==16)=false from bE.2 (by unfold ln;omega),show(st.length==16)=false from bE.2 Vn,ae,ae,aL (by unfold ln;simp only[aZ,bW];omega),aL (by unfold ln;simp only[aZ,bW];omega),br (by omega)];exact ih (i+1) ((c,l[i])::st) [] (by omega) aM (by show([]:List al).length+1+jA st c≤i+1;rw[bW];omega)
        |false=>
          rw[ae,ae,aL ⟨by unfold ln;omega,by unfold ln;omega⟩,show ln (iA st)=(st.length:Int)from by unfold ln;rw[l1],a2P,a2Q,aL (by unfold ln;omega),br (by omega)];exact ih (i+1) st _ (by omega) aM (by rw[Oy];omega)
    · rw[eS (by omega),ae,fF (by omega)];rfl
def Oz:fW→List al→List al
  |[],c=>c
  |x::st,c=>Oz st (x.1++[al.mk x.2 c])
theorem a2T:∀(st:fW)(c:List al)(kk:Nat),st.length<kk→jA st c≤5000→BG kk (Qs st c) (iA st)=some [Oz st c]
  |st,c,0,h,_=>by omega
  |[],c,kk+1,_,_=>rfl
  |x::st,c,kk+1,h,hc=>by
    have l1:=yu (x::st);rw[aZ]at l1 h;rw[jA]at hc;have:=Kn st x.1;rw[BG,bC (by unfold ln;omega),af,show zx (Qs (x::st) c) (iA (x::st))=_ from a2R x.1 x.2 st c (by omega) (by omega),ai];exact a2T st _ kk (by omega) (by rw[Oy];omega)
theorem OA:∀(l:List aq)(st:fW)(c:List al)(z:fW×List al),pz l st c=some z→jA z.1 z.2≤jA st c+l.length
  |[],st,c,z,h=>by injection h with h;rw[←h];exact Nat.le_add_right _ _
  |t::l,st,c,z,h=>by
    rw[pz]at h;rw[aZ];rcases gJ h with⟨h1,h⟩|⟨h1,h⟩
    · have:=OA l _ _ z h;have:=a2S (c:=c) h1;omega
    · rcases gJ h with⟨h2,h⟩|⟨h2,h⟩
      · rcases gJ h with⟨h3,h⟩|⟨h3,h⟩
        · cases h
        · have:jA z.1 z.2≤(([]:List al).length+1+jA st c)+l.length:=OA l _ _ z h;rw[bW]at this;omega
      · have:=OA l _ _ z h;rw[Oy]at this;omega
def Ko(n:Nat):Option (fW×List al)→List al×Int
  |none=>([],20)
  |some z=>if 1500<n+z.1.length then([],4)else(Oz z.1 z.2,0)
theorem a2U(l:List aq)(hl:l.length≤1500):rW l=some (Ko l.length (pz l [] [])):=by
  unfold rW;rw[bV (by unfold ln;omega),ae,show xj l (l.length+1) [[]] [] 0=_ from ahV l (by omega) (l.length+1) 0 [] [] (by omega) (dE _) (cF _),ai,fG];cases h:pz l [] []with
  |none=>rfl
  |some z=>
    have h1:=OA l [] [] z h;have h0:jA [] []=0:=rfl;have h2:=Kn z.1 z.2;have l1:=yu z.1;show cond (decide (1500<aa (ln l+ln (iA z.1)))) _ _=_;have e:aa (ln l+ln (iA z.1))=((l.length+z.1.length:Nat):Int):=by
      unfold ln;rw[l1,cT (by omega) (by omega)];omega
    rw[e];unfold Ko;dsimp only;by_cases hm:1500<l.length+z.1.length
    · rw[if_pos hm,bC (by omega)];rfl
    · rw[if_neg hm,bV (by omega),ae];show Option.bind (BG ((iA z.1).length+1) (Qs z.1 z.2) (iA z.1)) _=_;rw[a2T z.1 z.2 _ (by omega) (by omega),ai];rfl
theorem ahW(l:List aq)(hl:1500<l.length):rW l=some ([],4):=by
  unfold rW;rw[bC (by unfold ln;omega)];rfl
theorem ahX{t:aq}{st:fW}(ho:∀x∈st,cC x.2.ah≠0)(h:cond (yv st !=0) (t.ah==yv st) false=false):De t st=false:=by
  cases st with
  |nil=>rfl
  |cons x st=>
    have:=ho x List.mem_cons_self;rw[show(yv (x::st) !=0)=true from bne_iff_ne.2 this]at h;exact h
theorem Vo(x:al):al.mk x.aY x.cx=x:=by cases x;rfl
theorem ahY:∀(n:Nat)(v:List al),cn v≤n→∀(r:List aq)(st:fW)(c:List al),(∀x∈st,cC x.2.ah≠0)→eR (yv st) v=false→st.length+dR v≤16→pz (bH v++r) st c=pz r st (c++v):=by
  intro n
  induction n using Nat.strongRecOn with
  |_ n ih=>
    intro v
    induction v with
    |nil=>intro _ r st c _ _ _;rw[bH,List.append_nil];rfl
    |cons x v Vp=>
      intro hn r st c ho hs hd;have hk:=oX x;rw[cn]at hn;rw[eR,pw]at hs;rw[dR]at hd;obtain⟨rm,o6⟩:=hs;rw[G6,pw]at rm;obtain⟨Kq,OB⟩:=rm;have rD:=ahX ho Kq;have hx:∀r':List aq,pz (wc x++r') st c=pz r' st (c++[x]):=by
        intro r';rw[we];cases hc:(cC x.aY.ah==0)with
        |true=>
          rw[hc,af]at OB;have iF:x.cx=[]:=by
            have:=of_decide_eq_false OB;unfold ln at this;exact List.length_eq_zero_iff.1 (by omega)
          rw[af,List.singleton_append,pz,rD,ae,show(cC x.aY.ah !=0)=false from by rw[bne,hc];rfl,ae];rw[show al.mk x.aY []=x from by rw[←iF];exact Vo x]
        |false=>
          rw[hc,ae]at OB;have cQ:cC x.aY.ah≠0:=λh=>by rw[h]at hc;cases hc
          have hdx:=G5 x;rw[hc,ae]at hdx;rw[ae,List.cons_append,pz,rD,ae,show(cC x.aY.ah !=0)=true from by rw[bne,hc];rfl,af,show(st.length==16)=false from bE.2 (by omega),ae,c7];rw[ih (cn x.cx) (by omega) x.cx (cF _) _ ((c,x.aY)::st) [] (λy hy=>by
            rcases List.mem_cons.1 hy with rfl|hy
            · exact cQ
            · exact ho y hy) OB (by rw[aZ];omega)]
          rw[List.singleton_append,pz,show De (Dd (cC x.aY.ah)) ((c,x.aY)::st)=true from beq_iff_eq.2 rfl,af];show pz r' st (c++[al.mk x.aY ([]++x.cx)])=_;rw[List.nil_append,Vo]
      rw[bH,c7,hx,Vp (by omega) r st _ ho o6 (by omega),c7];rfl
theorem a2V(v:List al)(h:iz v=0):rW (bH v)=some (v,0):=by
  unfold iz at h;split at h
  · cases h
  · split at h
    · cases h
    · split at h
      · cases h
      · rename_i h1 h2 h3;have hl:=yq (cn v) v (cF _);have hp:=ahY (cn v) v (cF _) [] [] [] (λx hx=>by cases hx) (by show eR 0 v=false;simpa using h3) (by simp;omega);rw[List.append_nil]at hp;rw[a2U _ (by omega),hp];show some (Ko _ (some ([],[]++v)))=_;unfold Ko;dsimp only;rw[if_neg (by rw[bW];omega)];rfl
theorem Vq(k:Int)(hk:cC k≠0):(k=2∧cC k=22)∨(k=19∧cC k=20)∨(k=21∧cC k=22)∨(k=23∧cC k=24):=by
  by_cases h2:k=2
  · subst h2;exact Or.inl ⟨rfl,rfl⟩
  by_cases Kk:k=19
  · subst Kk;exact Or.inr (Or.inl ⟨rfl,rfl⟩)
  by_cases Kl:k=21
  · subst Kl;exact Or.inr (Or.inr (Or.inl ⟨rfl,rfl⟩))
  by_cases Km:k=23
  · subst Km;exact Or.inr (Or.inr (Or.inr ⟨rfl,rfl⟩))
  exfalso;apply hk;rw[←Kj];unfold jL;simp only[lt_eq];rw[show(k==2)=false from by simpa using h2,show(k==19)=false from by simpa using Kk,show(k==21)=false from by simpa using Kl,show(k==23)=false from by simpa using Km];rfl
theorem ahZ(a b:Int)(ha:cC a≠0)(hb:cC b≠0):a≠cC b:=by
  have h1:=Vq a ha;have h2:=Vq b hb;omega
theorem wj(k:Int):∀a b:List al,eR k (a++b)=(eR k a||eR k b)
  |[],b=>by rw[List.nil_append,eR,gr]
  |x::a,b=>by rw[List.cons_append,eR,eR,wj k a b,Bool.or_assoc]
theorem wk:∀a b:List al,dR (a++b)=max (dR a) (dR b)
  |[],b=>by rw[List.nil_append,dR,Nat.zero_max]
  |x::a,b=>by rw[List.cons_append,dR,dR,wk a b];omega
theorem Kr:∀a b:List al,dP (a++b)=dP a+dP b
  |[],b=>by rw[List.nil_append,dP,Nat.zero_add]
  |x::a,b=>by rw[List.cons_append,dP,dP,Kr a b];omega
theorem wm:∀a b:List al,bH (a++b)=bH a++bH b
  |[],b=>by rw[List.nil_append,bH,List.nil_append]
  |x::a,b=>by rw[List.cons_append,bH,bH,wm a b,c7]
def uh(P:aq→Prop):fW→List al→Nat→Prop
  |[],c,n=>eR 0 c=false∧dR c≤16∧dP c=n∧∀t∈bH c,P t
  |x::st,c,n=>cC x.2.ah≠0∧eR (cC x.2.ah) c=false∧dR c+(st.length+1)≤16∧P x.2∧(∀t∈bH c,P t)∧∃k,uh P st x.1 k∧dP c+1+k=n
theorem a2W{P:aq→Prop}{st:fW}{c:List al}{n:Nat}(h:uh P st c n):st.length≤16:=by
  cases st with
  |nil=>exact dE _
  |cons x st=>rw[aZ];exact Nat.le_trans (Nat.le_add_left _ _) h.2.2.1
theorem a2X{P:aq→Prop}{st:fW}{c:List al}{n:Nat}(h:uh P st c n)(x:al)(hs:Dc (yv st) x=false)(hd:Da x+st.length≤16)(hp:∀t∈wc x,P t):uh P st (c++[x]) (n+Db x):=by
  have e1:∀k,eR k [x]=Dc k x:=λk=>by rw[eR,eR,Bool.or_false]
  have e2:dR [x]=Da x:=by rw[dR,dR,Nat.max_zero]
  have e3:dP [x]=Db x:=by rw[dP,dP,Nat.add_zero]
  have e4:bH [x]=wc x:=by rw[bH,bH,List.append_nil]
  have e5:∀t∈bH (c++[x]),(∀t∈bH c,P t)→P t:=λt ht hc=>by
    rw[wm,e4]at ht;rcases List.mem_append.1 ht with ht|ht
    · exact hc t ht
    · exact hp t ht
  cases st with
  |nil=>
    obtain⟨h1,h2,h3,h4⟩:=h;refine⟨?_,?_,?_,λt ht=>e5 t ht h4⟩
    · rw[wj,e1,h1,gr];exact hs
    · rw[wk,e2];simp at hd;omega
    · rw[Kr,e3,h3]
  |cons y st=>
    obtain⟨h1,h2,h3,h4,h5,k,h6,h7⟩:=h;rw[aZ]at hd;refine⟨h1,?_,?_,h4,λt ht=>e5 t ht h5,k,h6,?_⟩
    · rw[wj,e1,h2,gr];exact hs
    · rw[wk,e2];omega
    · rw[Kr,e3];omega
theorem a2Y{P:aq→Prop}(hP:∀k,P (Dd k)){x:List al×aq}{st:fW}{c:List al}{n:Nat}(h:uh P (x::st) c n):uh P st (x.1++[al.mk x.2 c]) (n+1):=by
  obtain⟨h1,h2,h3,h4,h5,k,h6,h7⟩:=h;have hz:(cC (al.mk x.2 c).aY.ah==0)=false:=bE.2 h1;have:=a2X h6 (al.mk x.2 c) (by
    rw[G6,hz,ae];show(cond (yv st !=0) (x.2.ah==yv st) false||eR (cC x.2.ah) c)=false;rw[h2,Bool.or_false];cases st with
    |nil=>rfl
    |cons y st=>
      have hy:cC y.2.ah≠0:=h6.1;show cond (cC y.2.ah !=0) (x.2.ah==cC y.2.ah) false=false;rw[show(x.2.ah==cC y.2.ah)=false from bE.2 (ahZ _ _ h1 hy)];cases(cC y.2.ah !=0)<;>rfl) (by
    rw[G5,hz,ae];show 1+dR c+st.length≤16;omega) (λt ht=>by
    rw[we,hz,ae]at ht;rcases List.mem_cons.1 ht with rfl|ht
    · exact h4
    · rcases List.mem_append.1 ht with ht|ht
      · exact h5 t ht
      · rw[List.mem_singleton.1 ht];exact hP _)
  rw[yp,hz,ae]at this;have e:k+(1+dP c+1)=n+1:=by omega
  rw[←e];exact this
theorem OC(P:aq→Prop)(hP:∀k,P (Dd k)):∀(l:List aq)(st:fW)(c:List al)(n:Nat)(z:fW×List al),(∀t∈l,P t)→uh P st c n→pz l st c=some z→uh P z.1 z.2 (n+l.length)
  |[],st,c,n,z,_,hw,h=>by injection h with h;rw[←h];exact hw
  |t::l,st,c,n,z,hl,hw,h=>by
    rw[pz]at h;have ma:∀t∈l,P t:=λx hx=>hl x (List.mem_cons_of_mem _ hx);have ht:=hl t List.mem_cons_self;rw[aZ,Nat.add_comm l.length 1,←Nat.add_assoc];rcases gJ h with⟨h1,h⟩|⟨h1,h⟩
    · cases st with
      |nil=>cases h1
      |cons x st=>exact OC P hP l _ _ _ z ma (a2Y hP hw) h
    · rcases gJ h with⟨h2,h⟩|⟨h2,h⟩
      · rcases gJ h with⟨h3,h⟩|⟨h3,h⟩
        · cases h
        · have h3:st.length≠16:=by simpa using h3
          have hd:=a2W hw;refine OC P hP l ((c,t)::st) [] _ z ma ⟨by simpa using h2,by rw[eR],by rw[dR];omega,ht,(λt ht=>by rw[bH]at ht;cases ht),n,hw,by rw[dP];omega⟩ h
      · have hz:(cC (al.mk t []).aY.ah==0)=true:=by
          show(cC t.ah==0)=true
          revert h2;rw[bne];cases(cC t.ah==0)<;>intro h2<;>first|rfl|cases h2
        have ha:=a2X hw (al.mk t []) (by
          rw[G6,hz,af];show(cond (yv st !=0) (t.ah==yv st) false||decide (0<ln ([]:List al)))=false;cases st with
          |nil=>rfl
          |cons x st=>
            show(cond (cC x.2.ah !=0) (t.ah==cC x.2.ah) false||false)=false;rw[show(t.ah==cC x.2.ah)=false from h1];cases(cC x.2.ah !=0)<;>rfl) (by
          rw[G5,hz,af,Nat.zero_add];exact a2W hw) (λy hy=>by
          rw[we,hz,af]at hy;rw[List.mem_singleton.1 hy];exact ht)
        rw[yp,hz,af]at ha;exact OC P hP l _ _ _ z ma ha h
theorem a2Z(P:aq→Prop)(hP:∀k,P (Dd k)):∀(st:fW)(c:List al)(n:Nat),uh P st c n→uh P [] (Oz st c) (n+st.length)
  |[],c,n,h=>h
  |x::st,c,n,h=>by
    have:=a2Z P hP st _ _ (a2Y hP h);rw[aZ,Nat.add_comm st.length 1,←Nat.add_assoc];exact this
theorem ai0(P:aq→Prop)(hP:∀k,P (Dd k))(l:List aq)(hl:∀t∈l,P t):∃v e,rW l=some (v,e)∧((e=4∨e=20)∧v=[]∨e=0∧iz v=0∧∀t∈bH v,P t):=by
  by_cases Ad:1500<l.length
  · exact⟨[],4,ahW l Ad,Or.inl ⟨Or.inl rfl,rfl⟩⟩
  · rw[a2U l (by omega)];cases h:pz l [] []with
    |none=>exact⟨[],20,rfl,Or.inl ⟨Or.inr rfl,rfl⟩⟩
    |some z=>
      unfold Ko;dsimp only;by_cases hm:1500<l.length+z.1.length
      · rw[if_pos hm];exact⟨[],4,rfl,Or.inl ⟨Or.inl rfl,rfl⟩⟩
      · rw[if_neg hm];refine⟨_,0,rfl,Or.inr ⟨rfl,?_⟩⟩;have h0:uh P [] [] 0:=⟨by rw[eR],by rw[dR];omega,by rw[dP],λt ht=>by rw[bH]at ht;cases ht⟩;have h1:=a2Z P hP z.1 z.2 _ (OC P hP l [] [] 0 z hl h0 h);obtain⟨a1,a2,a3,a4⟩:=h1;refine⟨?_,a4⟩;unfold iz;rw[if_neg (by omega),if_neg (by omega),a1];rfl
theorem ai1:∀(n:Nat)(v:List al)(k:Int),cn v≤n→eR k v=false→cn v≤8*dP v:=by
  intro n
  induction n using Nat.strongRecOn with
  |_ n ih=>
    intro v
    induction v with
    |nil=>intro k _ _;rw[cn];omega
    |cons x v Vp=>
      intro k hn hs;rw[eR,pw]at hs;rw[cn]at hn;have hk:=oX x;have h1:=Vp k (by omega) hs.2;have rm:=hs.1;rw[G6,pw]at rm;have hz:zV x=8+cn x.cx:=by obtain⟨t,l⟩:=x;simp only[zV,zT,al.cx];omega
      rw[cn,dP,yp,hz];cases hc:(cC x.aY.ah==0)with
      |true=>
        have h2:=rm.2;rw[hc,af]at h2;have h3:=of_decide_eq_false h2;unfold ln at h3;rw[af,List.length_eq_zero_iff.1 (show x.cx.length=0 by omega),cn];omega
      |false=>
        have h2:=rm.2;rw[hc,ae]at h2;have:=ih (cn x.cx) (by omega) x.cx _ (cF _) h2;rw[ae];omega
theorem wo{v:List al}(h:iz v=0):dR v≤16∧dP v≤1500∧eR 0 v=false∧cn v≤12000:=by
  unfold iz at h;split at h
  · cases h
  · split at h
    · cases h
    · split at h
      · cases h
      · rename_i h1 h2 h3;have h3:eR 0 v=false:=by simpa using h3
        have:=ai1 _ v 0 (cF _) h3;exact⟨by omega,by omega,h3,by omega⟩
theorem a30{v:List al}(h1:dR v≤16)(h2:dP v≤1500)(h3:eR 0 v=false):iz v=0:=by
  unfold iz;rw[if_neg (by omega),if_neg (by omega),h3];rfl
def lW(s:J)(i:Nat)(L:List aq):Prop:=∃k:Nat,fq 30000 s (i:Int)=some (k:Int)∧k≤s.length∧iL s k L
theorem a32(s:J)(hs:s.length≤5000):lW s s.length []:=
  ⟨s.length,CX s (by omega) _ (cF _) (by rw[fF (cF _)];rfl),cF _,.nil⟩
theorem ai2(s:J)(hs:s.length≤50000)(i:Nat)(h0:t1 bw (s.drop i)=true)(h1:t1 bw (s.drop (i+1))=true)(h:t1 bw (s.drop (i+2))=false):jT 30000 s (i:Int)=some ((i+2:Nat):Int):=by
  unfold jT;show Option.bind (Option.bind (eP s (i:Int)) _) _=_;rw[eE,ai,nV,eF,h0,af];have hi:i+1<s.length:=by
    rcases Nat.lt_or_ge (i+1) s.length with h2|h2
    · exact h2
    · rw[fF h2]at h1;cases h1
  rw[br (by omega)];show Option.bind (Option.bind (eP s ((i+1:Nat):Int)) _) _=_;rw[eE,ai,nV,eF,h1,af,br (by omega)];show Option.bind (Option.bind (eP s ((i+2:Nat):Int)) _) _=_;rw[eE,ai,nV,eF,h];rfl
theorem a33{s:J}(hs:s.length≤5000){i j:Nat}{t:aq}{L:List aq}{b:UInt8}{r:J}(hd:s.drop i=b::r)(hb:b≠47)(h:fh 30000 s (i:Int)=some (t,(j:Int)))(cY:i<j)(hj:j≤s.length)(hr:lW s j L):lW s i (t::L):=by
  have hi:=gj hd;obtain⟨k,k1,k2,k3⟩:=hr;refine⟨i,CX s (by omega) i (by omega) ?_,by omega,.cons hi h cY hj k1 k2 k3⟩;rw[hd];unfold lU;split
  · rename_i h;injection h with h;exact absurd h hb
  · rfl
theorem OD(s:J)(hs:s.length≤5000)(i:Nat)(r:J)(L:List aq)(hd:s.drop i=32::r)(h:t1 bw r=false)(hr:lW s (i+1) L):lW s i (df::L):=
  a33 hs hd (by decide) ((Ut s hs i 32 r (by kernel_rfl) hd).1 h) (by omega) (gj hd) hr
theorem ai3(s:J)(hs:s.length≤5000)(i:Nat)(r:J)(L:List aq)(hd:s.drop i=32::32::r)(h:t1 bw r=false)(hr:lW s (i+2) L):lW s i (df::L):=by
  have h1:=jg hd;have h2:=jg h1;have hc:bw 32=true:=by kernel_rfl
  refine a33 hs hd (by decide) ?_ (by omega) (gj h1) hr;rw[mX s hs i _ _ hd,a1P (T:=32::32::r) hc];show Option.bind (jT 30000 s (i:Int)) _=_;rw[ai2 s (by omega) i (by rw[hd];exact hc) (by rw[h1];exact hc) (by rw[show i+2=i+1+1 from rfl,h2];exact h)];rfl
theorem ai4{l:List It}{x:J}{d:UInt8}{q:J}(hx:sE x)(h:aC l++x=48::46::d::q)(hd:aK d=true):∃q',aC l=48::46::d::q':=by
  have hn:∀b y,x=b::y→K6 b=true:=λb y e=>by rw[e]at hx;exact hx
  cases h1:aC l with
  |nil=>
    rw[h1]at h;have:=hn _ _ h;cases this
  |cons a l1=>
    rw[h1]at h;injection h with e1 h;cases l1 with
    |nil=>
      have:=hn _ _ h;cases this
    |cons b l2=>
      injection h with e2 h;cases l2 with
      |nil=>
        have h3:=hn _ _ h;have h4:aK d=false:=by
          have:=(O3 hx).d;rw[show x=d::q from h]at this;exact this
        rw[hd]at h4;cases h4
      |cons c l3=>
        injection h with e3 h;rw[e1,e2,e3];exact⟨l3,rfl⟩
theorem G9(s:J)(hs:s.length≤5000)(x:J)(hx:sE x)(L:List aq):∀(n:Nat)(l:List It)(i:Nat),l.length≤n→Good l []→Good l x→i≤s.length→s.drop i=aC l++x→lW s (i+(aC l).length) L→lW s i (l.map It.t++L)
  |_,[],i,hn,h,h',hi,hd,hr=>hr
  |0,y::l,i,hn,h,h',hi,hd,hr=>by simp at hn
  |n+1,y::l,i,hn,h,h',hi,hd,hr=>by
    have hn:l.length≤n:=by simp at hn;omega
    obtain⟨h1,h2,h3⟩:=h';have g3:=h.2.2;have hd:s.drop i=(dz y.sep++(y.w++aC l))++x:=hd;rw[c7,c7]at hd;have hr:lW s (i+(dz y.sep++(y.w++aC l)).length) L:=hr;rw[bB,bB]at hr;obtain⟨a1,a2,a3,a4⟩:=K5 s hs i hi y h1 (aC l++x) (a1X h2) hd;refine⟨_,a1,by omega,?_⟩;rcases h2 with h2|h2
    · have nh:=Ux y.t h1.fi h1.len y.w h1.wt s hs _ (by omega) (aC l++x) a2 h2;obtain⟨k,k1,k2,k3⟩:=G9 s hs x hx L n l _ hn g3 h3 a3 (mu a2) (by
        rw[show i+(dz y.sep).length+y.w.length+(aC l).length=i+((dz y.sep).length+(y.w.length+(aC l).length))from by omega];exact hr)
      exact .cons (by omega) nh (by omega) a3 k1 k2 k3
    · obtain⟨m,e1,e2⟩:=UK h1 h2;obtain⟨_,_,d,q,V3,iO⟩:=h2;obtain⟨q',iF⟩:=ai4 hx V3 iO;obtain⟨y2,l',z,rfl,y1,y3,y4⟩:=UI g3 iF iO;have a2':=a2;rw[iF]at a2;have nh:=UH e2 s hs (i+(dz y.sep).length) (by omega) d (q'++x) (by rw[a2];rfl);rw[←e1]at nh;have hz:aC (y2::l')=48::aC (⟨false,46::z,y2.t⟩::l'):=by
        show dz y2.sep++(y2.w++aC l')=_;rw[y1,y3];rfl
      have iP:s.drop (i+(dz y.sep).length+y.w.length+1)=aC (⟨false,46::z,y2.t⟩::l')++x:=by
        rw[←List.drop_drop,mu a2',hz];rfl
      have hlen:i+(dz y.sep).length+y.w.length+1≤s.length:=by
        have:=sD (by omega) a2;simp only[aZ,bB]at this;omega
      have TJ:=congrArg List.length hz;rw[aZ]at TJ;obtain⟨k,k1,k2,k3⟩:=G9 s hs x hx L n (⟨false,46::z,y2.t⟩::l') _ hn ⟨y4,g3.2.1,g3.2.2⟩ ⟨y4,h3.2.1,h3.2.2⟩ hlen iP (by
        rw[show i+(dz y.sep).length+y.w.length+1+(aC (⟨false,46::z,y2.t⟩::l')).length=i+((dz y.sep).length+(y.w.length+(aC (y2::l')).length))from by omega];exact hr)
      exact .cons (by omega) nh (by omega) hlen k1 k2 k3
theorem ai5(l:List It)(x:J)(hx:sE x)(hg:Good l [])(hl:∀y,l.getLast?=some y→y.t≠df):Good l x:=by
  rcases List.eq_nil_or_concat l with rfl|⟨a,y,rfl⟩
  · trivial
  · rw[List.concat_eq_append]at hg hl⊢;have hy:y.t≠df:=hl y (by simp);obtain⟨g1,g2⟩:=(FX a [y] []).1 hg;obtain⟨k1,k2,_⟩:=g2;rw[List.append_nil]at g1;have k2:okB y.t []=true∨Sh y.t []:=k2;have k2:okB y.t []=true:=by
      rcases k2 with h|⟨_,_,d,q,h,_⟩
      · exact h
      · cases h
    refine(FX a [y] x).2 ⟨?_,k1,Or.inl ?_,trivial⟩
    · exact Om a _ _ (Or.inr hx) (Or.inl (Od k1)) g1
    · exact a25 y.t k1.fi [] x (Or.inr hx) (λh=>absurd h hy) k2
theorem a34(s:J)(hs:s.length≤4000):∀(l:List aq)(i n kk:Nat)(acc:List aq),iL s i l→l.length<kk→1500<n+l.length→n≤1500→acc.length+l.length≤9000→
    ∃x:Int×List aq,mI 30000 (s,0) kk (n:Int) (i:Int) acc=some (.inl x)∧x.1=4
  |[],i,n,kk,acc,h,hk,hn,kD,ha=>by simp at hn;omega
  |t::l,i,n,kk,acc,h,hk,hn,kD,ha=>by
    obtain⟨kk,rfl⟩:∃q,kk=q+1:=⟨kk-1,by simp at hk;omega⟩;rw[aZ]at hk hn ha;cases h with
    |cons h1 h2 h3 h4 h5 h6 h7=>
      rename_i j k;rw[mI,show decide ((i:Int)<ln ((s,(0:Int)):J×Int).1)=true from dM h1,af,br (by omega)];by_cases hm:1500<n+1
      · rw[bC (by omega)];exact⟨_,rfl,rfl⟩
      · obtain⟨t',e,n1,n2,n3,n4⟩:=NI 30000 s hs (by omega) i h1;rw[h2]at n2;injection n2 with n2;injection n2 with n2 UE;subst n2;rw[←UE]at n1;rw[bV (by omega),ae,show vc 30000 ((s,(0:Int)):J×Int).1 (i:Int)=_ from n1,ai];unfold BD;rw[aL (by unfold ln;simp only[aZ,bW];omega),lt_eq,ai,show fq 30000 ((s,(0:Int)):J×Int).1 ((t,(j:Int)):aq×Int).2=_ from h5,ai];exact a34 s hs l k (n+1) kk (acc++[t]) h7 (by omega) (by omega) (by omega) (by rw[bB,aZ,bW];omega)
theorem ai6(s:J)(hs:s.length≤4000)(hc:ee s=false)(L:List aq)(h:lW s 0 L):iG 30000 s=some (L,0)∧L.length≤1500∨∃l,iG 30000 s=some (l,4):=by
  obtain⟨k,k1,k2,k3⟩:=h;have k1:fq 30000 s 0=some (k:Int):=k1;have hl:=V8 (by omega) k3;by_cases hm:L.length≤1500
  · exact Or.inl ⟨UF s hs hc k k1 L k3 hm,hm⟩
  · right;unfold iG xi;have hq:gU s=(s,0):=by rw[FT s hs,FR s hc]
    obtain⟨x,x1,x2⟩:=a34 s hs L k 0 30000 [] k3 (by omega) (by omega) (by omega) (by simp;omega);rw[hq,lt_eq,show(((s,(0:Int)):J×Int).2 !=0)=false from rfl,ae,show fq 30000 ((s,(0:Int)):J×Int).1 0=_ from k1,ai];rw[show mI 30000 (s,0) 30000 0 (k:Int) []=_ from x1,ai];show∃l,Option.bind (some x) _=some (l,4);rw[ai,x2];exact⟨_,rfl⟩
def lp(x:al):Bool:=x.aY.ah==13
def lf:List al→List al
  |[]=>[]
  |x::r=>cond (lp x) (lf r) (x::r)
def rt(v:List al):List al:=(lf v.reverse).reverse
theorem Aj(a:List al)(x:al):rt (a++[x])=cond (lp x) (rt a) (a++[x]):=by
  unfold rt;rw[List.reverse_append];show(lf (x::a.reverse)).reverse=_;rw[lf];cases lp x with
  |true=>rfl
  |false=>rw[ae,ae,List.reverse_cons,List.reverse_reverse]
def yw(v:List al):Prop:=∀x r,v=x::r→lp x=false
def ui(v:List al):Prop:=∀a x,v=a++[x]→lp x=false
theorem Vr:∀v,yw (lf v)
  |[]=>λx r h=>by cases h
  |y::v=>by
    rw[lf];cases h:lp y with
    |true=>exact Vr v
    |false=>
      intro x r e;rw[ae]at e;injection e with e _;rw[←e];exact h
theorem a35(v:List al):ui (rt v):=by
  intro a x h;unfold rt at h;have h2:=congrArg List.reverse h;rw[List.reverse_reverse,List.reverse_append]at h2;exact Vr v.reverse x a.reverse h2
theorem Vs{v:List al}(h:yw v):lf v=v:=by
  cases v with
  |nil=>rfl
  |cons x r=>rw[lf,h x r rfl];rfl
theorem ai7{v:List al}(h:ui v):rt v=v:=by
  rcases List.eq_nil_or_concat v with rfl|⟨a,x,rfl⟩
  · rfl
  · rw[List.concat_eq_append]at h⊢;rw[Aj,h a x rfl];rfl
theorem wq:∀v:List al,lf v <:+ v
  |[]=>List.suffix_refl _
  |x::r=>by
    rw[lf];cases lp x with
    |true=>exact(wq r).trans (List.suffix_cons x r)
    |false=>exact List.suffix_refl _
theorem Df(v:List al):rt v <+: v:=by
  obtain⟨t,h⟩:=wq v.reverse;refine⟨t.reverse,?_⟩;unfold rt;rw[←List.reverse_append,h,List.reverse_reverse]
theorem ai8{a v:List al}(h:a <+: v)(hv:yw v):yw a:=by
  obtain⟨t,rfl⟩:=h;intro x r e;rw[e]at hv;exact hv x (r++t) rfl
theorem ai9{a v:List al}(h:a <:+ v)(hv:ui v):ui a:=by
  obtain⟨t,rfl⟩:=h;intro b x e;rw[e]at hv;exact hv (t++b) x (by rw[c7])
theorem Vt:∀a b:List al,cn (a++b)=cn a+cn b
  |[],b=>by rw[List.nil_append,cn,Nat.zero_add]
  |x::a,b=>by rw[List.cons_append,cn,cn,Vt a b];omega
theorem Vu{a v:List al}(h:a <:+: v):cn a≤cn v:=by
  obtain⟨s,t,rfl⟩:=h;rw[Vt,Vt];omega
theorem OE{a v:List al}(h:a <:+: v)(hv:iz v=0):iz a=0:=by
  obtain⟨s,t,rfl⟩:=h;obtain⟨h1,h2,h3,_⟩:=wo hv;rw[wk,wk]at h1;rw[Kr,Kr]at h2;rw[wj,wj,pw,pw]at h3;exact a30 (by omega) (by omega) h3.1.2
theorem Ga{a v:List al}(h:a <:+: v){t:aq}(ht:t∈bH a):t∈bH v:=by
  obtain⟨s,r,rfl⟩:=h;rw[wm,wm];exact List.mem_append_left _ (List.mem_append_right _ ht)
theorem a36{a v:List al}(h:a <:+: v):a.length≤v.length:=h.length_le
theorem a38:∀(v:List al)(kk:Nat),v.length<kk→Eu 30000 kk v=some (lf v)
  |v,0,h=>by omega
  |[],kk+1,_=>rfl
  |x::r,kk+1,h=>by
    rw[aZ]at h;have e:decide (0<ln (x::r))=true:=bC (by unfold ln;rw[aZ];omega);rw[Eu,e,aL (λ_=>⟨Int.le_refl _,by unfold ln;rw[aZ];omega⟩),af,lt_eq,lf];show cond (lp x) _ _=_;cases lp x with
    |true=>
      rw[af,af,aL ⟨by omega,by unfold ln;rw[aZ];omega,Int.le_refl _⟩,show dD (x::r) 1 (ln (x::r))=r from w9 (x::r) 1,lt_eq];exact a38 r kk (by omega)
    |false=>rfl
theorem Vv(v:List al)(h:v.length<30000):BN 30000 v=some (lf v):=by
  unfold BN;rw[a38 v 30000 h];rfl
theorem Vw(a:List al)(x:al)(h:a.length≤100000):aa (ln (a++[x])-1)=(a.length:Int):=by
  unfold ln;rw[bB,List.length_singleton,cT (by omega) (by omega)];omega
theorem aia(a:List al)(x:al):dD (a++[x]) 0 (a.length:Int)=a:=by
  rw[show(0:Int)=((0:Nat):Int)from rfl,FY,fG,Nat.sub_zero,List.take_left]
theorem aib:∀(n:Nat)(v:List al)(kk:Nat),v.length≤n→v.length<kk→v.length≤50000→Ev 30000 kk v=some (rt v):=by
  intro n
  induction n with
  |zero=>
    intro v kk hn hk _;obtain rfl:v=[]:=List.length_eq_zero_iff.1 (by omega);obtain⟨kk,rfl⟩:∃q,kk=q+1:=⟨kk-1,by simp at hk;omega⟩;rfl
  |succ n ih=>
    intro v kk hn hk h5;obtain⟨kk,rfl⟩:∃q,kk=q+1:=⟨kk-1,by omega⟩;rcases List.eq_nil_or_concat v with rfl|⟨a,x,rfl⟩
    · rfl
    · rw[List.concat_eq_append]at hn hk h5⊢;rw[bB,List.length_singleton]at hn hk h5;have e:decide (0<ln (a++[x]))=true:=bC (by unfold ln;rw[bB,List.length_singleton];omega);have el:ln (a++[x])=(a.length:Int)+1:=by unfold ln;rw[bB,List.length_singleton];rfl
      rw[Ev,e,Vw a x (by omega),aL (λ_=>⟨by omega,by omega⟩),af,lt_eq,Ai a x _ rfl,Aj];show cond (lp x) _ _=_;cases lp x with
      |true=>
        rw[af,af,aL ⟨by omega,by omega,by omega⟩,aia,lt_eq];exact ih a kk (by omega) (by omega) (by omega)
      |false=>rfl
theorem Vx(v:List al)(h:v.length<30000):xn 30000 v=some (rt v):=by
  unfold xn;rw[aib v.length v 30000 (cF _) h (by omega)];rfl
theorem aic(v:List al)(i:Nat)(h:i<v.length):cy v (i:Int) (al.mk (gi v (i:Int)).aY (gi v (i:Int)).cx)=v:=by
  rw[Vo,iq v i h];unfold cy;rw[show((i:Int)).toNat=i from Int.toNat_natCast i,List.set_getElem_self]
theorem aid:∀(k:Nat)(v:List al),cn v<k→cn v≤20000→zB 30000 k v=some v:=by
  intro k
  induction k with
  |zero=>intro v h;omega
  |succ k ih=>
    intro v h hb;have hl:=ni v;have H:∀(kk i:Nat),v.length-i<kk→Eo 30000 v (zB 30000 k) kk v (i:Int)=some v:=by
      intro kk
      induction kk with
      |zero=>intro i h;omega
      |succ kk ih2=>
        intro i h;rw[Eo];by_cases h1:i<v.length
        · have h3:=wb (yn h1);have h4:=oX (gi v (i:Int));rw[dM h1,af,dN h1,ih _ (by omega) (by omega),ai,lt_eq,aic v i h1,br (by omega),ih2 (i+1) (by omega)]
        · rw[eS (by omega)];rfl
    rw[zB];unfold Mf;rw[aL (by unfold ln;rw[bW];omega),lt_eq,ai];show Option.bind (Eo 30000 v (zB 30000 k) 30000 v ((0:Nat):Int)) _=_;rw[H 30000 0 (by omega)];rfl
theorem Vy(v:List al)(hb:cn v≤20000):Ep 30000 v=some v:=aid 30000 v (by omega) hb
theorem aie{v:List al}(hl:v.length≤20000)(h1:yw v)(h2:ui v):cond (decide (0<ln v)) (cond (re v) true (rf v)) false=false:=by
  rcases List.eq_nil_or_concat v with rfl|⟨a,x,rfl⟩
  · rfl
  · rw[List.concat_eq_append]at*;have e0:re (a++[x])=false:=by
      cases hv:a++[x]with
      |nil=>simp at hv
      |cons y r=>exact h1 y r hv
    have e1:rf (a++[x])=false:=by
      unfold rf;rw[bB,List.length_singleton]at hl;rw[Vw a x (by omega),Ai a x _ rfl];exact h2 a x rfl
    rw[e0,e1];cases decide (0<ln (a++[x]))<;>rfl
theorem aif{v:List al}(hl:v.length≤20000)(h:cond (decide (0<ln v)) (cond (re v) true (rf v)) false=false):yw v∧ui v:=by
  constructor
  · intro x r e;rw[e]at h;rw[bC (by unfold ln;rw[aZ];omega),af]at h;cases h0:re (x::r)with
    |true=>rw[h0]at h;cases h
    |false=>exact h0
  · intro a x e;rw[e]at h hl;rw[bB,List.length_singleton]at hl;rw[bC (by unfold ln;rw[bB,List.length_singleton];omega),af]at h;cases h0:rf (a++[x])with
    |true=>rw[h0]at h;cases hh:re (a++[x])<;>rw[hh]at h<;>cases h
    |false=>
      unfold rf at h0;rw[Vw a x (by omega),Ai a x _ rfl]at h0;exact h0
theorem aih(v:List al)(hb:cn v≤20000)(hc:iz v=0)(hs:cond (decide (0<ln v)) (cond (re v) true (rf v)) false=false):I7 30000 v=some (v,0):=by
  have hl:=ni v;unfold I7;rw[Ox 30000 (by decide) v hb,hc];have e1:Ex 30000 v 30000 0=some 0:=by
    show Ex 30000 v (29999+1) 0=_;rw[Ex];cases h0:decide (0<ln v)
    · rfl
    · rw[h0]at hs;have h1:=gS h0;have:re v=false:=by revert hs;cases re v<;>intro hs<;>first|rfl|exact Bool.noConfusion hs
      unfold Ew;rw[aL ⟨Int.le_refl _,h1⟩];unfold re at this;rw[this];rfl
  have e2:BP 30000 v 0 30000 (ln v)=some (ln v):=by
    show BP 30000 v 0 (29999+1) (ln v)=_;rw[BP];cases h0:decide (0<ln v)
    · rfl
    · rw[h0]at hs;have h1:=gS h0;have:rf v=false:=by revert hs;cases re v<;>cases rf v<;>intro hs<;>first|rfl|exact Bool.noConfusion hs
      unfold Ew;rw[aL (a2M (by unfold ln at h1;omega) (by omega))];unfold rf at this;rw[this];rfl
  rw[e1];show Option.bind (BP 30000 v 0 30000 (ln v)) _=_;rw[e2];show aB (0≤(0:Int)∧(0:Int)≤ln v∧ln v≤ln v) (Option.bind (Ep 30000 (dD v 0 (ln v))) _)=_;rw[aL ⟨Int.le_refl _,by unfold ln;omega,Int.le_refl _⟩];rw[show dD v 0 (ln v)=v from by rw[show(0:Int)=((0:Nat):Int)from rfl,w9];rfl,Vy v hb];rfl
def jl:List al→List al→List (List al)
  |a,[]=>[a]
  |a,x::r=>cond (x.aY.ah==17) (a::jl [] r) (jl (a++[x]) r)
theorem OG:∀(v a p:List al),p∈jl a v→p <:+: a++v
  |[],a,p,h=>by
    rw[jl]at h;rw[List.mem_singleton.1 h,List.append_nil];exact List.infix_refl _
  |x::r,a,p,h=>by
    rw[jl]at h;cases hk:x.aY.ah==17 with
    |true=>
      rw[hk,af]at h;rcases List.mem_cons.1 h with rfl|h
      · exact(List.prefix_append p (x::r)).isInfix
      · have h1:=OG r [] p h;rw[List.nil_append]at h1;exact h1.trans ((List.suffix_cons x r).trans (List.suffix_append a (x::r))).isInfix
    |false=>
      rw[hk,ae]at h;have h1:=OG r (a++[x]) p h;rw[c7]at h1;exact h1
theorem Vz:∀(v a:List al),(jl a v).length≤v.length+1
  |[],a=>cF _
  |x::r,a=>by
    have h1:=Vz r [];have h2:=Vz r (a++[x]);rw[jl,aZ];cases x.aY.ah==17
    · rw[ae];omega
    · rw[af,aZ];omega
theorem VA:∀(u a w:List al),(∀x∈u,(x.aY.ah==17)=false)→jl a (u++w)=jl (a++u) w
  |[],a,w,h=>by rw[List.nil_append,List.append_nil]
  |x::u,a,w,h=>by
    rw[List.cons_append,jl,h x List.mem_cons_self,ae,VA u _ w (λy hy=>h y (List.mem_cons_of_mem _ hy)),c7];rfl
theorem aii(v:List al)(f i:Nat)(hf:f≤i)(hi:i<v.length):(v.drop f).take (i+1-f)=(v.drop f).take (i-f)++[v[i]]:=by
  rw[show i+1-f=(i-f)+1 from by omega,List.take_succ_eq_append_getElem (by rw[List.length_drop];omega)];congr 2;rw[List.getElem_drop];congr 1;omega
theorem aij(v:List al)(hb:cn v≤20000):∀(kk i f:Nat)(o:List (List al)),v.length-i<kk→f≤i→i≤v.length→o.length≤i→∃(o':List (List al))(f':Nat),Er 30000 v 17 kk o (f:Int) (i:Int)=some (o',(f':Int))∧f'≤v.length∧o'.length≤v.length∧o'++[v.drop f']=o++jl ((v.drop f).take (i-f)) (v.drop i):=by
  have hl:=ni v;intro kk
  induction kk with
  |zero=>intro i f o h;omega
  |succ kk ih=>
    intro i f o hk hf hi ho;rw[Er];by_cases aM:i<v.length
    · rw[dM aM,af,dN aM,iq v i aM,gp aM,jl];cases hk7:v[i].aY.ah==17 with
      |true=>
        have hz:cn ((v.drop f).take (i-f))≤20000:=by
          have h1:(v.drop f).take (i-f) <:+: v:=(List.take_prefix _ _).isInfix.trans (List.drop_suffix f v).isInfix;have:=Vu h1;omega
        rw[af,af,aL ⟨by omega,by omega,by unfold ln;omega⟩,FY,lt_eq,Vy _ hz,ai,aL (by unfold ln;simp only[aZ,bW];omega),lt_eq,ai];dsimp only;rw[br (by omega)];obtain⟨o',f',h1,h2,h3,h4⟩:=ih (i+1) (i+1) (o++[(v.drop f).take (i-f)]) (by omega) (cF _) aM (by rw[bB,List.length_singleton];omega);refine⟨o',f',h1,h2,h3,?_⟩;rw[h4,Nat.sub_self,List.take_zero,c7];rfl
      |false=>
        rw[ae,ae,ai];dsimp only;rw[br (by omega)];obtain⟨o',f',h1,h2,h3,h4⟩:=ih (i+1) f o (by omega) (by omega) aM (by omega);refine⟨o',f',h1,h2,h3,?_⟩;rw[h4,aii v f i hf aM]
    · rw[eS (by omega),ae];refine⟨o,f,rfl,by omega,by omega,?_⟩;rw[fF (by omega:v.length≤i),jl,List.take_of_length_le (by rw[List.length_drop];omega)]
theorem aik(v:List al)(hb:cn v≤20000)(hc:iz v=0):I5 30000 v 17=some (jl [] v,0):=by
  have hl:=ni v;unfold I5;rw[Ox 30000 (by decide) v hb,hc,ai];obtain⟨o',f',h1,h2,h3,h4⟩:=aij v hb 30000 0 0 [] (by omega) (cF _) (dE _) (cF _);have hz:cn (v.drop f')≤20000:=by have:=Vu (List.drop_suffix f' v).isInfix;omega
  rw[show((0:Int) !=0)=false from rfl,ae,lt_eq];show Option.bind (Er 30000 v 17 30000 [] ((0:Nat):Int) ((0:Nat):Int)) _=_;rw[h1,ai];dsimp only;rw[aL ⟨by omega,by unfold ln;omega,Int.le_refl _⟩,w9,lt_eq,Vy _ hz,ai,aL (by unfold ln;simp only[aZ,bW];omega),lt_eq,h4,List.nil_append];rfl
def o0:J:=[105,109,112,111,114,116,97,110,116]
def Ak(x:al):Bool:=cond (x.aY.ah==1) (lw x.aY.az==lw o0) false
def bg(x:al):Bool:=cond (x.aY.ah==9) (x.aY.az==[33]) false
def gM(u:List al):al:=gi u ((u.length-1:Nat):Int)
theorem a39(a:List al)(x:al):gM (a++[x])=x:=by
  unfold gM;rw[bB,List.length_singleton,Nat.add_sub_cancel];exact Ai a x _ rfl
theorem a3a{u:List al}(h:0<u.length):gM u∈u:=yn (by omega)
def marked(u:List al):List al×Bool:=
  cond (cond (decide (1<u.length)) (Ak (gM u)) false)
    (cond (cond (decide (0<(rt u.dropLast).length)) (bg (gM (rt u.dropLast))) false) (rt (rt u.dropLast).dropLast,true) (u,false))
    (u,false)
theorem a3b(u:List al)(h:0<u.length)(hl:u.length≤20000):aa (ln u-1)=((u.length-1:Nat):Int):=by
  unfold ln;rw[cT (by omega) (by omega)];omega
theorem a3c(u:List al):dD u 0 ((u.length-1:Nat):Int)=u.dropLast:=by
  rw[show(0:Int)=((0:Nat):Int)from rfl,FY,fG,Nat.sub_zero,List.dropLast_eq_take]
theorem ail(u:List al)(hl:u.length≤20000)(ht:∀x∈u,x.aY.az.length≤20000):
  (aB (decide (0<aa (ln u-1))=true→0≤aa (ln u-1)∧aa (ln u-1)<ln u)<|
  lt (cond (decide (0<aa (ln u-1))) (cX (gi u (aa (ln u-1))) 1) false) λoE=>
  aB (oE=true→0≤aa (ln u-1)∧aa (ln u-1)<ln u)<|
  Option.bind (cond oE (rS 30000 (gi u (aa (ln u-1))).aY.az [105,109,112,111,114,116,97,110,116]) (some default)) λMt=>
  cond (cond oE Mt false) (
  aB (0≤(0:Int)∧(0:Int)≤aa (ln u-1)∧aa (ln u-1)≤ln u)<|
  lt (dD u (0:Int) (aa (ln u-1))) λMu=>
  Option.bind (xn 30000 Mu) λdI=>
  aB (decide (0<ln dI)=true→0≤aa (ln dI-1)∧aa (ln dI-1)<ln dI)<|
  lt (vh (gi dI (aa (ln dI-1)))) λiH=>
  cond (cond (decide (0<ln dI)) iH false) (
  aB (0≤(0:Int)∧(0:Int)≤aa (ln dI-1)∧aa (ln dI-1)≤ln dI)<|
  lt (dD dI (0:Int) (aa (ln dI-1))) λMv=>
  Option.bind (xn 30000 Mv) λED=>
  some (ED,true)) (
  some (u,false))) (
  some (u,false)))=some (marked u):=by
  unfold marked;by_cases h0:u.length=0
  · obtain rfl:u=[]:=List.length_eq_zero_iff.1 h0;rfl
  · have e1:=a3b u (by omega) hl;have e2:decide (0<((u.length-1:Nat):Int))=decide (1<u.length):=by
      by_cases h:1<u.length
      · rw[bC h,bC (by omega)]
      · rw[bV h,bV (by omega)]
    have hb:0≤((u.length-1:Nat):Int)∧((u.length-1:Nat):Int)<ln u:=⟨by omega,by unfold ln;omega⟩;rw[e1,e2,aL (λ_=>hb),lt_eq,aL (λ_=>hb)];rw[show gi u ((u.length-1:Nat):Int)=gM u from rfl,Vc (gM u).aY.az _ (ht _ (a3a (by omega))) (by decide)];have e3:(Option.bind (cond (cond (decide (1<u.length)) (cX (gM u) 1) false) (some (lw (gM u).aY.az==lw o0)) (some default)):(Bool→Option (List al×Bool))→Option (List al×Bool))=λf=>f (cond (cond (decide (1<u.length)) (cX (gM u) 1) false) (lw (gM u).aY.az==lw o0) default):=by
      funext f;cases cond (decide (1<u.length)) (cX (gM u) 1) false<;>rfl
    show Option.bind (cond (cond (decide (1<u.length)) (cX (gM u) 1) false) (some (lw (gM u).aY.az==lw o0)) (some default)) _=_;rw[e3];have e4:cond (cond (decide (1<u.length)) (cX (gM u) 1) false) (cond (cond (decide (1<u.length)) (cX (gM u) 1) false) (lw (gM u).aY.az==lw o0) default) false=cond (decide (1<u.length)) (Ak (gM u)) false:=by
      unfold Ak cX;cases decide (1<u.length)<;>cases((gM u).aY.ah==1)<;>rfl
    show cond (cond (cond (decide (1<u.length)) (cX (gM u) 1) false) (cond (cond (decide (1<u.length)) (cX (gM u) 1) false) (lw (gM u).aY.az==lw o0) default) false) _ _=_;rw[e4];cases hI:cond (decide (1<u.length)) (Ak (gM u)) false with
    |false=>rfl
    |true=>
      have hr:=(Df u.dropLast).length_le;rw[List.length_dropLast]at hr;rw[af,af,aL ⟨Int.le_refl _,hb.1,Int.le_of_lt hb.2⟩,a3c,lt_eq,Vx _ (by rw[List.length_dropLast];omega),ai];generalize rt u.dropLast=w at hr;by_cases hw:w.length=0
      · obtain rfl:w=[]:=List.length_eq_zero_iff.1 hw;rfl
      · have f1:=a3b w (by omega) (by omega);have f2:decide (0<ln w)=decide (0<w.length):=by
          rw[bC (by unfold ln;omega),bC (by omega)]
        have fb:0≤((w.length-1:Nat):Int)∧((w.length-1:Nat):Int)<ln w:=⟨by omega,by unfold ln;omega⟩;rw[f1,f2,aL (λ_=>fb),lt_eq,show vh (gi w ((w.length-1:Nat):Int))=bg (gM w)from rfl];cases cond (decide (0<w.length)) (bg (gM w)) false with
        |false=>rfl
        |true=>
          rw[af,af,aL ⟨Int.le_refl _,fb.1,Int.le_of_lt fb.2⟩,a3c,lt_eq,Vx _ (by rw[List.length_dropLast];omega)];rfl
def pS(s:J):J:=cond (kR s) s (lw s)
def Ks:List al→Option bJ
  |[]=>none
  |x::r=>cond (x.aY.ah==1) (
    match lf r with
    |[]=>none
    |y::r2=>cond (y.aY.ah==16) (cond (ug (bJ.mk (pS x.aY.az) (marked (lf r2)).1 (marked (lf r2)).2)) none (some (bJ.mk (pS x.aY.az) (marked (lf r2)).1 (marked (lf r2)).2))) none) none
def uj(v:List al):Option bJ:=Ks (rt (lf v))
def a3d:Option bJ→bJ×Bool
  |none=>(bJ.mk [] [] false,false)
  |some d=>(d,true)
theorem VB(u:List al):(marked u).1 <+: u:=by
  unfold marked;cases cond (decide (1<u.length)) (Ak (gM u)) false with
  |false=>exact List.prefix_refl _
  |true=>
    rw[af];cases cond (decide (0<(rt u.dropLast).length)) (bg (gM (rt u.dropLast))) false with
    |false=>exact List.prefix_refl _
    |true=>exact(Df _).trans ((List.dropLast_prefix _).trans ((Df _).trans (List.dropLast_prefix _)))
theorem aim(u:List al)(h:ui u):ui (marked u).1:=by
  unfold marked;cases cond (decide (1<u.length)) (Ak (gM u)) false with
  |false=>exact h
  |true=>
    rw[af];cases cond (decide (0<(rt u.dropLast).length)) (bg (gM (rt u.dropLast))) false with
    |false=>exact h
    |true=>exact a35 _
theorem VC:∀{v:List al}{x:al},x∈v→x.aY∈bH v
  |y::v,x,h=>by
    rw[bH];rcases List.mem_cons.1 h with rfl|h
    · apply List.mem_append_left;rw[we];cases(cC x.aY.ah==0)
      · exact List.mem_cons_self
      · exact List.mem_singleton.2 rfl
    · exact List.mem_append_right _ (VC h)
theorem ain(s:J)(hs:s.length≤20000):(lw s).length=s.length:=by
  have H:∀(kk i:Nat)(l l':List Int),i≤s.length→l.length=s.length→xd 30000 s kk (i:Int) l=some l'→l'.length=s.length:=by
    intro kk
    induction kk with
    |zero=>intro i l l' _ _ h;cases h
    |succ kk ih=>
      intro i l l' hi hl h;rw[xd]at h;rcases gJ h with⟨h1,h⟩|⟨_,h⟩
      · have kf:=gS h1;unfold ln at kf;rw[Vb]at kf;obtain⟨z,hz,h⟩:=eQ h;obtain⟨_,hz⟩:=bM hz;rw[lt_eq]at hz;rw[br (by omega)]at h;refine ih (i+1) z l' (by omega) ?_ h;rcases gJ hz with⟨_,hz⟩|⟨_,hz⟩
        · rw[lt_eq]at hz;injection hz with hz;rw[←hz,LK,List.length_set];exact hl
        · injection hz with hz;rw[←hz];exact hl
      · injection h with h;rw[←h];exact hl
  have h:=Kf s hs;unfold qG at h;obtain⟨l,h1,h2⟩:=eQ h;injection h2 with h2;rw[←h2];have:=H 30000 0 (ax s) l (dE _) (Vb s) h1;show(bD l).length=_;unfold bD;rw[List.length_map];exact this
theorem aio(s:J)(hs:s.length≤20000):(pS s).length=s.length:=by
  unfold pS;cases kR s
  · exact ain s hs
  · rfl
theorem aip(p:List al)(hc:iz p=0)(ht:∀t∈bH p,tz t≤4500):Im 30000 p=some (a3d (uj p)):=by
  obtain⟨_,_,_,hz⟩:=wo hc;have hl:=ni p;have hl1:=(wq p).length_le;have ma:=(Df (lf p)).length_le;have fO:rt (lf p) <:+: p:=(Df _).isInfix.trans (wq p).isInfix;have hnr:=a35 (lf p);unfold Im uj;rw[Vv p (by omega),ai,Vx _ (by omega),ai];generalize rt (lf p)=v at fO hnr ma;have hvl:=a36 fO;cases v with
  |nil=>rfl
  |cons x r=>
    have e0:(ln (x::r)==0)=false:=bE.2 (by unfold ln;rw[aZ];omega);have hb:0≤(0:Int)∧(0:Int)<ln (x::r):=⟨Int.le_refl _,by unfold ln;rw[aZ];omega⟩;have iD:0≤(1:Int)∧(1:Int)≤ln (x::r)∧ln (x::r)≤ln (x::r):=⟨by omega,by unfold ln;rw[aZ];omega,Int.le_refl _⟩;rw[aZ]at hvl;rw[aL (λ_=>hb),e0,ae,lt_eq,show gi (x::r) (0:Int)=x from rfl,Ks];show cond (!(x.aY.ah==1)) _ _=_;cases hk:x.aY.ah==1 with
    |false=>rfl
    |true=>
      have hx:x.aY.az.length≤4500:=by
        have:=ht _ (Ga fO (VC List.mem_cons_self));unfold tz at this;omega
      rw[dK,ae,af,aL hb,Oq,ai,Kf x.aY.az (by omega),ai];have en:cond (!(kR x.aY.az)) (some (lw x.aY.az)) (some x.aY.az)=some (pS x.aY.az):=by
        unfold pS;cases kR x.aY.az<;>rfl
      rw[en,ai,aL iD,show dD (x::r) 1 (ln (x::r))=r from w9 (x::r) 1,lt_eq,Vv r (by omega),ai];have nh:lf r <:+ x::r:=(wq r).trans (List.suffix_cons x r);have VD:=nh.length_le;rw[aZ]at VD;generalize lf r=q at nh VD;cases q with
      |nil=>rfl
      |cons y r2=>
        have f0:(ln (y::r2)==0)=false:=bE.2 (by unfold ln;rw[aZ];omega);have fb:0≤(0:Int)∧(0:Int)<ln (y::r2):=⟨Int.le_refl _,by unfold ln;rw[aZ];omega⟩;have fb1:0≤(1:Int)∧(1:Int)≤ln (y::r2)∧ln (y::r2)≤ln (y::r2):=⟨by omega,by unfold ln;rw[aZ];omega,Int.le_refl _⟩;rw[aZ]at VD;rw[aL (λ_=>fb),f0,ae,lt_eq,show gi (y::r2) (0:Int)=y from rfl];show cond (!(y.aY.ah==16)) _ _=some (a3d (cond (y.aY.ah==16) _ none));cases dq:y.aY.ah==16 with
        |false=>rfl
        |true=>
          rw[dK,ae,af,aL fb1,show dD (y::r2) 1 (ln (y::r2))=r2 from w9 (y::r2) 1,lt_eq,Vv r2 (by omega),ai];have Kq:lf r2 <:+ x::r:=(wq r2).trans ((List.suffix_cons y r2).trans nh);have hl4:=(wq r2).length_le;have hNL:=Vr r2;have hNR:=ai9 Kq hnr;have NS:lf r2 <:+: p:=Kq.isInfix.trans fO;generalize lf r2=u at Kq hl4 hNL hNR NS;rw[ail u (by omega) (λz hz=>by
            have:=ht _ (Ga NS (VC hz));unfold tz at this;omega),ai]
          have vY:=(VB u).isInfix.trans NS;have ny:=ai8 (VB u) hNL;have hm3:=aim u hNR;have A5:=a36 vY;generalize(marked u).2=im;generalize(marked u).1=w at vY ny hm3 A5;have hzw:=Vu vY;rw[aih w (by omega) (OE vY hc) (aie (by omega) ny hm3),ai];show Option.bind (cond ((0:Int) !=0) _ (BW 30000 (bJ.mk (pS x.aY.az) w im))) _=_;have hnl:=aio x.aY.az (by omega);rw[show((0:Int) !=0)=false from rfl,ae,a2O (bJ.mk (pS x.aY.az) w im) (by rw[Vk];show(pS x.aY.az).length+cn w+4≤20000;omega) (λt h=>ht t (Ga vY h)),ai];cases ug (bJ.mk (pS x.aY.az) w im)<;>rfl
structure sH(d:bJ):Prop where
  bad:ug d=false
  ch:iz d.Value=0
  tk:∀t∈bH d.Value,tz t≤4500
theorem aiq{p:List al}(hc:iz p=0)(ht:∀t∈bH p,tz t≤4500){d:bJ}(h:uj p=some d):sH d:=by
  have fO:rt (lf p) <:+: p:=(Df _).isInfix.trans (wq p).isInfix;unfold uj at h;generalize rt (lf p)=v at h fO;cases v with
  |nil=>cases h
  |cons x r=>
    rw[Ks]at h;rcases gJ h with⟨_,h⟩|⟨_,h⟩
    · have nh:lf r <:+ x::r:=(wq r).trans (List.suffix_cons x r);generalize lf r=q at h nh;cases q with
      |nil=>cases h
      |cons y r2=>
        dsimp only at h;rcases gJ h with⟨_,h⟩|⟨_,h⟩
        · have hm:(marked (lf r2)).1 <:+: p:=(VB _).isInfix.trans (((wq r2).trans ((List.suffix_cons y r2).trans nh)).isInfix.trans fO);rcases gJ h with⟨_,h⟩|⟨hb,h⟩
          · cases h
          · injection h with h;subst h;exact⟨hb,OE hm hc,λt h=>ht t (Ga hm h)⟩
        · cases h
    · cases h
def pT:List (List al)→List bJ→List bJ
  |[],acc=>acc
  |p::r,acc=>pT r (match uj p with
    |none=>acc
    |some d=>cond (decide (acc.length<32)) (acc++[d]) acc)
theorem air(P:List (List al))(e:Int)(hl:P.length≤20000)(hc:∀p∈P,iz p=0)(ht:∀p∈P,∀t∈bH p,tz t≤4500):∀(kk i:Nat)(acc:List bJ),P.length-i<kk→i≤P.length→acc.length≤32→BX 30000 (P,e) kk acc (i:Int)=some (pT (P.drop i) acc):=by
  intro kk
  induction kk with
  |zero=>intro i acc h;omega
  |succ kk ih=>
    intro i acc hk hi ha;rw[BX];by_cases aM:i<P.length
    · have hm:P[i]∈P:=List.getElem_mem aM;rw[show decide ((i:Int)<ln ((P,e):List (List al)×Int).1)=true from dM aM,af,show aB (0≤(i:Int)∧(i:Int)<ln ((P,e):List (List al)×Int).1)=λ(k:Option (List bJ))=>k from by funext k;exact dN aM];rw[show gi ((P,e):List (List al)×Int).1 (i:Int)=P[i]from iq P i aM,aip _ (hc _ hm) (ht _ hm),ai,gp aM,pT];cases uj P[i]with
      |none=>
        show BX 30000 (P,e) kk acc (aa ((i:Int)+1))=_;rw[br (by omega)];exact ih (i+1) acc (by omega) aM ha
      |some d=>
        show Option.bind (cond (decide (ln acc<32)) (aB (ln acc+ln [d]≤1099511627776) (some (acc++[d]))) (some acc)) _=_;rw[aL (by unfold ln;simp only[aZ,bW];omega)];by_cases Al:acc.length<32
        · rw[bC (by unfold ln;omega),af,ai,br (by omega)];dsimp only;rw[bC Al,af];exact ih (i+1) _ (by omega) aM (by rw[bB,List.length_singleton];omega)
        · rw[bV (by unfold ln;omega),ae,ai,br (by omega)];dsimp only;rw[bV Al,ae];exact ih (i+1) _ (by omega) aM ha
    · rw[show decide ((i:Int)<ln ((P,e):List (List al)×Int).1)=false from eS (show P.length≤i by omega),ae,fF (by omega)];rfl
theorem a3e(v:List al)(hc:iz v=0)(ht:∀t∈bH v,tz t≤4500):zG 30000 v=some (pT (jl [] v) [],0):=by
  obtain⟨_,_,_,hz⟩:=wo hc;have hl:=ni v;have hs:=Vz v [];have hi:∀p∈jl [] v,p <:+: v:=λp hp=>by have:=OG v [] p hp;rw[List.nil_append]at this;exact this
  unfold zG;rw[aik v (by omega) hc,ai];show Option.bind (BX 30000 (jl [] v,0) 30000 [] ((0:Nat):Int)) _=_;rw[air (jl [] v) 0 (by omega) (λp hp=>OE (hi p hp) hc) (λp hp t h=>ht t (Ga (hi p hp) h)) 30000 0 [] (by omega) (dE _) (dE _),fG];rfl
theorem a3f:∀(P:List (List al))(acc:List bJ),(∀p∈P,iz p=0)→(∀p∈P,∀t∈bH p,tz t≤4500)→acc.length≤32→(∀d∈acc,sH d)→(pT P acc).length≤32∧∀d∈pT P acc,sH d
  |[],acc,_,_,h1,h2=>⟨h1,h2⟩
  |p::P,acc,hc,ht,h1,h2=>by
    rw[pT];refine a3f P _ (λq hq=>hc q (List.mem_cons_of_mem _ hq)) (λq hq=>ht q (List.mem_cons_of_mem _ hq)) ?_ ?_
    · cases uj p with
      |none=>exact h1
      |some d=>
        dsimp only;by_cases Al:acc.length<32
        · rw[bC Al,af,bB,List.length_singleton];omega
        · rw[bV Al,ae];exact h1
    · cases hd:uj p with
      |none=>exact h2
      |some d=>
        dsimp only;by_cases Al:acc.length<32
        · rw[bC Al,af];intro y hy;rcases List.mem_append.1 hy with hy|hy
          · exact h2 y hy
          · rw[List.mem_singleton.1 hy];exact aiq (hc p List.mem_cons_self) (ht p List.mem_cons_self) hd
        · rw[bV Al,ae];exact h2
theorem ais(v:List al)(hc:iz v=0)(ht:∀t∈bH v,tz t≤4500):(pT (jl [] v) []).length≤32∧∀d∈pT (jl [] v) [],sH d:=by
  have hi:∀p∈jl [] v,p <:+: v:=λp hp=>by have:=OG v [] p hp;rw[List.nil_append]at this;exact this
  exact a3f _ [] (λp hp=>OE (hi p hp) hc) (λp hp t h=>ht t (Ga (hi p hp) h)) (dE _) (λd h=>by cases h)
structure DF(d:bJ):Prop where
  nm:G1 d.ck=true
  gb:G8 d.Value=false
  an:∀x∈d.Value,yr x=false
  em:d.Value=[]→kR d.ck=true
  nl:yw d.Value
  nr:ui d.Value
  Kt:d.ck.length≤64
  ne:d.ck≠[]
  z0:zb d.ck=false
  lo:pS d.ck=d.ck
theorem Ku{d:bJ}(h:sH d):DF d:=by
  have hb:=h.bad;obtain⟨_,_,_,hz⟩:=wo h.ch;have hl:=ni d.Value;unfold ug at hb;simp only[pw]at hb;obtain⟨h1,h2,h3,h4,h5,h6,h7⟩:=hb;rw[Bool.not_eq_false']at h1;obtain⟨n1,n2⟩:=aif (by omega) h7;have Ap:=h1;unfold G1 at Ap;rw[Bool.and_eq_true,Bool.not_eq_true']at Ap;obtain⟨k1,k2⟩:=Ap;have a1:(d.ck==[])=false:=by
    cases h:d.ck==[]with
    |false=>rfl
    |true=>rw[h]at k1;cases k1
  rw[a1,ae]at k1;have a2:decide (64<ln d.ck)=false:=by
    cases h:decide (64<ln d.ck)with
    |false=>rfl
    |true=>rw[h]at k1;cases k1
  rw[a2,ae]at k1;refine⟨h1,h3,λx hx=>?_,λhe=>?_,n1,n2,?_,?_,k1,?_⟩
  · rw[List.any_eq_false]at h5;have:=h5 x hx;simpa using this
  · rw[he]at h6;have h6:(!(kR d.ck))=false:=h6;simpa using h6
  · have:=of_decide_eq_false a2;unfold ln at this;omega
  · intro he;rw[he]at a1;cases a1
  · unfold pS;cases hc:kR d.ck with
    |true=>rfl
    |false=>
      rw[hc,ae]at k2;rw[ae];exact(eq_of_beq k2).symm
def pU(b:Bool):J:=cond b [32,33,105,109,112,111,114,116,97,110,116] []
def ef(d:bJ)(it:List It):J:=((cg (bP d.ck) d.ck++[58,32])++aC it)++pU d.gu
theorem ait(s:J)(h1:s≠[])(h2:zb s=false)(h3:s.length≤64):Iz 30000 s=some (cg (bP s) s,0):=by
  have hl:=CJ (bP s) s;unfold Iz;rw[a2y,h2,show(s==[])=false from bE.2 h1,ae,lt_eq,ae,Ab,ai,xV s (bP s) (by omega) [] (by unfold ln;rw[bW];omega),ai,List.nil_append,ll,bV (by unfold ln;omega),bV (by rw[a7N];unfold ln;omega)];rfl
theorem a3g(v:List al)(hc:iz v=0)(ht:∀t∈bH v,tz t≤4500):∃c,qL 30000 (bH v)=some c∧((c≠0∧xI 30000 v=some ([],c))∨(c=0∧(xI 30000 v=some ([],28)∨∃it,oW (bH v) it∧xI 30000 v=some (aC it,0)))):=by
  obtain⟨_,h2,_,hz⟩:=wo hc;have hl:=yq (cn v) v (cF _);obtain⟨c,c1,c2⟩:=ahz (bH v) (by omega) ht;refine⟨c,c1,?_⟩;unfold xI;rw[Ox 30000 (by decide) v (by omega),hc,ai,a2K v (by omega)];rw[show((0:Int) !=0)=false from rfl,ae,ai];rcases c2 with⟨h,e⟩|⟨h,e|⟨it,i1,e⟩⟩
  · exact Or.inl ⟨h,by rw[e];rfl⟩
  · exact Or.inr ⟨h,Or.inl (by rw[e];rfl)⟩
  · exact Or.inr ⟨h,Or.inr ⟨it,i1,by rw[e];rfl⟩⟩
theorem aiu(d:bJ)(h:sH d):EZ 30000 d=some ([],28)∨∃it,oW (bH d.Value) it∧EZ 30000 d=some (ef d it,0)∧(ef d it).length≤4000:=by
  have hf:=Ku h;obtain⟨_,_,_,hz⟩:=wo h.ch;have FM:=hf.Kt;have hnl:=CJ (bP d.ck) d.ck;obtain⟨c,c1,c2⟩:=a3g d.Value h.ch h.tk;have rD:c=0:=by
    have:=hf.gb;unfold G8 at this;rw[c1]at this;have:(c !=0)=false:=this;simpa using this
  subst rD;unfold EZ;rw[a2O d (by rw[Vk];omega) h.tk,h.bad,ae,ai,show((0:Int) !=0)=false from rfl,ae,ait d.ck hf.ne hf.z0 FM,ai];dsimp only;rw[show((0:Int) !=0)=false from rfl,ae];rcases c2 with⟨h0,_⟩|⟨_,e|⟨it,i1,e⟩⟩
  · exact absurd rfl h0
  · left;rw[e];rfl
  · have h4:=i1.len;rw[e,ai];dsimp only;rw[show((0:Int) !=0)=false from rfl,ae];have el:∀b:Bool,(((cg (bP d.ck) d.ck++[58,32])++aC it)++pU b).length≤4300:=by
      intro b;have:(pU b).length≤11:=by cases b<;>decide
      simp only[bB,aZ,bW];omega
    have e0:=el false;rw[show pU false=[]from rfl,List.append_nil,bB,bB]at e0;simp only[aZ,bW]at e0;rw[aL (by unfold ln;simp only[aZ,bW];omega),aL (by unfold ln;simp only[bB,aZ,bW];omega),aL (by unfold ln;simp only[bB,aZ,bW];omega),lt_eq];have ei:(cond d.gu (some (((cg (bP d.ck) d.ck++[58,32])++aC it)++[32,33,105,109,112,111,114,116,97,110,116])) (some ((cg (bP d.ck) d.ck++[58,32])++aC it)))=some (ef d it):=by
      unfold ef pU;cases d.gu
      · rw[ae,ae,List.append_nil]
      · rfl
    rw[ei,ai];by_cases hm:4000<(ef d it).length
    · left;rw[bC (by unfold ln;omega)];rfl
    · right;exact⟨it,i1,by rw[bV (by unfold ln;omega)];rfl,by omega⟩
theorem aiv(ds:List bJ)(hl:ds.length≤32)(hd:∀d∈ds,sH d):∀(kk i:Nat)(acc:List J)(b:Bool),ds.length-i<kk→i≤ds.length→acc.length≤i→∃(ss:List J)(b':Bool),F4 30000 ds kk acc b (i:Int)=some (.inr (acc++ss,b'))∧ss.length≤ds.length-i∧(∀s∈ss,s.length≤4000)∧
    (b'=false→b=false∧∃L:List (bJ×List It),L.map (·.1)=ds.drop i∧(∀p∈L,oW (bH p.1.Value) p.2)∧ss=L.map λp=>ef p.1 p.2):=by
  intro kk
  induction kk with
  |zero=>intro i acc b h;omega
  |succ kk ih=>
    intro i acc b hk hi ha;rw[F4];by_cases aM:i<ds.length
    · have hm:ds[i]∈ds:=List.getElem_mem aM;rw[dM aM,af,dN aM,iq ds i aM,gp aM];rcases aiu ds[i] (hd _ hm)with e|⟨it,i1,e,e4⟩
      · rw[e,ai];dsimp only;rw[show((28:Int)==8)=false from rfl,ae,aL (by unfold ln;simp only[aZ,bW];omega),lt_eq,br (by omega),show((28:Int) !=0)=true from rfl,show cond b true true=true from by cases b<;>rfl];obtain⟨ss,b',r1,r2,r3,r4⟩:=ih (i+1) (acc++[[]]) true (by omega) aM (by rw[bB,List.length_singleton];omega);refine⟨[]::ss,b',by rw[r1,c7];rfl,by rw[aZ];omega,λs hs=>?_,λhb=>?_⟩
        · rcases List.mem_cons.1 hs with rfl|hs
          · exact dE _
          · exact r3 s hs
        · cases(r4 hb).1
      · rw[e,ai];dsimp only;rw[show((0:Int)==8)=false from rfl,ae,aL (by unfold ln;simp only[aZ,bW];omega),lt_eq,br (by omega),show((0:Int) !=0)=false from rfl,show cond b true false=b from by cases b<;>rfl];obtain⟨ss,b',r1,r2,r3,r4⟩:=ih (i+1) (acc++[ef ds[i] it]) b (by omega) aM (by rw[bB,List.length_singleton];omega);refine⟨ef ds[i] it::ss,b',by rw[r1,c7];rfl,by rw[aZ];omega,λs hs=>?_,λhb=>?_⟩
        · rcases List.mem_cons.1 hs with rfl|hs
          · exact e4
          · exact r3 s hs
        · obtain⟨q1,L,q2,q3,q4⟩:=r4 hb;refine⟨q1,(ds[i],it)::L,by rw[List.map_cons,q2],λp hp=>?_,by rw[q4];rfl⟩;rcases List.mem_cons.1 hp with rfl|hp
          · exact i1
          · exact q3 p hp
    · rw[eS (by omega),ae];refine⟨[],b,by rw[List.append_nil],dE _,λs hs=>(by cases hs),λhb=>⟨hb,[],?_,λp hp=>(by cases hp),rfl⟩⟩;rw[fF (by omega)];rfl
def jS:List J→J
  |[]=>[]
  |s::r=>([59,32]++s)++jS r
def pV:List J→J
  |[]=>[]
  |s::r=>s++jS r
theorem aiw(ss:List J)(hl:ss.length≤32)(hs:∀s∈ss,s.length≤4000):∀(kk i a:Nat),ss.length-i<kk→i≤ss.length→a≤1000+4000*i→∃z:Nat,F1 30000 ss kk (a:Int) (i:Int)=some (z:Int)∧z≤200000:=by
  intro kk
  induction kk with
  |zero=>intro i a h;omega
  |succ kk ih=>
    intro i a hk hi ha;rw[F1];by_cases aM:i<ss.length
    · have hm:=hs _ (List.getElem_mem aM);have e:decide (aa (9223372036854775807-(a:Int))<ln ss[i])=false:=by
        rw[cT (by omega) (by omega)];exact bV (by unfold ln;omega)
      rw[dM aM,af,dN aM,iq ss i aM,e,lt_eq,ae,br (by omega),show aa ((a:Int)+ln ss[i])=((a+ss[i].length:Nat):Int)from by unfold ln;rw[cT (by omega) (by omega)];omega];exact ih (i+1) _ (by omega) aM (by omega)
    · rw[eS (by omega),ae];exact⟨a,rfl,by omega⟩
theorem aix(q:List J)(hl:q.length≤32)(hs:∀s∈q,s.length≤4000):∀(kk i:Nat)(acc:J),q.length-i<kk→i≤q.length→acc.length≤4000+4002*i→F2 30000 [59,32] q kk (i:Int) acc=some (acc++jS (q.drop i)):=by
  intro kk
  induction kk with
  |zero=>intro i acc h;omega
  |succ kk ih=>
    intro i acc hk hi ha;rw[F2];by_cases aM:i<q.length
    · have hm:=hs _ (List.getElem_mem aM);rw[dM aM,af,dN aM,iq q i aM,aL (by unfold ln;simp only[aZ,bW];omega),lt_eq,aL (by unfold ln;simp only[bB,aZ,bW];omega),lt_eq,br (by omega),ih (i+1) _ (by omega) aM (by simp only[bB,aZ,bW];omega),gp aM];show _=some (acc++(([59,32]++q[i])++jS (q.drop (i+1))));simp only[c7]
    · rw[eS (by omega),ae,fF (by omega)];show _=some (acc++[]);rw[List.append_nil]
theorem aiy:((List.range 40).all λn=>(n==0)||!(decide (aa (Int.tdiv 9223372036854775807 (n:Int))≤2)))=true:=by kernel_rfl
theorem aiz(ss:List J)(hl:ss.length≤32)(hs:∀s∈ss,s.length≤4000):IQ 30000 ss [59,32]=some (pV ss):=by
  unfold IQ
  match ss,hl,hs with
  |[],hl,hs=>rfl
  |[x],hl,hs=>
    show some x=some (x++[]);rw[List.append_nil]
  |x::y::r,hl,hs=>
    have Xl:r.length+2≤32:=hl;have hx:=hs x List.mem_cons_self;have hn:ln (x::y::r)=((r.length+2:Nat):Int):=by unfold ln;rfl
    have e1:aa (((r.length+2:Nat):Int)-1)=((r.length+1:Nat):Int):=by rw[cT (by omega) (by omega)];omega
    have e2:decide (aa (Int.tdiv 9223372036854775807 ((r.length+1:Nat):Int))≤2)=false:=by
      have h:=lj (p:=λn=>(n==0)||!(decide (aa (Int.tdiv 9223372036854775807 (n:Int))≤2))) aiy (n:=r.length+1) (by omega);rw[show(r.length+1==0)=false from rfl,gr,Bool.not_eq_true']at h;exact h
    have e3:ln ([59,32]:J)=2:=rfl;have e4:aa (0+aa (2*((r.length+1:Nat):Int)))=((2*(r.length+1):Nat):Int):=by
      rw[cT (x:=2*((r.length+1:Nat):Int)) (by omega) (by omega),cT (by omega) (by omega)];omega
    obtain⟨z,z1,z2⟩:=aiw (x::y::r) hl hs 30000 0 (2*(r.length+1)) (by omega) (dE _) (by omega);have DV:0≤(0:Int)∧(0:Int)<((r.length+2:Nat):Int):=⟨by omega,by omega⟩;rw[hn,show(((r.length+2:Nat):Int)==0)=false from bE.2 (by omega),ae,show(((r.length+2:Nat):Int)==1)=false from bE.2 (by omega),ae,e3,show decide ((0:Int)<2)=true from rfl,af,e1,aL (by omega),lt_eq,e2,ae,e4,lt_eq,ai];show Option.bind (F1 30000 (x::y::r) 30000 ((2*(r.length+1):Nat):Int) ((0:Nat):Int)) _=_;rw[z1,ai,aL ⟨by omega,by omega⟩,aL DV,show gi (x::y::r) (0:Int)=x from rfl,aL (by unfold ln;rw[bW];omega),lt_eq,List.nil_append,aL ⟨by omega,by omega,Int.le_refl _⟩,←hn,show dD (x::y::r) 1 (ln (x::y::r))=y::r from w9 (x::y::r) 1,lt_eq];rw[show F2 30000 [59,32] (y::r) 30000 0 x=_ from aix (y::r) (by rw[aZ];omega) (λs h=>hs s (List.mem_cons_of_mem _ h)) 30000 0 x (by rw[aZ];omega) (dE _) (by omega),fG];rfl
theorem aiA(ds:List bJ)(hl:ds.length≤32)(hd:∀d∈ds,sH d):C8 30000 ds=some ([],28)∨∃L:List (bJ×List It),L.map (·.1)=ds∧(∀p∈L,oW (bH p.1.Value) p.2)∧C8 30000 ds=some (pV (L.map λp=>ef p.1 p.2),0)∧(pV (L.map λp=>ef p.1 p.2)).length≤4000:=by
  obtain⟨ss,b',r1,r2,r3,r4⟩:=aiv ds hl hd 30000 0 [] false (by omega) (dE _) (cF _);unfold C8;rw[bV (by unfold ln;omega),ae,show F4 30000 ds 30000 [] false 0=_ from r1,ai,mU,List.nil_append];dsimp only;rw[aiz ss (by omega) r3,ai];cases b' with
  |true=>left;rfl
  |false=>
    obtain⟨_,L,q2,q3,q4⟩:=r4 rfl;rw[fG]at q2;rw[ae,lt_eq];by_cases hm:4000<(pV ss).length
    · left;rw[bC (by unfold ln;omega)];rfl
    · right;refine⟨L,q2,q3,?_,by rw[←q4];omega⟩;rw[bV (by unfold ln;omega),q4];rfl
def nj(s:J):aq:=⟨1,s,0,[],false⟩
def nq:aq:=⟨16,[],0,[],false⟩
def Dg:aq:=⟨17,[],0,[],false⟩
def rh:aq:=⟨9,[33],0,[],false⟩
def pW:aq:=⟨1,o0,0,[],false⟩
abbrev V1(t:aq):al:=al.mk t []
def o3(d:bJ):List al:=cond d.gu (cond d.Value.isEmpty [] [V1 df]++[V1 rh,V1 pW]) []
def jB(d:bJ):List al:=V1 (nj d.ck)::V1 nq::V1 df::(d.Value++o3 d)
def pX:List bJ→List al
  |[]=>[]
  |d::r=>V1 Dg::V1 df::(jB d++pX r)
def ri:List bJ→List al
  |[]=>[]
  |d::r=>jB d++pX r
theorem a3h{x:al}(h:yr x=false):(x.aY.ah==17)=false:=by
  unfold yr at h;cases hk:x.aY.ah==17 with
  |false=>rfl
  |true=>rw[hk]at h;cases h
theorem aiB{x:al}(h:yr x=false):bg x=false:=by
  have h1:=a3h h;unfold yr at h;rw[h1,ae]at h;exact h
theorem aiC(u:List al)(h:∀x∈u,bg x=false):marked u=(u,false):=by
  unfold marked;cases cond (decide (1<u.length)) (Ak (gM u)) false with
  |false=>rfl
  |true=>
    rw[af];by_cases hw:0<(rt u.dropLast).length
    · have hm:gM (rt u.dropLast)∈u:=(List.dropLast_prefix u).subset ((Df _).subset (a3a hw));rw[h _ hm];cases decide (0<(rt u.dropLast).length)<;>rfl
    · rw[bV hw];rfl
theorem aiD:Ak (V1 pW)=true:=by
  show cond ((1:Int)==1) (lw o0==lw o0) false=true;rw[show((1:Int)==1)=true from rfl,af,beq_self_eq_true]
theorem a3i(a:List al):marked ((a++[V1 rh])++[V1 pW])=(rt a,true):=by
  unfold marked;rw[a39,aiD,List.dropLast_concat,Aj,show lp (V1 rh)=false from rfl,ae,a39,List.dropLast_concat];rw[bC (by simp only[bB,aZ,bW];omega),bC (by simp only[bB,aZ,bW];omega)];rfl
theorem aiE{d:bJ}(hf:DF d):marked (d.Value++o3 d)=(d.Value,d.gu):=by
  unfold o3;cases hi:d.gu with
  |false=>
    rw[ae,List.append_nil];exact aiC _ λx hx=>aiB (hf.an x hx)
  |true=>
    rw[af];cases hv:d.Value with
    |nil=>exact a3i []
    |cons x r=>
      show marked ((x::r)++([V1 df]++[V1 rh,V1 pW]))=_;have e:(x::r)++([V1 df]++[V1 rh,V1 pW])=(((x::r)++[V1 df])++[V1 rh])++[V1 pW]:=by simp
      rw[e,a3i,Aj,show lp (V1 df)=true from rfl,af,ai7 (by rw[←hv];exact hf.nr)]
theorem a3j{d:bJ}(hf:DF d):yw (d.Value++o3 d):=by
  intro x r h;cases hv:d.Value with
  |nil=>
    rw[hv]at h;unfold o3 at h;rw[hv]at h;cases hi:d.gu with
    |false=>rw[hi]at h;cases h
    |true=>
      rw[hi]at h;injection h with h _;rw[←h];rfl
  |cons y q=>
    rw[hv]at h;injection h with h _;rw[←h];exact hf.nl y q hv
theorem a3k{d:bJ}(hf:DF d)(hb:ug d=false){r:List al}(hr:r=d.Value++o3 d∨r=V1 df::(d.Value++o3 d)):Ks (V1 (nj d.ck)::V1 nq::r)=some d:=by
  have hl:lf r=d.Value++o3 d:=by
    rcases hr with rfl|rfl
    · exact Vs (a3j hf)
    · rw[lf,show lp (V1 df)=true from rfl,af,Vs (a3j hf)]
  rw[Ks,show((V1 (nj d.ck)).aY.ah==1)=true from rfl,af,lf,show lp (V1 nq)=false from rfl,ae];dsimp only;rw[show((V1 nq).aY.ah==16)=true from rfl,af,hl,aiE hf];show cond (ug (bJ.mk (pS d.ck) d.Value d.gu)) _ (some (bJ.mk (pS d.ck) d.Value d.gu))=_;rw[hf.lo];have e:bJ.mk d.ck d.Value d.gu=d:=by cases d;rfl
  rw[e,hb];rfl
theorem aiF{d:bJ}(hf:DF d):∃r,rt (jB d)=V1 (nj d.ck)::V1 nq::r∧(r=d.Value++o3 d∨r=V1 df::(d.Value++o3 d)):=by
  cases hi:d.gu with
  |true=>
    have e:∃b,jB d=b++[V1 pW]:=by
      unfold jB o3;rw[hi,af];exact⟨V1 (nj d.ck)::V1 nq::V1 df::(d.Value++(cond d.Value.isEmpty [] [V1 df]++[V1 rh])),by simp⟩
    obtain⟨b,e⟩:=e;refine⟨_,?_,Or.inr rfl⟩;rw[e,Aj,show lp (V1 pW)=false from rfl,ae,←e];rfl
  |false=>
    have e0:o3 d=[]:=by unfold o3;rw[hi];rfl
    rw[e0,List.append_nil];rcases List.eq_nil_or_concat d.Value with hv|⟨a,x,hv⟩
    · refine⟨[],?_,Or.inl hv.symm⟩;unfold jB;rw[e0,hv];show rt ([V1 (nj d.ck),V1 nq]++[V1 df])=_;rw[Aj,show lp (V1 df)=true from rfl,af];show rt ([V1 (nj d.ck)]++[V1 nq])=_;rw[Aj];rfl
    · rw[List.concat_eq_append]at hv;refine⟨_,?_,Or.inr rfl⟩;unfold jB;rw[e0,List.append_nil];have hx:=hf.nr a x hv;rw[hv];show rt ((V1 (nj d.ck)::V1 nq::V1 df::a)++[x])=_;rw[Aj,hx];rfl
theorem a3l{d:bJ}(hf:DF d)(hb:ug d=false):uj (jB d)=some d∧uj (V1 df::jB d)=some d:=by
  obtain⟨r,h1,h2⟩:=aiF hf;have e1:lf (jB d)=jB d:=Vs (λx q h=>by injection h with h _;rw[←h];rfl);have e2:lf (V1 df::jB d)=jB d:=by rw[lf,show lp (V1 df)=true from rfl,af,e1]
  unfold uj;rw[e1,e2,h1];exact⟨a3k hf hb h2,a3k hf hb h2⟩
theorem a3m{d:bJ}(hf:DF d):∀x∈jB d,(x.aY.ah==17)=false:=by
  intro x hx;unfold jB at hx;simp only[List.mem_cons,List.mem_append]at hx;rcases hx with rfl|rfl|rfl|hx|hx
  · rfl
  · rfl
  · rfl
  · exact a3h (hf.an x hx)
  · unfold o3 at hx;cases hi:d.gu with
    |false=>rw[hi]at hx;cases hx
    |true=>
      rw[hi,af]at hx;cases he:d.Value.isEmpty with
      |true=>
        rw[he]at hx;simp at hx;rcases hx with rfl|rfl<;>rfl
      |false=>
        rw[he]at hx;simp at hx;rcases hx with rfl|rfl|rfl<;>rfl
theorem a3n:∀(r:List bJ)(a:List al),(∀d∈r,DF d)→jl a (pX r)=a::r.map λd=>V1 df::jB d
  |[],a,h=>rfl
  |d::r,a,h=>by
    have hd:=h d List.mem_cons_self;rw[pX,jl,show((V1 Dg).aY.ah==17)=true from rfl,af,←List.cons_append,VA (V1 df::jB d) [] (pX r) (λx hx=>by
      rcases List.mem_cons.1 hx with rfl|hx
      · rfl
      · exact a3m hd x hx),List.nil_append,a3n r _ λy hy=>h y (List.mem_cons_of_mem _ hy)]
    rfl
theorem a3o:∀(r:List bJ)(acc:List bJ),(∀d∈r,DF d∧ug d=false)→acc.length+r.length≤32→pT (r.map λd=>V1 df::jB d) acc=acc++r
  |[],acc,h,hl=>by rw[List.append_nil];rfl
  |d::r,acc,h,hl=>by
    obtain⟨h1,h2⟩:=h d List.mem_cons_self;rw[aZ]at hl;rw[List.map_cons,pT,(a3l h1 h2).2];dsimp only;rw[bC (by omega),af,a3o r _ (λy hy=>h y (List.mem_cons_of_mem _ hy)) (by rw[bB,List.length_singleton];omega),c7];rfl
theorem aiG(ds:List bJ)(h:∀d∈ds,DF d∧ug d=false)(hl:ds.length≤32):pT (jl [] (ri ds)) []=ds:=by
  cases ds with
  |nil=>rfl
  |cons d r=>
    obtain⟨h1,h2⟩:=h d List.mem_cons_self;rw[aZ]at hl;rw[ri,VA (jB d) [] (pX r) (a3m h1),List.nil_append,a3n r _ (λy hy=>(h y (List.mem_cons_of_mem _ hy)).1),pT,(a3l h1 h2).1];dsimp only;rw[bC (by simp),af,a3o r _ (λy hy=>h y (List.mem_cons_of_mem _ hy)) (by simp;omega)];rfl
theorem aiH(t:aq)(h:cC t.ah=0):Dc 0 (V1 t)=false∧Da (V1 t)=0∧wc (V1 t)=[t]:=by
  have hz:(cC (V1 t).aY.ah==0)=true:=beq_iff_eq.2 h;refine⟨?_,?_,?_⟩
  · rw[G6,hz];rfl
  · rw[G5,hz];rfl
  · rw[we,hz];rfl
theorem OH:∀l:List aq,(∀t∈l,cC t.ah=0)→eR 0 (l.map V1)=false∧dR (l.map V1)=0∧bH (l.map V1)=l
  |[],h=>⟨by rw[List.map_nil,eR],by rw[List.map_nil,dR],by rw[List.map_nil,bH]⟩
  |t::l,h=>by
    obtain⟨a1,a2,a3⟩:=OH l λx hx=>h x (List.mem_cons_of_mem _ hx);obtain⟨b1,b2,b3⟩:=aiH t (h t List.mem_cons_self);rw[List.map_cons];exact⟨by rw[eR,a1,b1];rfl,by rw[dR,a2,b2];rfl,by rw[bH,a3,b3];rfl⟩
def rj(d:bJ):List aq:=cond d.gu (cond d.Value.isEmpty [] [df]++[rh,pW]) []
def Am(d:bJ):List aq:=[nj d.ck,nq,df]++(bH d.Value++rj d)
def Gb:List bJ→List aq
  |[]=>[]
  |d::r=>[Dg,df]++(Am d++Gb r)
def OI:List bJ→List aq
  |[]=>[]
  |d::r=>Am d++Gb r
theorem aiI(d:bJ):o3 d=(rj d).map V1:=by
  unfold o3 rj;cases d.gu
  · rfl
  · cases d.Value.isEmpty<;>rfl
theorem a3p(d:bJ):∀t∈rj d,cC t.ah=0∧tz t≤4500:=by
  intro t ht;unfold rj at ht;cases hi:d.gu with
  |false=>rw[hi]at ht;cases ht
  |true=>
    rw[hi,af]at ht;have:t=df∨t=rh∨t=pW:=by
      cases he:d.Value.isEmpty with
      |true=>rw[he]at ht;simp at ht;exact Or.inr ht
      |false=>rw[he]at ht;simpa using ht
    rcases this with rfl|rfl|rfl
    · exact⟨rfl,by decide⟩
    · exact⟨rfl,by decide⟩
    · exact⟨rfl,by decide⟩
theorem a3q{d:bJ}(h:sH d)(FM:d.ck.length≤64):eR 0 (jB d)=false∧dR (jB d)≤16∧bH (jB d)=Am d∧∀t∈Am d,tz t≤4500:=by
  obtain⟨c1,c2,c3,_⟩:=wo h.ch;obtain⟨a1,a2,a3⟩:=OH [nj d.ck,nq,df] (λt ht=>by
    simp at ht;rcases ht with rfl|rfl|rfl<;>rfl)
  obtain⟨b1,b2,b3⟩:=OH (rj d) (λt ht=>(a3p d t ht).1);have e:jB d=[nj d.ck,nq,df].map V1++(d.Value++(rj d).map V1):=by rw[←aiI];rfl
  rw[e];refine⟨?_,?_,?_,?_⟩
  · rw[wj,wj,a1,b1,c3];rfl
  · rw[wk,wk,a2,b2];omega
  · rw[wm,wm,a3,b3];rfl
  · intro t ht;unfold Am at ht;rcases List.mem_append.1 ht with ht|ht
    · simp at ht;rcases ht with rfl|rfl|rfl
      · show d.ck.length+0≤4500;omega
      · decide
      · decide
    · rcases List.mem_append.1 ht with ht|ht
      · exact h.tk t ht
      · exact(a3p d t ht).2
theorem a3r:∀r:List bJ,(∀d∈r,sH d)→eR 0 (pX r)=false∧dR (pX r)≤16∧bH (pX r)=Gb r∧∀t∈Gb r,tz t≤4500
  |[],h=>⟨by rw[pX,eR],by rw[pX,dR];omega,by rw[pX,bH];rfl,λt ht=>by cases ht⟩
  |d::r,h=>by
    have hd:=h d List.mem_cons_self;obtain⟨c1,c2,c3,c4⟩:=a3q hd (Ku hd).Kt;obtain⟨j1,j2,j3,j4⟩:=a3r r λx hx=>h x (List.mem_cons_of_mem _ hx);obtain⟨a1,a2,a3⟩:=OH [Dg,df] (λt ht=>by
      simp at ht;rcases ht with rfl|rfl<;>rfl)
    have e:pX (d::r)=[Dg,df].map V1++(jB d++pX r):=rfl;rw[e];refine⟨?_,?_,?_,?_⟩
    · rw[wj,wj,a1,c1,j1];rfl
    · rw[wk,wk,a2];omega
    · rw[wm,wm,a3,c3,j3];rfl
    · intro t ht;rw[Gb]at ht;rcases List.mem_append.1 ht with ht|ht
      · simp at ht;rcases ht with rfl|rfl<;>decide
      · rcases List.mem_append.1 ht with ht|ht
        · exact c4 t ht
        · exact j4 t ht
theorem aiJ(ds:List bJ)(h:∀d∈ds,sH d):eR 0 (ri ds)=false∧dR (ri ds)≤16∧bH (ri ds)=OI ds∧∀t∈OI ds,tz t≤4500:=by
  cases ds with
  |nil=>exact⟨by rw[ri,eR],by rw[ri,dR];omega,by rw[ri,bH];rfl,λt ht=>by cases ht⟩
  |cons d r=>
    have hd:=h d List.mem_cons_self;obtain⟨c1,c2,c3,c4⟩:=a3q hd (Ku hd).Kt;obtain⟨j1,j2,j3,j4⟩:=a3r r λx hx=>h x (List.mem_cons_of_mem _ hx);rw[ri];refine⟨?_,?_,?_,?_⟩
    · rw[wj,c1,j1];rfl
    · rw[wk];omega
    · rw[wm,c3,j3];rfl
    · intro t ht;rw[OI]at ht;rcases List.mem_append.1 ht with ht|ht
      · exact c4 t ht
      · exact j4 t ht
theorem aiK{it:List It}(hg:Good it [])(cQ:it≠[])(h:∀y r,it=y::r→y.t≠df)(x:J):t1 bw (aC it++x)=false:=by
  cases it with
  |nil=>exact absurd rfl cQ
  |cons y r=>
    obtain⟨b,q,hw,hf⟩:=K4 (ye y.t hg.1.fi y.w hg.1.wt);show t1 bw ((dz y.sep++(y.w++aC r))++x)=false;cases y.sep with
    |true=>show bw 47=false;kernel_rfl
    |false=>
      rw[hw];show bw b=false;cases hb:bw b with
      |false=>rfl
      |true=>exact absurd (hf.s hb).1 (h y r rfl)
theorem aiL(x:al)(r:List al):∃q,bH (x::r)=x.aY::q:=by
  rw[bH,we];cases(cC x.aY.ah==0)<;>exact⟨_,rfl⟩
theorem aiM{v:List al}(h:ui v){t:aq}(ht:(bH v).getLast?=some t):t.ah≠13:=by
  rcases List.eq_nil_or_concat v with rfl|⟨a,x,rfl⟩
  · rw[bH]at ht;cases ht
  · rw[List.concat_eq_append]at h ht;have hx:=h a x rfl;have e:bH [x]=wc x:=by rw[bH,bH,List.append_nil]
    rw[wm,e,we]at ht;cases hc:(cC x.aY.ah==0)with
    |true=>
      rw[hc,af,List.getLast?_concat]at ht;injection ht with ht;rw[←ht];exact ne_of_beq_false hx
    |false=>
      have hk:=Vq x.aY.ah (ne_of_beq_false hc);rw[hc,ae,←List.cons_append,←c7,List.getLast?_concat]at ht;injection ht with ht;rw[←ht];show cC x.aY.ah≠13;omega
theorem aiN{v:List al}{it:List It}(hw:oW (bH v) it)(hv:v≠[])(h1:yw v)(h2:ui v):it≠[]∧(∀y r,it=y::r→y.t≠df)∧(∀y,it.getLast?=some y→y.t≠df):=by
  have ht:=hw.Ou;cases v with
  |nil=>exact absurd rfl hv
  |cons x r=>
    obtain⟨q,e⟩:=aiL x r;have hx:=h1 x r rfl;refine⟨λh=>?_,λy r' h=>?_,λy h=>?_⟩
    · rw[h,e]at ht;cases ht
    · rw[h,e]at ht;injection ht with ht _;rw[ht];intro hs;have:lp x=true:=by unfold lp;rw[hs];rfl
      rw[hx]at this;cases this
    · have hl:(bH (x::r)).getLast?=some y.t:=by rw[←ht,List.getLast?_map,h];rfl
      have:=aiM h2 hl;intro hs;rw[hs]at this;exact this rfl
theorem a3s{x:J}(h:x=[]∨∃q,x=59::q):sE x∧t1 bw x=false:=by
  rcases h with rfl|⟨q,rfl⟩
  · exact⟨trivial,rfl⟩
  · exact⟨rfl,by show bw 59=false;kernel_rfl⟩
theorem a3t(s:J)(hs:s.length≤4000)(x:J)(hx:x=[]∨∃q,x=59::q)(j:Nat)(hj:j≤s.length)(hd:s.drop j=(33::o0)++x)(L:List aq)(hr:lW s (j+10) L):lW s j (rh::pW::L):=by
  obtain⟨hn,_⟩:=a3s hx;have h1:iM ⟨false,[33],rh⟩:=⟨.del 33 (by kernel_rfl),⟨by decide,by decide⟩,Or.inl rfl⟩;have h2:iM ⟨false,o0,pW⟩:=⟨.nm 1 o0 (Or.inl rfl) (by decide) (by decide),⟨by decide,by decide⟩,Or.inl (by kernel_rfl)⟩;have hg:∀x:J,(x=[]∨∃q,x=59::q)→Good [⟨false,[33],rh⟩,⟨false,o0,pW⟩] x:=by
    intro x hx;refine⟨h1,Or.inl (by kernel_rfl),h2,Or.inl ?_,trivial⟩;rcases hx with rfl|⟨q,rfl⟩<;>kernel_rfl
  exact G9 s (by omega) x hn L 2 [⟨false,[33],rh⟩,⟨false,o0,pW⟩] j (cF _) (hg [] (Or.inl rfl)) (hg x hx) hj hd hr
theorem a3u{n:J}(h:n≠[])(h0:zb n=false)(hl:n.length≤64):iM (jk (nj n)):=
  ng (.nm 1 n (Or.inl rfl) h (G3 h0)) ⟨by show n.length≤4500;omega,dE _⟩
theorem a3v(s:J)(hs:s.length≤4000)(d:bJ)(it:List It)(hf:DF d)(hw:oW (bH d.Value) it)(x:J)(hx:x=[]∨∃q,x=59::q)(i:Nat)(hi:i≤s.length)(hd:s.drop i=ef d it++x)(L:List aq)(hr:lW s (i+(ef d it).length) L):lW s i (Am d++L):=by
  obtain⟨hxn,sY⟩:=a3s hx;have h1:=a3u hf.ne hf.z0 hf.Kt;have h2:iM (jk nq):=ng (.mk 16 (by decide) (by decide)) ⟨by decide,by decide⟩;have hg:∀y:J,Good [jk (nj d.ck),jk nq] y:=by
    intro y;refine⟨h1,Or.inl ?_,h2,Or.inl rfl,trivial⟩;show(true&&(true&&!(d.ck==[45,45]&&false)))=true;rw[Bool.and_false];rfl
  have e1:aC [jk (nj d.ck),jk nq]=cg (bP d.ck) d.ck++[58]:=by
    show[]++(cg (bP d.ck) d.ck++([]++([58]++[])))=_;rfl
  have dw:s.drop i=(cg (bP d.ck) d.ck++[58])++(32::(aC it++(pU d.gu++x))):=by
    rw[hd];unfold ef;simp
  have oa:(ef d it).length=(cg (bP d.ck) d.ck++[58]).length+1+(aC it).length+(pU d.gu).length:=by
    unfold ef;simp only[bB,aZ,bW]
  have hle:=sD hi dw;rw[aZ,bB,bB]at hle;have oY:=mu dw;rw[oa]at hr;have key:lW s (i+(cg (bP d.ck) d.ck++[58]).length) (df::(bH d.Value++(rj d++L))):=by
    generalize KE:i+(cg (bP d.ck) d.ck++[58]).length=j at oY hle;have ej:i+(List.length (cg (bP d.ck) d.ck++[58])+1+(aC it).length+(pU d.gu).length)=j+1+(aC it).length+(pU d.gu).length:=by omega
    rw[ej]at hr;by_cases hv:d.Value=[]
    · have hit:it=[]:=by
        have:=hw.Ou;rw[hv,bH]at this;exact List.map_eq_nil_iff.1 this
      rw[hit]at oY hr;have oY:s.drop j=32::(pU d.gu++x):=oY;have hr:lW s (j+1+(pU d.gu).length) L:=hr;rw[hv,bH,List.nil_append];unfold rj;rw[hv];cases kf:d.gu with
      |false=>
        rw[kf]at oY hr;exact OD s (by omega) j x L oY sY hr
      |true=>
        rw[kf]at oY hr;have oY:s.drop j=32::32::((33::o0)++x):=oY;have ma:=gj (jg oY);refine ai3 s (by omega) j _ _ oY (by show bw 33=false;kernel_rfl) ?_;exact a3t s hs x hx (j+2) (by omega) (jg (jg oY)) L hr
    · obtain⟨n1,n2,n3⟩:=aiN hw hv hf.nl hf.nr;have NF:sE (pU d.gu++x):=by
        cases d.gu with
        |false=>exact hxn
        |true=>exact rfl
      refine OD s (by omega) j _ _ oY (aiK hw.G4 n1 n2 _) ?_;have yX:=jg oY;have hlj:=gj oY;rw[←hw.Ou];refine G9 s (by omega) (pU d.gu++x) NF (rj d++L) it.length it (j+1) (cF _) hw.G4 (ai5 it _ NF hw.G4 n3) (by omega) yX ?_;have CH:=mu yX;have Vl:=sD (by omega) yX;rw[bB]at Vl;unfold rj;rw[show d.Value.isEmpty=false from by cases h:d.Value with|nil=>exact absurd h hv|cons a b=>rfl];cases kf:d.gu with
      |false=>
        rw[kf]at hr;exact hr
      |true=>
        rw[kf]at hr CH;have CH:s.drop (j+1+(aC it).length)=32::((33::o0)++x):=CH;have ma:=gj CH;refine OD s (by omega) _ _ _ CH (by show bw 33=false;kernel_rfl) ?_;exact a3t s hs x hx _ (by omega) (jg CH) L hr
  have h:=G9 s (by omega) (32::(aC it++(pU d.gu++x))) rfl (df::(bH d.Value++(rj d++L))) 2 [jk (nj d.ck),jk nq] i (cF _) (hg []) (hg _) hi (by rw[e1];exact dw) (by rw[e1];exact key);have e:Am d++L=List.map It.t [jk (nj d.ck),jk nq]++(df::(bH d.Value++(rj d++L))):=by
    unfold Am;simp[jk]
  rw[e];exact h
theorem aiO{d:bJ}(hf:DF d)(it:List It)(x:J):t1 bw (ef d it++x)=false:=by
  obtain⟨b,q,hw,hb⟩:=K4 (ye (nj d.ck) (a3u hf.ne hf.z0 hf.Kt).fi (cg (bP d.ck) d.ck) (Or.inl rfl));unfold ef;rw[hw];show bw b=false;cases h:bw b with
  |false=>rfl
  |true=>have:=(hb.s h).1;cases this
theorem a3w(r:List J):jS r=[]∨∃q,jS r=59::q:=by
  cases r with
  |nil=>exact Or.inl rfl
  |cons s r=>exact Or.inr ⟨_,rfl⟩
theorem a3x(s:J)(hs:s.length≤4000):∀(L:List (bJ×List It))(i:Nat),(∀p∈L,DF p.1∧oW (bH p.1.Value) p.2)→i≤s.length→s.drop i=jS (L.map λp=>ef p.1 p.2)→lW s i (Gb (L.map (·.1)))
  |[],i,h,hi,hd=>by
    have hl:=congrArg List.length hd;rw[List.length_drop]at hl;have hl:s.length-i=0:=hl;obtain rfl:i=s.length:=by omega
    exact a32 s (by omega)
  |p::L,i,h,hi,hd=>by
    obtain⟨h1,h2⟩:=h p List.mem_cons_self;have hd:s.drop i=([59,32]++ef p.1 p.2)++jS (L.map λp=>ef p.1 p.2):=hd;have Jw:s.drop i=59::32::(ef p.1 p.2++jS (L.map λp=>ef p.1 p.2)):=hd;have iF:=gj Jw;have dL:=jg Jw;have hl1:=gj dL;have dw:=jg dL;have hle:=sD (show i+1+1≤s.length by omega) dw;have g:∀y:J,Good [jk Dg] y:=λy=>⟨ng (.mk 17 (by decide) (by decide)) ⟨by decide,by decide⟩,Or.inl rfl,trivial⟩;have ih:=a3x s hs L (i+1+1+(ef p.1 p.2).length) (λx hx=>h x (List.mem_cons_of_mem _ hx)) (by omega) (mu dw);have k1:=a3v s hs p.1 p.2 h1 h2 _ (a3w _) (i+1+1) (by omega) dw _ ih;have k2:=OD s (by omega) (i+1) _ _ dL (aiO h1 _ _) k1;exact G9 s (by omega) (32::(ef p.1 p.2++jS (L.map λp=>ef p.1 p.2))) rfl _ 1 [jk Dg] i (cF _) (g []) (g _) hi Jw k2
theorem aiP(L:List (bJ×List It))(h:∀p∈L,DF p.1∧oW (bH p.1.Value) p.2)(hs:(pV (L.map λp=>ef p.1 p.2)).length≤4000):lW (pV (L.map λp=>ef p.1 p.2)) 0 (OI (L.map (·.1))):=by
  cases L with
  |nil=>exact a32 [] (by decide)
  |cons p L=>
    obtain⟨h1,h2⟩:=h p List.mem_cons_self;have e:pV ((p::L).map λp=>ef p.1 p.2)=ef p.1 p.2++jS (L.map λp=>ef p.1 p.2):=rfl;have hd:(pV ((p::L).map λp=>ef p.1 p.2)).drop 0=ef p.1 p.2++jS (L.map λp=>ef p.1 p.2):=by rw[fG];rfl
    have hle:=sD (dE _) hd;have ih:=a3x _ hs L (0+(ef p.1 p.2).length) (λx hx=>h x (List.mem_cons_of_mem _ hx)) (by omega) (mu hd);exact a3v _ hs p.1 p.2 h1 h2 _ (a3w _) 0 (dE _) hd _ ih
theorem a3y{d:bJ}{it:List It}(hf:DF d)(hw:oW (bH d.Value) it):ee (ef d it)=false:=by
  unfold ef;rw[lT,lT,lT,V6 _ _ (G3 hf.z0),Kd it [] hw.G4];cases d.gu<;>kernel_rfl
theorem a3z:∀L:List (bJ×List It),(∀p∈L,DF p.1∧oW (bH p.1.Value) p.2)→ee (jS (L.map λp=>ef p.1 p.2))=false
  |[],h=>rfl
  |p::L,h=>by
    obtain⟨h1,h2⟩:=h p List.mem_cons_self;show ee (([59,32]++ef p.1 p.2)++jS (L.map λp=>ef p.1 p.2))=false;rw[lT,lT,a3y h1 h2,a3z L λx hx=>h x (List.mem_cons_of_mem _ hx)];kernel_rfl
theorem aiQ(L:List (bJ×List It))(h:∀p∈L,DF p.1∧oW (bH p.1.Value) p.2):ee (pV (L.map λp=>ef p.1 p.2))=false:=by
  cases L with
  |nil=>rfl
  |cons p L=>
    obtain⟨h1,h2⟩:=h p List.mem_cons_self;show ee (ef p.1 p.2++jS (L.map λp=>ef p.1 p.2))=false;rw[lT,a3y h1 h2,a3z L λx hx=>h x (List.mem_cons_of_mem _ hx)];rfl
theorem aiR(ds:List bJ)(hd:∀d∈ds,sH d)(hl:ds.length≤32)(L:List (bJ×List It))(h1:L.map (·.1)=ds)(h2:∀p∈L,oW (bH p.1.Value) p.2)(h4:(pV (L.map λp=>ef p.1 p.2)).length≤4000):
    pG 30000 (pV (L.map λp=>ef p.1 p.2))=some (ds,0)∨∃x,pG 30000 (pV (L.map λp=>ef p.1 p.2))=some (x,4):=by
  have hp:∀p∈L,DF p.1∧oW (bH p.1.Value) p.2:=λp hp=>⟨Ku (hd p.1 (by rw[←h1];exact List.mem_map_of_mem hp)),h2 p hp⟩;have hr:=aiP L hp h4;have hc:=aiQ L hp;rw[h1]at hr;obtain⟨s1,s2,s3,s4⟩:=aiJ ds hd;unfold pG;rcases ai6 _ h4 hc _ hr with⟨e,hn⟩|⟨l,e⟩
  · left;have hk:=yq (cn (ri ds)) (ri ds) (cF _);rw[s3]at hk;have lZ:=a30 s2 (by omega) s1;have Ki:=a2V (ri ds) lZ;rw[s3]at Ki;rw[e,ai];dsimp only;rw[show((0:Int) !=0)=false from rfl,ae,Ki,ai];dsimp only;rw[show((0:Int) !=0)=false from rfl,ae,a3e (ri ds) lZ (by rw[s3];exact s4),aiG ds (λd h=>⟨Ku (hd d h),(hd d h).bad⟩) hl];rfl
  · right;rw[e];exact⟨_,rfl⟩
theorem aiS(s:J)(hs:s.length≤4000):∀(n i:Nat),s.length-i≤n→i≤s.length→∃l,iL s i l∧∀t∈l,∃e,e≤s.length∧Sm e t:=by
  intro n
  induction n with
  |zero=>
    intro i h hi;obtain rfl:i=s.length:=by omega
    exact⟨[],.nil,λt ht=>(by cases ht)⟩
  |succ n ih=>
    intro i h hi;by_cases aM:i<s.length
    · obtain⟨t,e,n1,n2,n3,n4,n5⟩:=a0U 30000 s hs (by omega) i aM;obtain⟨k,k1,k2,k3⟩:=CV s (by omega) 30000 e (by omega) n4;obtain⟨l,l1,l2⟩:=ih k (by omega) k3;refine⟨t::l,.cons aM n2 n3 n4 k1 k3 l1,λx hx=>?_⟩;rcases List.mem_cons.1 hx with rfl|hx
      · exact⟨e,n4,n5⟩
      · exact l2 x hx
    · obtain rfl:i=s.length:=by omega
      exact⟨[],.nil,λt ht=>(by cases ht)⟩
theorem aiT{s q:J}(h:gU s=gU q):iG 30000 s=iG 30000 q:=by
  unfold iG xi;rw[h]
theorem aiU(s:J)(h:s.length≤300):∃l,iG 30000 s=some (l,0)∧iG 30000 (gU s).1=some (l,0)∧(gU s).2=0∧l.length≤900∧∀t∈l,tz t≤4500∧-1000000000000≤t.bu∧t.bu≤1000000000000:=by
  have e1:=FT s (by omega);have hl:=UA false s;have hc:=Uz false s;have e2:gU (fQ false s)=(fQ false s,0):=by rw[FT _ (by omega),FR _ hc]
  rw[e1];generalize fQ false s=q at e1 e2 hl hc;have e3:iG 30000 s=iG 30000 q:=aiT (by rw[e1,e2]);obtain⟨k,k1,k2,k3⟩:=CV q (by omega) 30000 0 (by omega) (dE _);have k1:fq 30000 q 0=some (k:Int):=k1;obtain⟨l,l1,l2⟩:=aiS q (by omega) q.length k (by omega) k3;have hn:=V8 (by omega) l1;have ht:=UF q (by omega) hc k k1 l l1 (by omega);refine⟨l,by rw[e3];exact ht,ht,rfl,by omega,λt hm=>?_⟩;obtain⟨e,h1,h2,h3,h4⟩:=l2 t hm;exact⟨by unfold tz;omega,h3,h4⟩
theorem aiV(l:List aq)(hl:l.length≤20000):∀(kk i:Nat),l.length-i<kk→i≤l.length→F5 30000 l l kk (i:Int)=some (.inr ()):=by
  intro kk
  induction kk with
  |zero=>intro i h;omega
  |succ kk ih=>
    intro i hk hi;rw[F5];by_cases aM:i<l.length
    · rw[dM aM,af,dN aM,dN aM,lt_eq];simp only[beq_self_eq_true,B9,dK,ae];rw[br (by omega)];exact ih (i+1) (by omega) aM
    · rw[eS (by omega),ae]
theorem a3A(l:List aq)(hl:l.length≤20000):C9 30000 l l=some true:=by
  unfold C9;rw[bne_self_eq_false,ae,show F5 30000 l l 30000 0=_ from aiV l hl 30000 0 (by omega) (dE _),ai,mU]
theorem a3B(v:List al)(h:cn v≤20000):J5 30000 v v=some true:=ahG 30000 (by decide) 30000 v (by omega) h
theorem aiW(l:List bJ)(hl:l.length≤20000)(hd:∀d∈l,cn d.Value≤20000):∀(kk i:Nat),l.length-i<kk→i≤l.length→Fe 30000 l l kk (i:Int)=some (.inr ()):=by
  intro kk
  induction kk with
  |zero=>intro i h;omega
  |succ kk ih=>
    intro i hk hi;rw[Fe];by_cases aM:i<l.length
    · have h1:J6 30000 (gi l (i:Int)) (gi l (i:Int))=some true:=by
        unfold J6;rw[beq_self_eq_true,beq_self_eq_true,af,lt_eq,af,a3B _ (hd _ (yn aM))];rfl
      rw[dM aM,af,dN aM,dN aM,h1,ai,dK,ae,br (by omega)];exact ih (i+1) (by omega) aM
    · rw[eS (by omega),ae]
theorem aiX(l:List bJ)(hl:l.length≤20000)(hd:∀d∈l,cn d.Value≤20000):xL 30000 l l=some true:=by
  unfold xL;rw[bne_self_eq_false,ae,show Fe 30000 l l 30000 0=_ from aiW l hl hd 30000 0 (by omega) (dE _),ai,mU]
theorem aiY:N3 300=some true:=by kernel_rfl
theorem VE(v:List al)(own:List bJ)(t:J)(k:Int)(hk:k=0∨k=28)(lZ:iz v=0)(jz:∀t∈bH v,tz t≤4500)(Dh:zG 30000 v=some (own,0))(Di:xL 30000 own own=some true):
  (Option.bind (N8 30000 v) λxg=>
  Option.bind (Co 30000 xg) λdI=>
  cond (dI !=0) (
  lt (cond true (cond (((t,k):J×Int).2==0) true (((t,k):J×Int).2==28)) false) λJn=>
  some Jn) (
  Option.bind (xI 30000 v) λkw=>
  cond (kw.2 !=0) (
  some (cond true (kw.2==28) false)) (
  Option.bind (iG 30000 kw.1) λqZ=>
  Option.bind (BT 30000 v) λvD=>
  Option.bind (rW qZ.1) λzZ=>
  Option.bind (pG 30000 kw.1) λA0=>
  lt (cond (cond true (qZ.2==0) false) (vD.2==0) false) λNq=>
  lt (cond (cond Nq (zZ.2==0) false) (A0.2==0) false) λr6=>
  Option.bind (cond r6 (C9 30000 qZ.1 vD.1) (some default)) λvE=>
  Option.bind (cond (cond r6 vE false) (J5 30000 zZ.1 v) (some default)) λCq=>
  Option.bind (cond (cond (cond r6 vE false) Cq false) (xL 30000 A0.1 own) (some default)) λNr=>
  lt (cond (cond (cond r6 vE false) Cq false) Nr false) λJo=>
  some Jo)))=some true:=by
  obtain⟨_,c2,_,c4⟩:=wo lZ;have hlen:=yq (cn v) v (cF _);have z0:((0:Int) !=0)=false:=rfl;obtain⟨c,k1,k2⟩:=a3g v lZ jz;obtain⟨e,g1,g2⟩:=Vf (bH v) (by omega) (λt h=>by have:=jz t h;omega);rw[k1]at g1;injection g1 with g1;subst g1;rw[ahO v (by omega),ai,g2,ai];rcases k2 with⟨h0,_⟩|⟨h0,e|⟨it,i1,e⟩⟩
  · rw[show(c !=0)=true from bne_iff_ne.2 h0,af];rcases hk with rfl|rfl<;>rfl
  · subst h0;rw[z0,ae,e];rfl
  · subst h0;have ht:=ahA (bH v) it i1 (by omega);have hb:=a2V v lZ;have hr:pG 30000 (aC it)=some (own,0):=by
      unfold pG;rw[ht,ai];dsimp only;rw[z0,ae,hb,ai];dsimp only;rw[z0,ae,Dh];rfl
    rw[z0,ae,e,ai];dsimp only;rw[z0,ae,ht,ai,a2N v (by omega),lZ,z0,ae,ai];dsimp only;rw[hb,ai,hr,ai];dsimp only;rw[show((0:Int)==0)=true from rfl,af,af,lt_eq,af,af,lt_eq,af,a3A (bH v) (by omega),ai,af,af,a3B v (by omega),ai,af,af,Di,ai,af];rfl
theorem aiZ(s:J):Fz 30000 s=some true:=by
  unfold Fz;rw[aiY,ai];by_cases h3:s.length≤300
  · obtain⟨l,t1,t2,t3,hl,ht⟩:=aiU s h3;obtain⟨v,e,hp,aj0⟩:=ai0 (λt=>tz t≤4500) (λk=>dE _) l (λt h=>(ht t h).1);have z0:((0:Int) !=0)=false:=rfl;rw[bV (by unfold ln;omega),dK,ae,ae,lt_eq,t1,t2,t3,ai,ai];dsimp only;rw[z0,ae,ae,a3A l (by omega),ai,dK,lt_eq,lt_eq,ae,ae,ae,afi l (by omega) (λt h=>(ht t h).2),ae,ai,dK,ae,ae,hp,ai];have aj1:pG 30000 s=cond (e !=0) (some ([],e)) (Option.bind (zG 30000 v) λeD=>some (eD.1,eD.2)):=by
      unfold pG;rw[t1,ai];dsimp only;rw[z0,ae,hp,ai]
    rw[aj1];dsimp only;rcases aj0 with⟨he,hv⟩|⟨he,lZ,jz⟩
    · rcases he with rfl|rfl<;>rfl
    · subst he;obtain⟨_,c2,_,c4⟩:=wo lZ;have hlen:=yq (cn v) v (cF _);obtain⟨o1,o2⟩:=ais v lZ jz;have Dh:=a3e v lZ jz;rw[z0,ae,Dh,ai,ai,ae,ai];generalize pT (jl [] v) []=own at o1 o2 Dh;have Di:=aiX own (by omega) (λd h=>by have:=(wo (o2 d h).ch).2.2.2;omega);dsimp only;rw[z0,ae,ae,Di,ai,dK,lt_eq,ae];rcases aiA own o1 o2 with e|⟨L,L1,L2,e,L4⟩
      · rw[e,ai];exact VE v own [] 28 (Or.inr rfl) lZ jz Dh Di
      · rw[e,ai];dsimp only;rw[show((0:Int)==0)=true from rfl,af];rcases aiR own o2 o1 L L1 L2 L4 with h|⟨x,h⟩
        · rw[h,ai];dsimp only;rw[show((0:Int) !=4)=true from rfl,af,z0,ae,Di];exact VE v own (pV (L.map λp=>ef p.1 p.2)) 0 (Or.inl rfl) lZ jz Dh Di
        · rw[h,ai];dsimp only;exact VE v own (pV (L.map λp=>ef p.1 p.2)) 0 (Or.inl rfl) lZ jz Dh Di
  · rw[bC (by unfold ln;omega)];rfl
theorem aj2(s:J){p:Prop}(_:p):Fz 30000 s=some true:=aiZ s
end Go.Proofs.YtpobihiejncdgaaGreatDoor
