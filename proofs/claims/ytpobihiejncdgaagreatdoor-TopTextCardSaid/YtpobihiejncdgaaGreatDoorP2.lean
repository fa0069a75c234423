/-
  Texts as they are written: what glue's functions put behind other bytes. No program in sight.
-/
import Derived.Test.YtpobihiejncdgaaGreatDoorP1
import Derived.Lib.IndexMore
set_option linter.unusedVariables false
set_option maxRecDepth 100000
namespace Go.Proofs.YtpobihiejncdgaaGreatDoor
open Go Go.V
def hx(d:Nat):UInt8:=if d<10 then UInt8.ofNat (48+d)else UInt8.ofNat (87+d)
def mV(c:UInt8):J:=cond (Nat.blt c.toNat 16) [hx c.toNat] [hx (c.toNat/16),hx (c.toNat%16)]
def xU(c:UInt8):Bool:=cond (cond (cond (decide (32<(c.toNat:Int))) (decide ((c.toNat:Int)<127)) false) (!(fg (c.toNat:Int))) false) (!(xp (c.toNat:Int))) false
def fc(c:UInt8):J:=cond (xU c) [92,c] (92::(mV c++[32]))
def TV(u:Int):Option (Int×List Int):=
  Option.bind (MC (bY 16)) λdb=>
  Option.bind (
  Iv 30000 16 db 30000 u 65 (List.replicate 65 (0:Int))) λ(fT:Int×Int×(List Int))=>
  aB (0≤fT.1∧fT.1<ln [48,49,50,51,52,53,54,55,56,57,97,98,99,100,101,102,103,104,105,106,107,108,109,110,111,112,113,114,115,116,117,118,119,120,121,122])<|
  lt (aI [48,49,50,51,52,53,54,55,56,57,97,98,99,100,101,102,103,104,105,106,107,108,109,110,111,112,113,114,115,116,117,118,119,120,121,122] fT.1) λvg=>
  aB (0≤aa (fT.2.1-1)∧aa (fT.2.1-1)<(65:Int))<|
  lt (aW fT.2.2 (aa (fT.2.1-1)) vg) λrK=>
  some (aa (fT.2.1-1),rK)
theorem aeI:((List.range 256).all λn=>match TV (n:Int)with
  |some z=>decide (0≤z.1∧z.1<(65:Int))&&z.2.drop z.1.toNat==ax (mV (UInt8.ofNat n))
  |none=>false)=true:=by kernel_rfl
theorem aeJ(d:List Int)(c:UInt8)(hd:ln d+10≤1099511627776):Iw 30000 d (c.toNat:Int) 16 false true=some (d++ax (mV c),[]):=by
  have h:=iw aeI c;rw[show UInt8.ofNat c.toNat=c from by simp]at h;have e:Iw 30000 d (c.toNat:Int) 16 false true=Option.bind (TV (c.toNat:Int)) λz=>aB (0≤z.1∧z.1<(65:Int))<|aB (ln d+ln (z.2.drop z.1.toNat)≤1099511627776)<|lt (d++z.2.drop z.1.toNat) λq=>some (q,[]):=by kernel_rfl
  rw[e];cases hz:TV (c.toNat:Int)with
  |none=>rw[hz]at h;cases h
  |some z=>
    rw[hz]at h;simp only[Bool.and_eq_true,decide_eq_true_eq,beq_iff_eq]at h;rw[ai,aL h.1,h.2];have hl:ln (ax (mV c))≤2:=by unfold ln;rw[mS];unfold mV;cases Nat.blt c.toNat 16<;>simp
    rw[aL (by omega)];rfl
theorem aeK(d:List Int)(c:UInt8)(hd:ln d+10≤1099511627776):Iy 30000 d (c.toNat:Int)=some (d++ax (mV c)):=by
  unfold Iy C0;rw[show((16:Int)==10)=false from rfl,ae,aeJ d c hd];rfl
theorem je{α:Type}(a b:List α):ln (a++b)=ln a+ln b:=by unfold ln;rw[bB];omega
theorem CE(c:UInt8):(fc c).length≤4:=by
  unfold fc;cases xU c with
  |true=>simp
  |false=>simp only[ae,aZ,bB];unfold mV;cases Nat.blt c.toNat 16<;>simp
theorem NJ(b:List Int)(c:UInt8)(hb:ln b≤1000000000):xz 30000 b (c.toNat:Int)=some (b++ax (fc c)):=by
  have iN:=c.toNat_lt;unfold xz;rw[lt_eq,lt_eq];show cond (xU c) _ _=_;unfold fc;cases xU c with
  |true=>
    rw[af,af,aL (by show ln b+2≤_;omega),lt_eq];rfl
  |false=>
    rw[ae,ae,aL (by show ln b+1≤_;omega),lt_eq];rw[show bY (c.toNat:Int)=(c.toNat:Int)from Ya (by omega) (by omega)];rw[aeK _ c (by rw[je];show ln b+1+10≤_;omega),ai];have hl:ln (ax (mV c))≤2:=by unfold ln;rw[mS];unfold mV;cases Nat.blt c.toNat 16<;>simp
    rw[aL (by rw[je,je];show ln b+1+ln (ax (mV c))+1≤_;omega),lt_eq];congr 1;simp[ax]
def bR(f:Nat→UInt8→Bool):Nat→J→J
  |_,[]=>[]
  |i,c::r=>cond (f i c) [c] (fc c)++bR f (i+1) r
theorem NK(f:Nat→UInt8→Bool):∀(l:J)(i:Nat),(bR f i l).length≤4*l.length
  |[],_=>by simp[bR]
  |c::r,i=>by
    have ih:=NK f r (i+1);have h4:=CE c;rw[bR,bB,aZ];cases f i c with
    |true=>simp only[af,aZ,bW];omega
    |false=>simp only[ae];omega
def fM(f:Int)(s0:J)(i:Nat)(c:UInt8):Bool:=cond (cond (fa (c.toNat:Int)) (cond (decide (f≤(i:Int))) true (!(fg (c.toNat:Int)))) false) (cond (f==0) true (!(s0==[45]))) false
def pP(c:UInt8):Bool:=decide (0≤strings_IndexByte [10,12,13,34,92] (c.toNat:Int))
def lR(c:UInt8):Bool:=cond (decide ((c.toNat:Int)≤32)) true (decide (0≤strings_IndexByte [34,39,40,41,92,127] (c.toNat:Int)))
def cg(f:Int)(s:J):J:=bR (fM f s) 0 s
def ms(s:J):J:=bR (λ_ c=>!(pP c)) 0 s
def gX(s:J):J:=bR (λ_ c=>!(lR c)) 0 s
theorem aeL(s:J)(f:Int)(hs:s.length≤100000):∀(kk i:Nat)(b:List Int),s.length-i<kk→i≤s.length→ln b+4*((s.length-i:Nat):Int)≤1000000000→
    EI 30000 s f kk b (i:Int)=some (b++ax (bR (fM f s) i (s.drop i))):=by
  intro kk
  induction kk with
  |zero=>intro i b h;omega
  |succ kk ih=>
    intro i b hk hi hb;rw[EI];by_cases aM:i<s.length
    · have iN:=(s[i]).toNat_lt;rw[dM aM,af,dN aM,Jz aM,lt_eq,lt_eq,gp aM,bR];show Option.bind (cond (fM f s i s[i]) _ _) _=_;cases hr:fM f s i s[i]with
      |true=>
        rw[af,af,aL (by show ln b+1≤_;omega),lt_eq,ai,br (by omega)];dsimp only;rw[ih (i+1) _ (by omega) aM (by rw[je];show ln b+1+_≤_;omega)];simp[ax]
      |false=>
        have h4:=CE s[i];rw[ae,ae,NJ b _ (by omega),ai,ai,br (by omega)];dsimp only;rw[ih (i+1) _ (by omega) aM (by rw[je];have h5:ln (ax (fc s[i]))≤4:=(by unfold ln;rw[mS];omega);omega),jn,c7]
    · rw[eS (by omega),ae,fF (by omega)];simp[bR,ax]
theorem xV(s:J)(f:Int)(hs:s.length≤20000)(b:List Int)(hb:ln b≤100000000):qO 30000 b s f=some (b++ax (cg f s)):=by
  unfold qO;rw[show EI 30000 s f 30000 b 0=_ from aeL s f (by omega) 30000 0 b (by omega) (by omega) (by omega)];rfl
theorem a0W{s:J}{i:Nat}(h:i<s.length):gi (ax s) (i:Int)=(s[i].toNat:Int):=TB s i h
theorem aeM(t:aq)(hs:t.az.length≤100000):∀(kk i:Nat)(b:List Int),t.az.length-i<kk→i≤t.az.length→ln b+4*((t.az.length-i:Nat):Int)≤1000000000→
    EM 30000 t kk b (i:Int)=some (b++ax (bR (λ_ c=>!(pP c)) i (t.az.drop i))):=by
  generalize hT:t.az=s at hs;intro kk
  induction kk with
  |zero=>intro i b h;omega
  |succ kk ih=>
    intro i b hk hi hb;rw[EM,hT,kP];by_cases aM:i<s.length
    · have iN:=(s[i]).toNat_lt;rw[show decide ((i:Int)<(s.length:Int))=true from bC (by omega),af,aL (by rw[←kP];unfold ln;rw[mS];omega),a0W aM,lt_eq,gp aM,bR];show Option.bind (cond (pP s[i]) _ _) _=_;cases hr:pP s[i]with
      |false=>
        rw[ae,j8,af,aL (by show ln b+1≤_;omega),lt_eq,ai,br (by omega)];dsimp only;rw[ih (i+1) _ (by omega) aM (by rw[je];show ln b+1+_≤_;omega)];simp[ax]
      |true=>
        have h4:=CE s[i];rw[af,dK,ae,NJ b _ (by omega),ai,ai,br (by omega)];dsimp only;rw[ih (i+1) _ (by omega) aM (by rw[je];have h5:ln (ax (fc s[i]))≤4:=(by unfold ln;rw[mS];omega);omega),jn,c7]
    · rw[show decide ((i:Int)<(s.length:Int))=false from bV (by omega),ae,fF (by omega)];simp[bR,ax]
theorem aeN(t:aq)(hs:t.az.length≤100000):∀(kk i:Nat)(b:List Int),t.az.length-i<kk→i≤t.az.length→ln b+4*((t.az.length-i:Nat):Int)≤1000000000→
    EN 30000 t kk b (i:Int)=some (b++ax (bR (λ_ c=>!(lR c)) i (t.az.drop i))):=by
  generalize hT:t.az=s at hs;intro kk
  induction kk with
  |zero=>intro i b h;omega
  |succ kk ih=>
    intro i b hk hi hb;rw[EN,hT,kP];by_cases aM:i<s.length
    · have iN:=(s[i]).toNat_lt;rw[show decide ((i:Int)<(s.length:Int))=true from bC (by omega),af,aL (by rw[←kP];unfold ln;rw[mS];omega),a0W aM,lt_eq,lt_eq,gp aM,bR];show Option.bind (cond (lR s[i]) _ _) _=_;cases hr:lR s[i]with
      |false=>
        rw[ae,j8,af,aL (by show ln b+1≤_;omega),lt_eq,ai,br (by omega)];dsimp only;rw[ih (i+1) _ (by omega) aM (by rw[je];show ln b+1+_≤_;omega)];simp[ax]
      |true=>
        have h4:=CE s[i];rw[af,dK,ae,NJ b _ (by omega),ai,ai,br (by omega)];dsimp only;rw[ih (i+1) _ (by omega) aM (by rw[je];have h5:ln (ax (fc s[i]))≤4:=(by unfold ln;rw[mS];omega);omega),jn,c7]
    · rw[show decide ((i:Int)<(s.length:Int))=false from bV (by omega),ae,fF (by omega)];simp[bR,ax]
theorem aeO{p:UInt8→Bool}{s:J}{i:Nat}{b:UInt8}{r:J}(h:s.drop i=b::r):aD p s i=p b:=by
  have e:s[i]?=(s.drop i)[0]?:=by rw[List.getElem?_drop,Nat.add_zero]
  unfold aD;rw[e,h];rfl
theorem gj{s:J}{i:Nat}{b:UInt8}{r:J}(h:s.drop i=b::r):i<s.length:=by
  rcases Nat.lt_or_ge i s.length with h1|h1
  · exact h1
  · rw[fF h1]at h;cases h
theorem jg{s:J}{i:Nat}{b:UInt8}{r:J}(h:s.drop i=b::r):s.drop (i+1)=r:=by
  rw[←List.drop_drop,h];rfl
theorem mu{s:J}{i:Nat}{a r:J}(h:s.drop i=a++r):s.drop (i+a.length)=r:=by
  rw[←List.drop_drop,h,List.drop_left]
theorem sD{s:J}{i:Nat}{a r:J}(hi:i≤s.length)(h:s.drop i=a++r):i+a.length+r.length=s.length:=by
  have:=congrArg List.length h;rw[List.length_drop,bB]at this;omega
theorem get_at{s:J}{i:Nat}{b:UInt8}{r:J}(h:s.drop i=b::r):aI s (i:Int)=(b.toNat:Int):=by
  have hi:=gj h;rw[wT s i hi];have:s[i]=b:=by
    have e:=gp hi;rw[h]at e;exact(List.cons.inj e).1.symm
  rw[this]
theorem xW(p:UInt8→Bool)(s:J)(i:Nat):aD p s i=match s.drop i with
    |[]=>false
    |b::_=>p b:=by
  have h:s[i]?=(s.drop i)[0]?:=by rw[List.getElem?_drop,Nat.add_zero]
  unfold aD;rw[h];cases s.drop i<;>rfl
theorem CF(s:J)(i:Nat):cv s i=(s.drop i).takeWhile aK:=rfl
theorem a0X(D R:J)(hd:∀b∈D,aK b=true)(hR:R=[]∨∃r,R=46::r):(D++R).takeWhile aK=D:=by
  rw[List.takeWhile_append_of_pos hd];rcases hR with rfl|⟨r,rfl⟩
  · rw[List.takeWhile_nil,List.append_nil]
  · rw[List.takeWhile_cons_of_neg (by decide),List.append_nil]
structure NL(s D1 D2:J)(sg:Bool):Prop where
  num:jw s 0=true
  fin:(iJ s).1=s.length
  nd:oQ s D2 s.length
  d1:dA s=D1
  neg:aD (ag 45) s 0=sg
  ex:aD cc s s.length=false
theorem NM(sg D1 D2 R:J)(hs:sg=[]∨sg=[45])(h1:D1≠[])(dL:∀b∈D1,aK b=true)(dw:∀b∈D2,aK b=true)(hR:(R=[]∧D2=[])∨(R=46::D2∧D2≠[])):
    NL (sg++(D1++R)) D1 D2 (!sg.isEmpty):=by
  obtain⟨d,r,rfl⟩:∃d r,D1=d::r:=by
    cases D1 with
    |nil=>exact absurd rfl h1
    |cons d r=>exact⟨d,r,rfl⟩
  have hd:=dL d List.mem_cons_self;obtain⟨g1,g2,g3,_⟩:=u5 hd;have hm:ag 45 d=false:=by
    unfold bp at g1;rw[pw]at g1;exact g1.2
  have hR':R=[]∨∃r,R=46::r:=by
    rcases hR with⟨h,_⟩|⟨h,_⟩
    · exact Or.inl h
    · exact Or.inr ⟨_,h⟩
  have jh:(sg++(d::r++R)).drop sg.length=d::r++R:=List.drop_left;generalize TW:sg++(d::r++R)=s at*;have u6:bK s 0=sg.length:=by
    unfold bK;rw[xW,fG,←TW];rcases hs with rfl|rfl
    · show cond (bp d) _ _=_;rw[g1];rfl
    · rfl
  have a0Y:aD (ag 45) s 0=!sg.isEmpty:=by
    rw[xW,fG,←TW];rcases hs with rfl|rfl
    · exact hm
    · rfl
  have xX:dA s=d::r:=by
    unfold dA;rw[u6,CF,jh];exact a0X _ _ dL hR'
  have qd:yA s=sg.length+(d::r).length:=by unfold yA;rw[u6,xX]
  have TX:s.drop (yA s)=R:=by
    rw[qd,←List.drop_drop,jh];exact List.drop_left
  have hlen:s.length=yA s+R.length:=by
    rw[qd,←TW];simp only[bB];omega
  have FK:aD cc s s.length=false:=by rw[xW,List.drop_length]
  have TY:jw s 0=true:=by
    unfold jw;dsimp only;rw[u6];have e1:aD (ag 46) s sg.length=false:=by rw[xW,jh];exact g2
    have e2:aD aK s sg.length=true:=by rw[xW,jh];exact hd
    rw[e1,ae,e2]
  have hy:=Cv s (yA s) rfl;rcases hR with⟨rfl,rfl⟩|⟨rfl,cQ⟩
  · have ed:aD (ag 46) s (yA s)=false:=by rw[xW,TX]
    have el:yA s=s.length:=by rw[hlen];rfl
    rw[ed]at hy;simp only[ae]at hy;refine⟨TY,?_,⟨Or.inr ⟨ed,rfl,el.symm⟩,Or.inr ⟨FK,rfl⟩,by rw[xX];exact List.cons_ne_nil _ _,cF _⟩,xX,a0Y,FK⟩;unfold iJ;rw[hy,el];unfold mq;rw[FK];rfl
  · have ed:aD (ag 46) s (yA s)=true:=by rw[xW,TX];rfl
    have FL:s.drop (yA s+1)=D2:=by rw[←List.drop_drop,TX];rfl
    have eg:cv s (yA s+1)=D2:=by
      rw[CF,FL];have:=a0X D2 [] dw (Or.inl rfl);rwa [List.append_nil]at this
    have et:aD aK s (yA s+1)=true:=by
      rw[xW,FL];cases D2 with
      |nil=>exact absurd rfl cQ
      |cons b q=>exact dw b List.mem_cons_self
    have el:yA s+1+D2.length=s.length:=by rw[hlen];simp only[aZ];omega
    rw[ed,et,eg]at hy;simp only[af]at hy;refine⟨TY,?_,⟨Or.inl ⟨ed,eg.symm,el.symm,cQ⟩,Or.inr ⟨FK,rfl⟩,by rw[xX];exact List.cons_ne_nil _ _,cF _⟩,xX,a0Y,FK⟩;unfold iJ;rw[hy,el];unfold mq;rw[FK];rfl
def eX(l:J)(v:Nat):Nat:=l.foldl (λv b=>10*v+(b.toNat-48)) v
theorem JC(a b:J)(v:Nat):eX (a++b) v=eX b (eX a v):=List.foldl_append ..
theorem JD:∀(l:J)(v:Nat),eX l v=v*10^l.length+eX l 0
  |[],v=>by simp[eX]
  |b::l,v=>by
    have e1:eX (b::l) v=eX l (10*v+(b.toNat-48)):=rfl;have e2:eX (b::l) 0=eX l (10*0+(b.toNat-48)):=rfl;rw[e1,e2,JD l (10*v+(b.toNat-48)),JD l (10*0+(b.toNat-48)),aZ,Nat.pow_succ,Nat.add_mul,Nat.mul_comm 10 v,Nat.mul_assoc,Nat.mul_comm 10 (10^l.length),Nat.mul_zero,Nat.zero_add];omega
theorem NN(cap:Nat):∀(l:J)(v w:Nat),v=min cap w→jc cap l v=min cap (eX l w)
  |[],_,_,e=>e
  |b::l,v,w,e=>by
    rw[Cx];show _=min cap (eX l (10*w+(b.toNat-48)));refine NN cap l _ _ ?_;subst e;omega
theorem aeP(sg D1 D2 F:J)(hs:sg=[]∨sg=[45])(h1:D1≠[])(dL:∀b∈D1,aK b=true)(dw:∀b∈D2,aK b=true)(hF:(F=[]∧D2=[])∨(F=46::D2∧D2≠[]))(h3:D2.length≤3)
    (q:Nat)(hq:q≤1000000000000)(hv:eX D1 0=q/1000)(hf:eX D2 0*10^(3-D2.length)=q%1000)(hl:(sg++(D1++F)).length≤2000):
    Bs 30000 (sg++(D1++F))=some (cond sg.isEmpty (q:Int) (-(q:Int))):=by
  have ht:=NM sg D1 D2 F hs h1 dL dw hF;have hr:=a0F 30000 (sg++(D1++F)) D2 _ ht.nd (by omega) (by omega);have e:kz (sg++(D1++F)) (sg++(D1++F)).length 1048576=0:=by unfold kz;rw[ht.ex];rfl
  rw[e,ht.d1,Int.add_zero]at hr;rw[hr];congr 1;have A6:eX (D1++D2) 0=q/1000*10^D2.length+eX D2 0:=by rw[JC,hv,JD]
  have xY:eX (D1++D2) 0*10^(3-D2.length)=q:=by
    rw[A6,Nat.add_mul,Nat.mul_assoc,←Nat.pow_add,show D2.length+(3-D2.length)=3 from by omega,hf];omega
  have lx:0<10^(3-D2.length):=Nat.pow_pos (by decide);have hle:eX (D1++D2) 0≤q:=by
    have:=Nat.le_mul_of_pos_right (eX (D1++D2) 0) lx;omega
  have hDl:D2.length≤(D1++D2).length:=by rw[bB];omega
  generalize D1++D2=DD at*;have AJ:jc 1000000000000 (DD.take ((DD.length:Int)+(3-(D2.length:Int))).toNat) 0=eX DD 0:=by
    rw[List.take_of_length_le (by omega),NN _ _ 0 0 (by simp)];omega
  have hmul:jX (3-(D2.length:Int)) (eX DD 0)=q:=by
    unfold jX;split
    · rename_i hc;rcases hc with hc|hc
      · have e:D2.length=3:=by omega
        rw[e]at xY;simpa using xY
      · rw[hc]at xY⊢;omega
    · have e:(3-(D2.length:Int)).toNat=3-D2.length:=by omega
      rw[e,xY];omega
  unfold worth;rw[ht.neg,AJ,hmul];cases sg.isEmpty<;>rfl
theorem A7{u:Nat}(h:u<10):Lib.decDigits u=[UInt8.ofNat (48+u)]:=by rw[Lib.decDigits,dif_pos h]
theorem A8{u:Nat}(h:¬u<10):Lib.decDigits u=Lib.decDigits (u/10)++[UInt8.ofNat (48+u%10)]:=by rw[Lib.decDigits,dif_neg h]
theorem JE:∀(k u:Nat),u<10^(k+1)→(Lib.decDigits u).length≤k+1
  |0,u,h=>by rw[A7 (by simpa using h)];simp
  |k+1,u,h=>by
    by_cases hu:u<10
    · rw[A7 hu];simp
    · rw[A8 hu,bB];have:=JE k (u/10) (by rw[Nat.pow_succ]at h;omega);simp only[aZ,bW];omega
theorem aeQ{u:Nat}(hu:u<1000000000000000):GO (u:Int)=some (Lib.decDigits u):=by
  unfold GO;rw[aL (by omega),Ld (by omega)];unfold Lib.itoa;rw[if_neg (by omega),Int.toNat_natCast]
theorem aeR(l cs:J):(Lib.trimRightS l cs).length≤l.length:=by
  unfold Lib.trimRightS;rw[List.length_reverse];have:=(List.dropWhile_sublist (cs.contains ·) (l:=l.reverse)).length_le;rw[List.length_reverse]at this;exact this
theorem aeS(s:J)(i j:Int):(sub s i j).length≤s.length:=by
  unfold sub;rw[List.length_take,List.length_drop];omega
theorem aeT(s:J)(h:s.length≤1000):IA s [48]=some (Lib.trimRightS s [48]):=by
  unfold IA;rw[aL ⟨by decide,by decide,by omega⟩]
theorem ua{n:Nat}(h:n≠0):Nat.beq n 0=false:=by
  cases n with
  |zero=>exact absurd rfl h
  |succ n=>rfl
def d3(r:Nat):J:=[UInt8.ofNat (48+r/100),UInt8.ofNat (48+r/10%10),UInt8.ofNat (48+r%10)]
theorem dd4(r:Nat)(h:r<1000):Lib.decDigits (1000+r)=49::d3 r:=by
  rw[A8 (by omega),A8 (by omega),A8 (by omega),A7 (by omega)];rw[show(1000+r)/10/10/10=1 from by omega,show(1000+r)/10/10%10=r/100 from by omega,show(1000+r)/10%10=r/10%10 from by omega,show(1000+r)%10=r%10 from by omega];rfl
def mW(r:Nat):J:=Lib.trimRightS (d3 r) [48]
theorem aeU:((List.range 1000).all λr=>Nat.beq r 0||(!(mW r).isEmpty&&(mW r).all aK&&Nat.ble (mW r).length 3&&Nat.beq (eX (mW r) 0*10^(3-(mW r).length)) r))=true:=by kernel_rfl
theorem aeV{r:Nat}(h0:r≠0)(h:r<1000):mW r≠[]∧(∀b∈mW r,aK b=true)∧(mW r).length≤3∧eX (mW r) 0*10^(3-(mW r).length)=r:=by
  have h1:=(List.all_eq_true.1 aeU) r (List.mem_range.2 h);rw[ua h0,gr]at h1;simp only[Bool.and_eq_true,Bool.not_eq_true']at h1;obtain⟨⟨⟨h2,h3⟩,h4⟩,h5⟩:=h1;refine⟨λe=>?_,List.all_eq_true.1 h3,Nat.le_of_ble_eq_true h4,Nat.eq_of_beq_eq_true h5⟩;rw[e]at h2;cases h2
theorem JF(q:Nat)(h:q<10):(UInt8.ofNat (48+q)).toNat=48+q:=by
  rw[UInt8.toNat_ofNat'];omega
theorem JG(u:Nat):Lib.decDigits u≠[]:=by
  by_cases h:u<10
  · rw[A7 h];exact List.cons_ne_nil _ _
  · rw[A8 h];intro e;exact List.cons_ne_nil _ _ (List.append_eq_nil_iff.1 e).2
theorem a0Z(q:Nat)(h:q<10):aK (UInt8.ofNat (48+q))=true:=by
  unfold aK;rw[JF q h];simp only[Bool.and_eq_true,decide_eq_true_eq];omega
theorem TZ:∀(n u:Nat),u<n→∀b∈Lib.decDigits u,aK b=true
  |0,u,h=>by omega
  |n+1,u,h=>by
    intro b hb;by_cases hu:u<10
    · rw[A7 hu]at hb;rw[List.mem_singleton.1 hb];exact a0Z u hu
    · rw[A8 hu]at hb;rcases List.mem_append.1 hb with hb|hb
      · exact TZ n (u/10) (by omega) b hb
      · rw[List.mem_singleton.1 hb];exact a0Z _ (Nat.mod_lt _ (by decide))
theorem a13:∀(n u:Nat),u<n→eX (Lib.decDigits u) 0=u
  |0,u,h=>by omega
  |n+1,u,h=>by
    by_cases hu:u<10
    · rw[A7 hu];show 10*0+((UInt8.ofNat (48+u)).toNat-48)=u;rw[JF u hu];omega
    · rw[A8 hu,JC,a13 n (u/10) (by omega)];show 10*(u/10)+((UInt8.ofNat (48+u%10)).toNat-48)=u;rw[JF _ (Nat.mod_lt _ (by decide))];omega
theorem a14(u:Nat):∃c r,Lib.decDigits u=c::r∧aK c=true:=by
  cases h:Lib.decDigits u with
  |nil=>exact absurd h (JG u)
  |cons c r=>exact⟨c,r,rfl,TZ (u+1) u (by omega) c (by rw[h];exact List.mem_cons_self)⟩
theorem aeW:((List.range 100).all λn=>match EG (n:Int)with
  |some y=>y==Lib.decDigits n
  |none=>false)=true:=by kernel_rfl
theorem aeX{u:Nat}(h:u<100):EG (u:Int)=some (Lib.decDigits u):=by
  have h1:=lj aeW h;cases hz:EG (u:Int)with
  |none=>rw[hz]at h1;cases h1
  |some z=>rw[hz]at h1;rw[eq_of_beq h1]
theorem aeY(d:List Int)(u:Nat)(hu:u≤1000000000000)(hd:ln d≤1000000000):C0 30000 d (u:Int) 10=some (d++ax (Lib.decDigits u)):=by
  have hl:=JE 15 u (by show _<10000000000000000;omega);have ma:ln (Lib.decDigits u)≤16:=by unfold ln;omega
  unfold C0;rw[show((10:Int)==10)=true from rfl,af];by_cases h:u<100
  · rw[bC (by omega),af,cT (by omega) (by omega),aeX h,ai,aL (by omega)];rfl
  · have e:B1 (u:Int)=Lib.decDigits u:=by
      rw[Ld (by omega)];unfold Lib.itoa;rw[if_neg (by omega),Int.toNat_natCast]
    rw[bV (by omega),ae,aL (by omega),e,aL (by unfold ln at*;rw[mS];omega)]
theorem aeZ(d:List Int)(u:Nat)(hu:u≤1000000000000)(hd:ln d≤1000000000):EL 30000 d (u:Int)=some (d++ax (Lib.decDigits u)):=by
  unfold EL MJ;rw[bV (by omega),ae,ai];dsimp only;rw[Ya (by omega) (by omega),aeY d u hu hd];rfl
def ez(r:Nat)(pt:Bool):J:=cond (Nat.beq r 0) (cond pt [46,48] []) (46::mW r)
def CG(u:Nat)(pt:Bool):J:=Lib.decDigits (u/1000)++ez (u%1000) pt
def fU(n:Int):J:=cond (decide (n<0)) [45] []
def fV(n:Int)(pt:Bool):J:=fU n++CG n.natAbs pt
theorem af0(r:Nat)(h:r<1000):Lib.trimRightS (sub (Lib.decDigits (1000+r)) 1 (ln (Lib.decDigits (1000+r)))) [48]=mW r:=by
  rw[dd4 r h];rfl
theorem af1:((List.range 1000).all λr=>Nat.beq r 0==(mW r==[]))=true:=by kernel_rfl
theorem af2{r:Nat}(h:r<1000):(mW r==[])=Nat.beq r 0:=(eq_of_beq (lj (p:=λr=>Nat.beq r 0==(mW r==[])) af1 h)).symm
theorem U0(r:Nat):(mW r).length≤3:=by
  have:=aeR (d3 r) [48];exact this
theorem a15(d:List Int)(u:Nat)(pt:Bool)(hu:u≤1000000000000)(hd:ln d≤100000000):
    (Option.bind (EL 30000 d (aa (Int.tdiv (u:Int) 1000))) λdY=>
  Option.bind (GO (aa (1000+Int.tmod (u:Int) 1000))) λlg=>
  aB (0≤(1:Int)∧(1:Int)≤ln lg)<|
  Option.bind (IA (sub lg 1 (ln lg)) [48]) λgz=>
  Option.bind (
  cond (!(gz==[])) (
  aB (ln dY+ln ([46]:List Int)≤1099511627776)<|
  lt (dY++([46]:List Int)) λsb=>
  aB (ln sb+ln gz≤1099511627776)<|
  lt (sb++ax gz) λxv=>
  some xv) (
  cond pt (
  aB (ln dY+ln [46,48]≤1099511627776)<|
  lt (dY++ax [46,48]) λuT=>
  some uT) (
  some dY))) λ(tN:List Int)=>
  some tN)=some (d++ax (CG u pt)):=by
  have hm:Int.tmod (u:Int) 1000=((u%1000:Nat):Int):=by rw[LL (by omega)];omega
  have hq:aa (Int.tdiv (u:Int) 1000)=((u/1000:Nat):Int):=by rw[E1 (by omega),cT (by omega) (by omega)];omega
  have hr:u%1000<1000:=Nat.mod_lt _ (by decide);have hs:aa (1000+((u%1000:Nat):Int))=((1000+u%1000:Nat):Int):=by rw[cT (by omega) (by omega)];omega
  have hl:=JE 15 (u/1000) (by show _<10000000000000000;omega);have iX:=aeS (Lib.decDigits (1000+u%1000)) 1 (ln (Lib.decDigits (1000+u%1000)));have h4:(Lib.decDigits (1000+u%1000)).length=4:=by rw[dd4 _ hr];rfl
  have hf:=U0 (u%1000);have hA:ln (d++ax (Lib.decDigits (u/1000)))≤100000016:=by rw[je,kP];omega
  rw[hm,hq,aeZ d _ (by omega) (by omega),ai,hs,aeQ (by omega),ai,aL (by unfold ln;omega),aeT _ (by omega),ai,af0 _ hr,af2 hr];unfold CG ez;cases Nat.beq (u%1000) 0 with
  |true=>
    rw[dK,ae,af];cases pt with
    |true=>
      rw[af,af,aL (by show _+2≤_;omega),lt_eq,ai,jn,c7]
    |false=>rw[ae,ae,ai,List.append_nil]
  |false=>
    rw[j8,af,ae,aL (by show _+1≤_;omega),lt_eq,aL (by rw[je];show _+1+_≤_;unfold ln at*;omega),lt_eq,ai,jn,c7,c7];rfl
theorem af3(u:Nat)(pt:Bool)(hu:u≤1000000000000):(CG u pt).length≤20:=by
  have hl:=JE 15 (u/1000) (by show _<10000000000000000;omega);have hf:=U0 (u%1000);unfold CG ez;rw[bB];cases Nat.beq (u%1000) 0<;>cases pt<;>simp only[af,ae,aZ,bW]<;>omega
theorem U1(d:List Int)(n:Int)(pt:Bool)(h1:-1000000000000≤n)(h2:n≤1000000000000)(hd:ln d≤10000000):C3 30000 d n pt=some (d++ax (fV n pt)):=by
  unfold C3 fV fU;by_cases h:n<0
  · obtain⟨u,rfl⟩:∃u:Nat,n=-(u:Int):=⟨n.natAbs,by omega⟩;rw[bC h,af,aL (by show _+1≤_;omega),lt_eq,ai];dsimp only;rw[show aa (0- -(u:Int))=(u:Int) by rw[cT (by omega) (by omega)];omega,a15 _ u pt (by omega) (by rw[je];show _+1≤_;omega),show(-(u:Int)).natAbs=u from by omega,af,c7];rfl
  · obtain⟨u,rfl⟩:∃u:Nat,n=(u:Int):=⟨n.natAbs,by omega⟩;rw[bV h,ae,ai];dsimp only;rw[a15 _ u pt (by omega) (by omega),show((u:Int)).natAbs=u from by omega,ae];rfl
theorem af4(l:List Int)(i:Nat)(c:Int)(h:i<l.length):(aW l (i:Int) c).drop i=c::l.drop (i+1)∧(aW l (i:Int) c).length=l.length:=by
  unfold aW;rw[Int.toNat_natCast];refine⟨?_,List.length_set ..⟩;rw[gp (by rw[List.length_set];exact h),List.getElem_set_self,List.drop_set_of_lt (by omega)]
theorem fw1(c:Int)(p:Nat)(l:List Int)(hl:l.length=20)(h0:0<p)(h1:p≤20):∃l',xK c (p:Int) l=some (((p-1:Nat):Int),l')∧l'.length=20∧l'.drop (p-1)=c::l.drop p:=by
  unfold xK;have hw:aa ((p:Int)-1)=((p-1:Nat):Int):=by rw[cT (by omega) (by omega)];omega
  have hs:=af4 l (p-1) c (by omega);rw[hw,aL (by omega),lt_eq];refine⟨_,rfl,by rw[hs.2,hl],?_⟩;rw[hs.1,show p-1+1=p from by omega]
def z20:List Int:=[0,0,0,0,0,0,0,0,0,0,0,0,0,0,0,0,0,0,0,0]
theorem af5:((List.range 1000).all λr=>match qS 30000 4 (r:Int) 0 20 z20 with
  |some z=>z.1==((20-(ez r false).length:Nat):Int)&&(z.2.length==20&&z.2.drop (20-(ez r false).length)==ax (ez r false))
  |none=>false)=true:=by kernel_rfl
theorem bind_mono{α β:Type}{X:Option α}{f g:α→Option β}{z:β}(h:∀x z,f x=some z→g x=some z)(hz:X.bind f=some z):X.bind g=some z:=by
  cases X with
  |none=>cases hz
  |some x=>exact h x z hz
theorem af6(kk:Nat)(r:Int)(z)(h:qS 30000 4 r 0 20 z20=some z):qS 30000 (kk+4) r 0 20 z20=some z:=by
  have g:∀(n:Nat)(a b c:Int)(l:List Int)(z),qS 30000 n a b c l=some z→qS 30000 (n+kk) a b c l=some z:=by
    intro n
    induction n with
    |zero=>intro a b c l z h;cases h
    |succ n ih=>
      intro a b c l z h;rw[show n+1+kk=(n+kk)+1 from by omega];rw[qS]at h⊢;by_cases hb:b<3
      · rw[bC hb,af]at h⊢;exact bind_mono (λx z=>ih _ _ _ _ z) h
      · rw[bV hb,ae]at h⊢;exact h
  rw[Nat.add_comm];exact g 4 r 0 20 z20 z h
theorem af7(r:Nat)(hr:r<1000):∃l',qS 30000 30000 (r:Int) 0 20 z20=some (((20-(ez r false).length:Nat):Int),l')∧l'.length=20∧l'.drop (20-(ez r false).length)=ax (ez r false):=by
  have h:=lj (p:=λr=>match qS 30000 4 (r:Int) 0 20 z20 with
    |some z=>z.1==((20-(ez r false).length:Nat):Int)&&(z.2.length==20&&z.2.drop (20-(ez r false).length)==ax (ez r false))
    |none=>false) af5 hr
  cases hz:qS 30000 4 (r:Int) 0 20 z20 with
  |none=>rw[hz]at h;cases h
  |some z=>
    rw[hz]at h;simp only[Bool.and_eq_true,beq_iff_eq]at h;refine⟨z.2,?_,h.2.1,h.2.2⟩;rw[af6 29996 r z hz];rw[←h.1]
theorem a16:∀(k u p:Nat)(l:List Int)(kk:Nat),u<10^(k+1)→k<kk→k+1≤p→p≤20→l.length=20→u≤1000000000000→
    ∃l',F8 30000 kk (u:Int) (p:Int) l=some (((p-(Lib.decDigits u).length:Nat):Int),l')∧l'.length=20∧l'.drop (p-(Lib.decDigits u).length)=ax (Lib.decDigits u)++l.drop p
  |k,u,p,l,kk+1,hu,hk,hp,JH,hl,qa=>by
    rw[F8];have hm:Int.tmod (u:Int) 10=((u%10:Nat):Int):=by rw[LL (by omega)];omega
    have hd:aa (Int.tdiv (u:Int) 10)=((u/10:Nat):Int):=by rw[E1 (by omega),cT (by omega) (by omega)];omega
    have hc:bj (aa (48+((u%10:Nat):Int)))=((48+u%10:Nat):Int):=by rw[cT (by omega) (by omega),rH (by omega) (by omega)];omega
    obtain⟨l1,e1,e2,e3⟩:=fw1 ((48+u%10:Nat):Int) p l hl (by omega) JH;rw[hm,hc,e1,ai];by_cases h:u<10
    · rw[bC (by omega),af,A7 h];refine⟨l1,rfl,e2,?_⟩;show l1.drop (p-1)=_;rw[e3,Nat.mod_eq_of_lt h];show _=((UInt8.ofNat (48+u)).toNat:Int)::l.drop p;rw[JF u h]
    · rw[bV (by omega),ae,hd];dsimp only;obtain⟨k,rfl⟩:∃j,k=j+1:=by
        cases k with
        |zero=>rw[Nat.pow_one]at hu;omega
        |succ j=>exact⟨j,rfl⟩
      obtain⟨l2,f1,f2,f3⟩:=a16 k (u/10) (p-1) l1 kk (by rw[Nat.pow_succ]at hu;omega) (by omega) (by omega) (by omega) e2 (by omega);rw[A8 h,bB];have he:p-((Lib.decDigits (u/10)).length+[UInt8.ofNat (48+u%10)].length)=p-1-(Lib.decDigits (u/10)).length:=by simp only[aZ,bW];omega
      rw[he];refine⟨l2,f1,f2,?_⟩;rw[f3,e3,jn,c7];show _++_=_++(((UInt8.ofNat (48+u%10)).toNat:Int)::l.drop p);rw[JF _ (Nat.mod_lt _ (by decide))]
theorem af8(n:Int)(h1:-1000000000000≤n)(h2:n≤1000000000000):IZ 30000 [n]=some 0:=by
  unfold IZ;have e:Ca 30000 [n] 30000 0=some (.inr ()):=by
    show Ca 30000 [n] (29998+1+1) 0=_;rw[Ca,show decide ((0:Int)<ln [n])=true from rfl,af,aL ⟨Int.le_refl _,by show(0:Int)<1;decide⟩,show gi [n] (0:Int)=n from rfl,bV (by omega),bV (by omega),ae,lt_eq,ae,show aa (0+1)=1 from rfl,Ca,show decide ((1:Int)<ln [n])=false from rfl,ae]
  rw[e];rfl
theorem af9(n:Int)(h1:-1000000000000≤n)(h2:n≤1000000000000):J0 30000 n=some (fV n false,0):=by
  have main:∀(u:Nat)(sg:Bool),u≤1000000000000→(Option.bind (
    qS 30000 30000 (Int.tmod (u:Int) 1000) 0 20 z20) λ(qU:Int×(List Int))=>
    Option.bind (
    F8 30000 30000 (aa (Int.tdiv (u:Int) 1000)) qU.1 qU.2) λ(nL:Int×(List Int))=>
    Option.bind (
    cond sg (
    Option.bind (xK 45 nL.1 nL.2) λF9=>
    some (F9.1,F9.2)) (
    some (nL.1,nL.2))) λ(ja:Int×(List Int))=>
    aB (0≤ja.1∧ja.1<(20:Int))<|
    some (bD (ja.2.drop (ja.1).toNat),(0:Int)))=some (cond sg [45] []++CG u false,0):=by
    intro u sg hu;have hm:Int.tmod (u:Int) 1000=((u%1000:Nat):Int):=by rw[LL (by omega)];omega
    have hq:aa (Int.tdiv (u:Int) 1000)=((u/1000:Nat):Int):=by rw[E1 (by omega),cT (by omega) (by omega)];omega
    obtain⟨l1,a1,a2,a3⟩:=af7 (u%1000) (Nat.mod_lt _ (by decide));have hf:(ez (u%1000) false).length≤4:=by
      have:=U0 (u%1000);unfold ez;cases Nat.beq (u%1000) 0<;>simp only[af,ae,aZ,bW]<;>omega
    have CH:=JE 9 (u/1000) (by show _<10000000000;omega);have hdp:0<(Lib.decDigits (u/1000)).length:=List.length_pos_iff.2 (JG _);obtain⟨l2,b1,b2,b3⟩:=a16 9 (u/1000) (20-(ez (u%1000) false).length) l1 30000 (by show _<10000000000;omega) (by decide) (by omega) (by omega) a2 (by omega);rw[hm,hq,a1,ai];dsimp only;rw[b1,ai];dsimp only;rw[a3,←jn]at b3;unfold CG;cases sg with
    |true=>
      obtain⟨l3,c1,c2,c3⟩:=fw1 45 (20-(ez (u%1000) false).length-(Lib.decDigits (u/1000)).length) l2 b2 (by omega) (by omega);rw[af,c1,ai,ai];dsimp only;rw[aL (by omega),Int.toNat_natCast,c3,b3];show some (bD (ax (45::_)),(0:Int))=_;rw[ll];rfl
    |false=>
      rw[ae,ai];dsimp only;rw[aL (by omega),Int.toNat_natCast,b3,ll];rfl
  unfold J0;rw[af8 n h1 h2,ai,show((0:Int) !=0)=false from rfl,ae];unfold fV fU;by_cases h:n<0
  · obtain⟨u,rfl⟩:∃u:Nat,n=-(u:Int):=⟨n.natAbs,by omega⟩;rw[bC h,af,ai,show aa (0- -(u:Int))=(u:Int) by rw[cT (by omega) (by omega)];omega,show(-(u:Int)).natAbs=u from by omega];exact main u true (by omega)
  · obtain⟨u,rfl⟩:∃u:Nat,n=(u:Int):=⟨n.natAbs,by omega⟩;rw[bV h,ae,ai,show((u:Int)).natAbs=u from by omega];exact main u false (by omega)
def A9:J→Bool
  |[]=>false
  |c::_=>c==45
def Aa:J→Bool
  |c::d::_=>c==45&&d==45
  |_=>false
def bP(s:J):Int:=cond (A9 s) 2 1
theorem a17(s:J):stringslite_HasPrefix s [45]=some (A9 s):=by
  unfold stringslite_HasPrefix;rw[show ln ([45]:J)=1 from rfl,aL (λh=>⟨by omega,gS h⟩)];cases s with
  |nil=>rfl
  |cons c r=>
    have hl:(1:Int)≤ln (c::r):=by unfold ln;rw[aZ];omega
    rw[bC hl,af,lt_eq];show some ([c]==[45])=some (c==45);congr 1;simp
theorem a18(s:J):strings_HasPrefix s [45,45]=some (Aa s):=by
  unfold strings_HasPrefix stringslite_HasPrefix;rw[show ln ([45,45]:J)=2 from rfl,aL (λh=>⟨by omega,gS h⟩)]
  match s with
  |[]=>rfl
  |[c]=>rfl
  |c::d::r=>
    have hl:(2:Int)≤ln (c::d::r):=by unfold ln;rw[aZ,aZ];omega
    rw[bC hl,af,lt_eq,ai];show some ([c,d]==[45,45])=some (c==45&&d==45);congr 1;simp
theorem Ab(s:J):sa s=some (bP s):=by
  unfold sa strings_HasPrefix bP;rw[a17,ai,ai];cases A9 s<;>rfl
def a19:J→Bool
  |[]=>false
  |c::_=>aK c
def ub(s:J):Bool:=a19 (cond (A9 s) (s.drop 1) s)
theorem afa(c:UInt8):fg (c.toNat:Int)=aK c:=by
  unfold fg aK;rw[lt_eq];rw[Bool.eq_iff_iff];cases h:decide (48≤(c.toNat:Int))<;>simp at h⊢<;>omega
theorem a1a(s:J):xo s=some (ub s):=by
  unfold xo strings_TrimPrefix stringslite_TrimPrefix ub;have key:∀y:J,(aB ((!(y==[]))=true→0≤(0:Int)∧(0:Int)<ln y)<|lt (cond (!(y==[])) (fg (aI y 0)) false) λx7=>some x7)=some (a19 y):=by
    intro y;cases y with
    |nil=>rfl
    |cons c r=>
      rw[aL (λ_=>⟨by omega,by unfold ln;rw[aZ];omega⟩),show((c::r)==([]:J))=false from rfl,j8,af,lt_eq];show some (fg (c.toNat:Int))=some (aK c);rw[afa]
  rw[a17,ai];cases h:A9 s with
  |false=>rw[ae,ae,ai,ai,key]
  |true=>
    cases s with
    |nil=>cases h
    |cons c r=>
      rw[af,af,aL ⟨by decide,by show(1:Int)≤_;unfold ln;rw[aZ];omega⟩,ai,ai];have e:sub (c::r) (ln ([45]:J)) (ln (c::r))=r:=by
        unfold sub;show List.take _ r=r;rw[List.take_of_length_le];unfold ln;rw[Int.toNat_natCast,aZ];show r.length≤r.length+1-1;omega
      rw[e,key];rfl
def xZ:J→Bool
  |[]=>false
  |c::r=>cc c&&(ub r&&!(Aa r))
def bX(u:J):J:=match u with
  |[]=>[]
  |c::r=>cond (xZ (c::r)) (fc c++cg 0 r) (cg (bP (c::r)) (c::r))
def nX(k:Int):J:=gi [[32],[60,33,45,45],[45,45,62],[58],[59],[44],[91],[93],[40],[41],[123],[125]] (k-13)
def fv(t:aq):J:=
  cond (t.ah==1) (cg (bP t.az) t.az) (
  cond (t.ah==2) (cg (bP t.az) t.az++[40]) (
  cond (t.ah==3) (64::cg (bP t.az) t.az) (
  cond (t.ah==4) (35::cg (cond t.bS (bP t.az) 0) t.az) (
  cond (t.ah==5) (34::(ms t.az++[34])) (
  cond (t.ah==7) ([117,114,108,40]++(gX t.az++[41])) (
  cond (t.ah==9) t.az (
  cond (t.ah==10) (fV t.bu (!t.bS)) (
  cond (t.ah==11) (fV t.bu false++[37]) (
  cond (t.ah==12) (fV t.bu (!t.bS)++bX t.Unit) (nX t.ah))))))))))
structure CI(t:aq):Prop where
  tl:t.az.length≤10000
  ul:t.Unit.length≤10000
  n1:-1000000000000≤t.bu
  n2:t.bu≤1000000000000
  k1:1≤t.ah
  k2:t.ah≤24
  k6:t.ah≠6
  k8:t.ah≠8
  un:t.ah=12→t.Unit≠[]
theorem afb:((List.range 256).all λn=>(cD .or .u8 (n:Int) 32==101)==cc (UInt8.ofNat n))=true:=by kernel_rfl
theorem afc(c:UInt8):(cD .or .u8 (c.toNat:Int) 32==101)=cc c:=by
  have h:=eq_of_beq (iw (p:=λn=>(cD .or .u8 (n:Int) 32==101)==cc (UInt8.ofNat n)) afb c);rw[h,UInt8.ofNat_toNat]
theorem CJ(f:Int)(s:J):(cg f s).length≤4*s.length:=NK _ _ _
theorem CK(n:Int)(pt:Bool)(h1:-1000000000000≤n)(h2:n≤1000000000000):(fV n pt).length≤21:=by
  have:=af3 n.natAbs pt (by omega);unfold fV fU;rw[bB];cases decide (n<0)<;>simp only[af,ae,aZ,bW]<;>omega
theorem unit_eq(b:List Int)(t:aq)(hb:ln b≤10000000)(hu:t.Unit.length≤10000)(hn:t.Unit≠[]):
    (aB (0≤(0:Int)∧(0:Int)<ln t.Unit)<|
  aB ((cD .or .u8 (aI t.Unit 0) 32==101)=true→0≤(1:Int)∧(1:Int)≤ln t.Unit)<|
  Option.bind (cond (cD .or .u8 (aI t.Unit 0) 32==101) (xo (sub t.Unit 1 (ln t.Unit))) (some default)) λMQ=>
  lt (cond (cD .or .u8 (aI t.Unit 0) 32==101) MQ false) λvq=>
  aB (vq=true→0≤(1:Int)∧(1:Int)≤ln t.Unit)<|
  Option.bind (cond vq (strings_HasPrefix (sub t.Unit 1 (ln t.Unit)) [45,45]) (some default)) λMR=>
  cond (cond vq (!MR) false) (
  Option.bind (xz 30000 b (aI t.Unit 0)) λER=>
  aB (0≤(1:Int)∧(1:Int)≤ln t.Unit)<|
  Option.bind (qO 30000 ER (sub t.Unit 1 (ln t.Unit)) 0) λxB=>
  some ((.inl xB):Sum (List Int) Unit)) (
  Option.bind (sa t.Unit) λIH=>
  Option.bind (qO 30000 b t.Unit IH) λxC=>
  some (.inl xC)))=some (.inl (b++ax (bX t.Unit))):=by
  generalize t.Unit=u at hu hn;cases u with
  |nil=>exact absurd rfl hn
  |cons c r=>
    have hr:r.length≤10000:=by rw[aZ]at hu;omega
    have hl:(1:Int)≤ln (c::r):=by unfold ln;rw[aZ];omega
    have e1:sub (c::r) 1 (ln (c::r))=r:=by
      unfold sub;show List.take _ r=r;rw[List.take_of_length_le];unfold ln;rw[Int.toNat_natCast,aZ];show r.length≤r.length+1-1;omega
    have e2:aI (c::r) 0=(c.toNat:Int):=rfl;rw[e1,e2,afc,aL ⟨by omega,by omega⟩,aL (λ_=>⟨by omega,hl⟩),a1a];have h4:=CE c;unfold bX xZ;dsimp only;cases hE:cc c with
    |false=>
      rw[ae,ai,ae,lt_eq,aL (λ_=>⟨by omega,hl⟩),ae,ai,ae,ae,Ab,ai,xV _ _ (by omega) _ (by omega)];rfl
    |true=>
      rw[af,ai,af,lt_eq,aL (λ_=>⟨by omega,hl⟩),a18];cases ub r with
      |false=>
        rw[ae,ai,ae,ae,Ab,ai,xV _ _ (by omega) _ (by omega)];rfl
      |true=>
        rw[af,ai,af];cases Aa r with
        |true=>
          rw[dK,ae,Ab,ai,xV _ _ (by omega) _ (by omega)];rfl
        |false=>
          rw[j8,af,NJ b c (by omega),ai,aL ⟨by omega,hl⟩,xV _ _ (by omega) _ (by rw[je,kP];omega),ai];rw[c7,←jn];rfl
theorem a1b(s:J):(ms s).length≤4*s.length:=NK _ _ _
theorem a1c(s:J):(gX s).length≤4*s.length:=NK _ _ _
theorem afd:((List.range 25).all λn=>Nat.blt n 13||decide (0≤bj ((n:Int)-13))&&(decide (bj ((n:Int)-13)<12)&&(gi [[32],[60,33,45,45],[45,45,62],[58],[59],[44],[91],[93],[40],[41],[123],[125]] (bj ((n:Int)-13))==nX n&&Nat.ble (nX n).length 4)))=true:=by kernel_rfl
theorem a1d(b:List Int)(t:aq)(h:CI t)(hb:ln b≤1000000):EO 30000 b t=some (b++ax (fv t)):=by
  have hT:=h.tl;have hL1:=a1b t.az;have hL2:=a1c t.az;unfold EO fv;cases e1:t.ah==1 with
  |true=>
    rw[af,af,Ab,ai,xV _ _ (by omega) _ (by omega)];rfl
  |false=>
  rw[ae,ae];cases e2:t.ah==2 with
  |true=>
    rw[af,af,Ab,ai,xV _ _ (by omega) _ (by omega),ai];have hl:=CJ (bP t.az) t.az;rw[aL (by rw[je,kP];show _+1≤_;omega),jn,←c7];rfl
  |false=>
  rw[ae,ae];cases e3:t.ah==3 with
  |true=>
    rw[af,af,aL (by show _+1≤_;omega),lt_eq,Ab,ai,xV _ _ (by omega) _ (by rw[je];show _+1≤_;omega),ai,c7];rfl
  |false=>
  rw[ae,ae];cases e4:t.ah==4 with
  |true=>
    rw[af,af];have e:(cond t.bS (Option.bind (sa t.az) λIF=>some IF) (some 0))=some (cond t.bS (bP t.az) 0):=by
      rw[Ab];cases t.bS<;>rfl
    rw[e,ai,aL (by show _+1≤_;omega),lt_eq,xV _ _ (by omega) _ (by rw[je];show _+1≤_;omega),ai,c7];rfl
  |false=>
  rw[ae,ae];cases e5:t.ah==5 with
  |true=>
    have hx:=aeM t (by omega) 30000 0 (b++[34]) (by omega) (by omega) (by rw[je];show _+1+_≤_;omega);rw[af,af,aL (by show _+1≤_;omega),lt_eq,show EM 30000 t 30000 (b++[34]) 0=_ from hx,ai];have hl:ln (ax (ms t.az))≤40000:=by rw[kP];omega
    rw[aL (by rw[je,je];show _+1+ln (ax (ms t.az))+1≤_;omega),lt_eq,ai];show some (b++[34]++ax (ms t.az)++[34])=_;rw[c7,c7];show some (b++([34]++(ax (ms t.az)++ax [34])))=_;rw[←jn];rfl
  |false=>
  rw[ae,ae];cases e7:t.ah==7 with
  |true=>
    have hx:=aeN t (by omega) 30000 0 (b++ax [117,114,108,40]) (by omega) (by omega) (by rw[je];show _+4+_≤_;omega);rw[af,af,aL (by show _+4≤_;omega),lt_eq,show EN 30000 t 30000 (b++ax [117,114,108,40]) 0=_ from hx,ai];have hl:ln (ax (gX t.az))≤40000:=by rw[kP];omega
    rw[aL (by rw[je,je];show _+4+ln (ax (gX t.az))+1≤_;omega),lt_eq,ai];show some (b++ax [117,114,108,40]++ax (gX t.az)++ax [41])=_;rw[c7,c7,←jn,←jn]
  |false=>
  rw[ae,ae];cases e9:t.ah==9 with
  |true=>
    rw[af,af,aL (by unfold ln at*;omega)];rfl
  |false=>
  rw[ae,ae];cases vm:t.ah==10 with
  |true=>
    rw[af,af,U1 _ _ _ h.n1 h.n2 (by omega)];rfl
  |false=>
  rw[ae,ae];cases vn:t.ah==11 with
  |true=>
    have hl:=CK t.bu false h.n1 h.n2;rw[af,af,U1 _ _ _ h.n1 h.n2 (by omega),ai,aL (by rw[je,kP];show _+1≤_;omega),jn,←c7];rfl
  |false=>
  rw[ae,ae];cases NO:t.ah==12 with
  |true=>
    have hl:=CK t.bu (!t.bS) h.n1 h.n2;rw[af,af,U1 _ _ _ h.n1 h.n2 (by omega),ai,unit_eq _ t (by rw[je,kP];omega) h.ul (h.un (eq_of_beq NO)),jn,←c7];rfl
  |false=>
    have k1:=h.k1;have k2:=h.k2;have k6:=h.k6;have k8:=h.k8;have n1:=of_decide_eq_false (p:=t.ah=1) e1;have n2:=of_decide_eq_false (p:=t.ah=2) e2;have n3:=of_decide_eq_false (p:=t.ah=3) e3;have n4:=of_decide_eq_false (p:=t.ah=4) e4;have n5:=of_decide_eq_false (p:=t.ah=5) e5;have n7:=of_decide_eq_false (p:=t.ah=7) e7;have n9:=of_decide_eq_false (p:=t.ah=9) e9;have n10:=of_decide_eq_false (p:=t.ah=10) vm;have n11:=of_decide_eq_false (p:=t.ah=11) vn;have n12:=of_decide_eq_false (p:=t.ah=12) NO;obtain⟨n,hn⟩:∃n:Nat,t.ah=n:=⟨t.ah.toNat,by omega⟩;rw[hn]at k1 k2 k6 k8 n1 n2 n3 n4 n5 n7 n9 n10 n11 n12⊢;have hm:=lj (p:=λn=>Nat.blt n 13||decide (0≤bj ((n:Int)-13))&&(decide (bj ((n:Int)-13)<12)&&(gi [[32],[60,33,45,45],[45,45,62],[58],[59],[44],[91],[93],[40],[41],[123],[125]] (bj ((n:Int)-13))==nX n&&Nat.ble (nX n).length 4))) afd (n:=n) (by omega);rw[show Nat.blt n 13=false from by rw[Bool.eq_false_iff];intro hb;have:=Nat.le_of_ble_eq_true hb;omega,gr,Bool.and_eq_true,Bool.and_eq_true,Bool.and_eq_true,decide_eq_true_eq,decide_eq_true_eq,beq_iff_eq]at hm;obtain⟨m1,m2,m3,m4⟩:=hm;have A5:=Nat.le_of_ble_eq_true m4;rw[ae,ae,ai,mU,lt_eq,aL ⟨m1,m2⟩,lt_eq];show(aB (ln b+ln (gi [[32],[60,33,45,45],[45,45,62],[58],[59],[44],[91],[93],[40],[41],[123],[125]] (bj ((n:Int)-13)))≤_) _)=_;rw[m3,aL (by unfold ln at*;omega),lt_eq];show some (b++ax (gi [[32],[60,33,45,45],[45,45,62],[58],[59],[44],[91],[93],[40],[41],[123],[125]] (bj ((n:Int)-13))))=_;rw[m3]
structure U2(sg D1 F D2:J)(u:Nat):Prop where
  hs:sg=[]∨sg=[45]
  h1:D1≠[]
  dL:∀b∈D1,aK b=true
  dw:∀b∈D2,aK b=true
  hF:(F=[]∧D2=[])∨(F=46::D2∧D2≠[])
  h3:D2.length≤3
  hv:eX D1 0=u/1000
  hf:eX D2 0*10^(3-D2.length)=u%1000
  hl:(sg++(D1++F)).length≤2000
theorem JI(n:Int)(pt:Bool)(h1:-1000000000000≤n)(h2:n≤1000000000000):∃D2,U2 (fU n) (Lib.decDigits (n.natAbs/1000)) (ez (n.natAbs%1000) pt) D2 n.natAbs:=by
  have hs:fU n=[]∨fU n=[45]:=by unfold fU;cases decide (n<0);exact Or.inl rfl;exact Or.inr rfl
  have dL:=TZ (n.natAbs/1000+1) (n.natAbs/1000) (by omega);have hv:=a13 (n.natAbs/1000+1) (n.natAbs/1000) (by omega);have hl:=CK n pt h1 h2;have ma:(fU n++(Lib.decDigits (n.natAbs/1000)++ez (n.natAbs%1000) pt)).length≤2000:=by
    have e:(fU n++(Lib.decDigits (n.natAbs/1000)++ez (n.natAbs%1000) pt))=fV n pt:=rfl;rw[e];omega
  by_cases h0:n.natAbs%1000=0
  · cases pt with
    |false=>
      refine⟨[],hs,JG _,dL,(λ_ h=>by cases h),Or.inl ⟨?_,rfl⟩,by decide,hv,?_,ma⟩
      · rw[h0];rfl
      · rw[h0];rfl
    |true=>
      refine⟨[48],hs,JG _,dL,?_,Or.inr ⟨?_,by simp⟩,by decide,hv,?_,ma⟩
      · intro b hb;rw[List.mem_singleton.1 hb];rfl
      · rw[h0];rfl
      · rw[h0];rfl
  · obtain⟨f1,f2,f3,f4⟩:=aeV h0 (Nat.mod_lt n.natAbs (by decide));refine⟨mW (n.natAbs%1000),hs,JG _,dL,f2,Or.inr ⟨?_,f1⟩,f3,hv,f4,ma⟩;unfold ez;rw[ua h0];rfl
theorem U3(n:Int):cond (fU n).isEmpty (n.natAbs:Int) (-(n.natAbs:Int))=n:=by
  unfold fU;by_cases h:n<0
  · rw[bC h];show-((n.natAbs:Nat):Int)=n;omega
  · rw[bV h];show((n.natAbs:Nat):Int)=n;omega
theorem afe(n:Int)(h1:-1000000000000≤n)(h2:n≤1000000000000):∃w,J1 30000 (fV n false)=some (n,w,0):=by
  obtain⟨D2,hN⟩:=JI n false h1 h2;have ht:=NM _ _ _ _ hN.hs hN.h1 hN.dL hN.dw hN.hF;have hw:=aeP _ _ _ _ hN.hs hN.h1 hN.dL hN.dw hN.hF hN.h3 n.natAbs (by omega) hN.hv hN.hf hN.hl;have hl:=hN.hl;rw[U3]at hw;have e:fV n false=fU n++(Lib.decDigits (n.natAbs/1000)++ez (n.natAbs%1000) false):=rfl;rw[e];unfold J1;generalize fU n++(Lib.decDigits (n.natAbs/1000)++ez (n.natAbs%1000) false)=s at*;rw[bV (by unfold ln;omega),ae,adC s (by omega),ai,ht.num,dK,ae,adD 30000 s (by omega) (by omega),ai,ht.fin,hw,bV (by unfold ln;omega),ae,ai];exact⟨_,rfl⟩
theorem aff(n:Int)(h1:-1000000000000≤n)(h2:n≤1000000000000):s7 ⟨11,[],n,[],false⟩=some true:=by
  have e:s7 ⟨11,[],n,[],false⟩=some (cond (cond (decide (-1000000000000≤n)) (decide (n≤1000000000000)) false) true false):=by
    unfold s7;cases decide (-1000000000000≤n)<;>cases decide (n≤1000000000000)<;>rfl
  rw[e,bC h1,bC h2];rfl
theorem afg(n:Int)(h1:-1000000000000≤n)(h2:n≤1000000000000):J2 30000 ⟨11,[],n,[],false⟩=some (fV n false++[37],0):=by
  have hB:CI ⟨11,[],n,[],false⟩:=⟨dE _,dE _,h1,h2,(by decide:(1:Int)≤11),(by decide:(11:Int)≤24),(by decide:(11:Int)≠6),(by decide:(11:Int)≠8),λh=>absurd h (by decide:¬((11:Int)=12))⟩;unfold J2;rw[aff n h1 h2,ai,dK,ae,a1d [] _ hB (by decide),ai,List.nil_append,ll];rfl
theorem afh(l:List aq)(hl:l.length≤5000)(hb:∀t∈l,-1000000000000≤t.bu∧t.bu≤1000000000000):∀(kk i:Nat),l.length-i<kk→i≤l.length→Fa 30000 l kk (i:Int)=some (.inr ()):=by
  intro kk
  induction kk with
  |zero=>intro i h;omega
  |succ kk ih=>
    intro i hk hi;rw[Fa];by_cases aM:i<l.length
    · rw[dM aM,af,dN aM,iq l i aM];obtain⟨n1,n2⟩:=hb l[i] (List.getElem_mem aM);obtain⟨w,hv⟩:=afe l[i].bu n1 n2;have hlen:=CK l[i].bu false n1 n2;rw[lt_eq,af9 _ n1 n2,ai];unfold N7;dsimp only;rw[hv,ai,ai,afg _ n1 n2,ai];dsimp only;rw[show((0:Int) !=0)=false from rfl,ae,ae,lt_eq,ae,show(l[i].bu !=l[i].bu)=false from by simp,lt_eq,aL (λ_=>by unfold ln;rw[aZ];simp only[bW];omega),ae,lt_eq,beq_self_eq_true,dK,ae];generalize(cond (cond (l[i].ah !=10) (l[i].ah !=11) false) (l[i].ah !=12) false)=c;have:=ih (i+1) (by omega) aM;rw[br (by omega)];cases c<;>exact this
    · rw[eS (by omega),ae]
theorem afi(l:List aq)(hl:l.length≤5000)(hb:∀t∈l,-1000000000000≤t.bu∧t.bu≤1000000000000):J3 30000 l=some true:=by
  unfold J3;rw[show Fa 30000 l 30000 0=_ from afh l hl hb 30000 0 (by omega) (by omega)];rfl
def t1(p:UInt8→Bool):J→Bool
  |[]=>false
  |b::_=>p b
theorem eF(p:UInt8→Bool)(s:J)(i:Nat):aD p s i=t1 p (s.drop i):=by
  rw[xW];cases s.drop i<;>rfl
theorem ya(p:UInt8→Bool)(s:J)(i k:Nat):aD p s (i+k)=t1 p ((s.drop i).drop k):=by
  rw[eF,List.drop_drop]
def gv(r:J):Bool:=cond (t1 (ag 92) r) (!(t1 (ag 10) (r.drop 1))) false
def du(r:J):Bool:=cond (t1 (ag 45) r) (cond (cond (t1 cB (r.drop 1)) true (t1 (ag 45) (r.drop 1))) true (gv (r.drop 1))) (cond (t1 cB r) true (gv r))
def vZ(r:J):J:=cond (t1 bp r) (r.drop 1) r
def ji(r:J):Bool:=t1 aK (cond (t1 (ag 46) (vZ r)) ((vZ r).drop 1) (vZ r))
def kA:J→Bool
  |45::45::62::_=>true
  |_=>false
def lS:J→Bool
  |60::33::45::45::_=>true
  |_=>false
theorem CL(s:J)(i:Nat):mr s i=gv (s.drop i):=by
  unfold mr gv;rw[eF,ya]
theorem NP(s:J)(i:Nat):pL s i=du (s.drop i):=by
  unfold pL du;rw[eF,ya,ya,CL,CL,eF,List.drop_drop]
theorem a1e(s:J)(i:Nat):jw s i=ji (s.drop i):=by
  unfold jw ji vZ bK;dsimp only;rw[eF bp];cases t1 bp (s.drop i)with
  |true=>
    rw[af,af,ya];cases t1 (ag 46) ((s.drop i).drop 1)with
    |true=>rw[af,af,eF,←List.drop_drop,←List.drop_drop]
    |false=>rw[ae,ae,eF,←List.drop_drop]
  |false=>
    rw[ae,ae,eF (ag 46)];cases t1 (ag 46) (s.drop i)with
    |true=>rw[af,af,eF,←List.drop_drop]
    |false=>rw[ae,ae,eF]
theorem a1f(s:J)(i:Nat)(p:J)(hs:s.length<100000)(hi:i≤s.length)(hp:p.length<100):zW s (i:Int) p=some (cond (decide (p.length≤(s.drop i).length)) ((s.drop i).take p.length==p) false):=by
  have hw:aa (ln s-(i:Int))=((s.length-i:Nat):Int):=by unfold ln;rw[cT (by omega) (by omega)];omega
  have wG:ln p=(p.length:Int):=rfl;unfold zW;rw[hw,wG,show aa ((i:Int)+(p.length:Int))=((i+p.length:Nat):Int)from r7 (by omega),List.length_drop];by_cases h:p.length≤s.length-i
  · rw[bC (by omega),aL (λ_=>⟨by omega,by omega,by unfold ln;omega⟩),lt_eq,af,bC h,af];unfold sub;rw[Int.toNat_natCast,Int.toNat_natCast,Nat.add_sub_cancel_left]
  · rw[bV (by omega),aL (λh=>by cases h),lt_eq,ae,bV h,ae]
theorem a1g(r:J):(cond (decide (([45,45,62]:J).length≤r.length)) (r.take ([45,45,62]:J).length==[45,45,62]) false)=kA r:=by
  match r with
  |[]=>rfl
  |[a]=>show false=_;unfold kA;split<;>simp_all
  |[a,b]=>show false=_;unfold kA;split<;>simp_all
  |a::b::c::q=>
    rw[bC (by simp),af];show([a,b,c]==[45,45,62])=_;unfold kA;split
    · rename_i h;simp at h;simp[h]
    · rename_i h;rw[bE];intro e;simp at e;obtain⟨rfl,rfl,rfl⟩:=e;exact h q rfl
theorem a1h(r:J):(cond (decide (([60,33,45,45]:J).length≤r.length)) (r.take ([60,33,45,45]:J).length==[60,33,45,45]) false)=lS r:=by
  match r with
  |[]=>rfl
  |[a]=>show false=_;unfold lS;split<;>simp_all
  |[a,b]=>show false=_;unfold lS;split<;>simp_all
  |[a,b,c]=>show false=_;unfold lS;split<;>simp_all
  |a::b::c::d::q=>
    rw[bC (by simp),af];show([a,b,c,d]==[60,33,45,45])=_;unfold lS;split
    · rename_i h;simp at h;simp[h]
    · rename_i h;rw[bE];intro e;simp at e;obtain⟨rfl,rfl,rfl,rfl⟩:=e;exact h q rfl
def eG(b:UInt8):Bool:=ag 34 b||ag 39 b
def jY(b:UInt8):Bool:=ia (b.toNat:Int) !=0
def oR(r:J):Bool:=cond (t1 (ag 35) r) (cond (t1 dc (r.drop 1)) true (gv (r.drop 1))) false
def r9(r:J):Bool:=cond (t1 (ag 64) r) (du (r.drop 1)) false
def dU(r:J):Nat:=
  cond (t1 bw r) 0 (cond (t1 eG r) 1 (cond (oR r) 2 (cond (ji r) 3 (cond (kA r) 4 (cond (lS r) 5 (cond (r9 r) 6 (cond (du r) 7 (cond (t1 jY r) 8 9))))))))
def CM(s:J)(i:Nat)(b:UInt8):Nat→Option (aq×Int)
  |0=>Option.bind (jT 30000 s (i:Int)) λpy=>some (aq.mk 13 [] 0 [] false,py)
  |1=>zO 30000 s (i:Int)
  |2=>Option.bind (jU 30000 s ((i+1:Nat):Int)) λeD=>some (aq.mk 4 eD.1 0 [] (du (s.drop (i+1))),eD.2)
  |3=>mo 30000 s (i:Int)
  |4=>some (aq.mk 15 [] 0 [] false,((i+3:Nat):Int))
  |5=>some (aq.mk 14 [] 0 [] false,((i+4:Nat):Int))
  |6=>Option.bind (jU 30000 s ((i+1:Nat):Int)) λsy=>some (aq.mk 3 sy.1 0 [] false,sy.2)
  |7=>pK 30000 s (i:Int)
  |8=>some (aq.mk (ia (b.toNat:Int)) [] 0 [] false,((i+1:Nat):Int))
  |_=>some (aq.mk 9 [b] 0 [] false,((i+1:Nat):Int))
theorem U4{α:Type}(X:Option (aq×α)):(Option.bind X λy=>some (y.1,y.2))=X:=by cases X<;>rfl
theorem mX(s:J)(hs:s.length≤5000)(i:Nat)(b:UInt8)(r:J)(hd:s.drop i=b::r):fh 30000 s (i:Int)=CM s i b (dU (b::r)):=by
  have hi:=gj hd;have hb:aI s (i:Int)=(b.toNat:Int):=get_at hd;have jh:=jg hd;have iN:=b.toNat_lt;have TU:(cond (decide (aa ((i:Int)+1)<ln s)) (mR (aI s (aa ((i:Int)+1)))) false)=t1 dc r:=by
    rw[br (by omega),←jh,←eF];by_cases h:i+1<s.length
    · rw[dM h,af,jV s (i+1) 0 h,FC]
    · rw[eS (by omega),ae,Jy _ (by omega)]
  have iK:oI (b.toNat:Int)=bw b:=by rw[←hb,jV s i 0 hi,nV,eF,hd];rfl
  have hq:cond ((b.toNat:Int)==34) true ((b.toNat:Int)==39)=eG b:=by
    unfold eG ag;rw[Bool.eq_iff_iff];cases h:((b.toNat:Int)==34)<;>simp at h⊢<;>omega
  have U5:((b.toNat:Int)==35)=ag 35 b:=by unfold ag;rw[Bool.eq_iff_iff];simp;omega
  have FM:((b.toNat:Int)==64)=ag 64 b:=by unfold ag;rw[Bool.eq_iff_iff];simp;omega
  unfold fh dU;rw[dN hi,hb,iK];show _=CM s i b (cond (bw b) 0 (cond (eG b) 1 _));cases bw b with
  |true=>rfl
  |false=>
  rw[ae,ae,lt_eq (cond ((b.toNat:Int)==34) true ((b.toNat:Int)==39)),hq];cases eG b with
  |true=>rw[af,af,U4];rfl
  |false=>
  rw[ae,ae,TU,aL (λh _=>⟨by rw[br (by omega)];omega,gS h⟩),br (by omega),tX s (i+1) (by omega),CL,jh,U5,a0T];show cond (cond (ag 35 b) (cond (t1 dc r) true (gv r)) false) _ _=CM s i b (cond (cond (ag 35 b) (cond (t1 dc r) true (gv r)) false) 2 _);cases cond (ag 35 b) (cond (t1 dc r) true (gv r)) false with
  |true=>
    rw[af,af,A2 s (i+1) (by omega),NP];show _=Option.bind (jU 30000 s ((i+1:Nat):Int)) _;cases jU 30000 s ((i+1:Nat):Int)<;>rfl
  |false=>
  rw[ae,ae,a0H s (by omega) i (by omega),ai,a1e,hd];cases ji (b::r)with
  |true=>rw[af,af,U4];rfl
  |false=>
  rw[ae,ae,a1f s i _ (by omega) (by omega) (by simp),hd,a1g,ai];cases kA (b::r)with
  |true=>rw[af,af,show aa ((i:Int)+3)=((i+3:Nat):Int)from r7 (n:=3) (by omega)];rfl
  |false=>
  rw[ae,ae,a1f s i _ (by omega) (by omega) (by simp),hd,a1h,ai];cases lS (b::r)with
  |true=>rw[af,af,show aa ((i:Int)+4)=((i+4:Nat):Int)from r7 (n:=4) (by omega)];rfl
  |false=>
  rw[ae,ae,A2 s (i+1) (by omega),NP,jh,FM,TT];show cond (cond (ag 64 b) (du r) false) _ _=CM s i b (cond (cond (ag 64 b) (du r) false) 6 _);cases cond (ag 64 b) (du r) false with
  |true=>rw[af,af];rfl
  |false=>
  rw[ae,ae,A2 s i (by omega),NP,hd,ai];cases du (b::r)with
  |true=>rw[af,af,U4];rfl
  |false=>
  rw[ae,ae];show cond (jY b) _ _=CM s i b (cond (jY b) 8 9);cases jY b with
  |true=>rfl
  |false=>
    have hg:s[i]=b:=by
      have e:=gp hi;rw[hd]at e;exact(List.cons.inj e).1.symm
    rw[ae,ae,aL ⟨by omega,by omega,by unfold ln;omega⟩,tY hi,hg];rfl
theorem JJ{s:J}{i:Nat}{b:UInt8}{r:J}(h:s.drop i=b::r):fj s i=jJ (b.toNat:Int):=by
  have hi:=gj h;have hg:s[i]=b:=by
    have e:=gp hi;rw[h]at e;exact(List.cons.inj e).1.symm
  unfold fj;rw[A4 hi,hg]
theorem afj:((List.range 256).all λn=>!(xU (UInt8.ofNat n))||(decide (jJ (n:Int)<0)&&!(n==10)))=true:=by kernel_rfl
theorem afk{c:UInt8}(h:xU c=true):jJ (c.toNat:Int)<0∧ag 10 c=false:=by
  have h1:=iw (p:=λn=>!(xU (UInt8.ofNat n))||(decide (jJ (n:Int)<0)&&!(n==10))) afj c;rw[UInt8.ofNat_toNat,h,dK,gr,Bool.and_eq_true,decide_eq_true_eq,Bool.not_eq_true']at h1;exact h1
theorem afl:((List.range 16).all λn=>jJ ((hx n).toNat:Int)==(n:Int))=true:=by kernel_rfl
theorem U6{n:Nat}(h:n<16):jJ ((hx n).toNat:Int)=(n:Int):=eq_of_beq (lj (p:=λn=>jJ ((hx n).toNat:Int)==(n:Int)) afl h)
theorem afm:((List.range 128).all λn=>(n==0)||tP (n:Int)==[UInt8.ofNat n])=true:=by kernel_rfl
theorem a1i{c:UInt8}(h0:0<c.toNat)(h:c.toNat<128):tP (c.toNat:Int)=[c]:=by
  have h1:=lj (p:=λn=>(n==0)||tP (n:Int)==[UInt8.ofNat n]) afm h;rw[show(c.toNat==0)=false from bE.2 (by omega),gr,beq_iff_eq,UInt8.ofNat_toNat]at h1;exact h1
theorem a1j(s:J)(hs:s.length<100000)(i:Nat)(n a:Nat)(hi:i+1<s.length)(h2:¬fj s (i+1)<0)(hr:oO s 6 0 (i+1)=(n,a)):
    sw 30000 s (i:Int)=some (tP (n:Int),((cond (aD bw s a) (a+1) a:Nat):Int)):=by
  have FF:(0+1)*16^6≤16777216:=by decide
  have l2:=a0r 30000 s i hs 6 30000 0 (i+1) (by decide) (by omega) (by omega) (by omega) FF;have bQ:=Tw s 6 0 (i+1) (by omega) FF;rw[hr]at l2 bQ;unfold sw;rw[br (by omega),show decide (ln s≤((i+1:Nat):Int))=false from bV (by unfold ln;omega),ae,dN hi,lt_eq,Nt hi,bV h2,ae];rw[show Ci 30000 s (i:Int) 30000 0 ((i+1:Nat):Int)=_ from l2,ai];dsimp only at bQ⊢;rw[eE,ai,nV,br (by omega)];cases aD bw s a<;>rfl
theorem U7(s:J)(hs:s.length<100000)(i:Nat)(c:UInt8)(r:J)(h0:0<c.toNat)(h1:c.toNat<128)(hd:s.drop i=fc c++r):
    gv (s.drop i)=true∧sw 30000 s (i:Int)=some ([c],((i+(fc c).length:Nat):Int)):=by
  unfold fc at hd⊢;cases hp:xU c with
  |true=>
    rw[hp,af]at hd;obtain⟨p1,p2⟩:=afk hp;have dL:s.drop (i+1)=c::r:=jg hd;have Cz:=gj dL;have hg:s[i+1]=c:=by
      have e:=gp Cz;rw[dL]at e;exact(List.cons.inj e).1.symm
    constructor
    · rw[hd];show cond true (!(ag 10 c)) false=true;rw[p2];rfl
    · unfold sw;rw[br (by omega),show decide (ln s≤((i+1:Nat):Int))=false from bV (by unfold ln;omega),ae,dN Cz,lt_eq,Nt Cz,JJ dL,bC p1,af,br (by omega),aL ⟨by omega,by omega,by unfold ln;omega⟩,lt_eq,tY Cz,hg];rfl
  |false=>
    rw[hp,ae]at hd;rw[ae];have dL:s.drop (i+1)=mV c++(32::r):=by
      have:=jg hd;rw[this];show(mV c++[32])++r=_;rw[c7];rfl
    have sp:∀{a:Nat},s.drop a=32::r→aD bw s a=true∧fj s a<0:=by
      intro a h;rw[aeO h,JJ h];exact⟨by kernel_rfl,by decide⟩
    unfold mV at dL⊢;cases hb:Nat.blt c.toNat 16 with
    |true=>
      rw[hb,af]at dL;have aM:=Nat.le_of_ble_eq_true hb;have CN:fj s (i+1)=(c.toNat:Int):=by rw[JJ dL,U6 (by omega)]
      have dw:s.drop (i+2)=32::r:=jg dL;obtain⟨s1,s2⟩:=sp dw;have hR:oO s 6 0 (i+1)=(c.toNat,i+2):=by
        show(if fj s (i+1)<0 then _ else(if fj s (i+1+1)<0 then _ else _))=_;rw[if_neg (by omega),if_pos s2,CN,Int.toNat_natCast];simp
      constructor
      · rw[hd];show cond true (!(t1 (ag 10) (mV c++[32]++r))) false=true;unfold mV;rw[hb];show(!(ag 10 (hx c.toNat)))=true;rcases Nat.lt_or_ge c.toNat 10 with h|h
        · unfold hx ag;rw[if_pos h,UInt8.toNat_ofNat'];simp;omega
        · unfold hx ag;rw[if_neg (by omega),UInt8.toNat_ofNat'];simp;omega
      · rw[a1j s hs i _ _ (gj dL) (by omega) hR,s1,af,a1i h0 h1];rfl
    |false=>
      rw[hb,ae]at dL;have nW:16≤c.toNat:=by
        rcases Nat.lt_or_ge c.toNat 16 with h|h
        · have:Nat.blt c.toNat 16=true:=Nat.ble_eq_true_of_le h;rw[this]at hb;cases hb
        · exact h
      have CN:fj s (i+1)=((c.toNat/16:Nat):Int):=by rw[JJ dL,U6 (by omega)]
      have dw:s.drop (i+2)=hx (c.toNat%16)::(32::r):=jg dL;have ol:fj s (i+2)=((c.toNat%16:Nat):Int):=by rw[JJ dw,U6 (Nat.mod_lt _ (by decide))]
      have FN:s.drop (i+3)=32::r:=jg dw;obtain⟨s1,s2⟩:=sp FN;have hR:oO s 6 0 (i+1)=(c.toNat,i+3):=by
        show(if fj s (i+1)<0 then _ else(if fj s (i+1+1)<0 then _ else(if fj s (i+1+1+1)<0 then _ else _)))=_;rw[if_neg (by omega),if_neg (by show¬fj s (i+2)<0;omega),if_pos s2,CN,show fj s (i+1+1)=_ from ol,Int.toNat_natCast,Int.toNat_natCast];congr 1;omega
      constructor
      · rw[hd];show cond true (!(t1 (ag 10) (mV c++[32]++r))) false=true;unfold mV;rw[hb];show(!(ag 10 (hx (c.toNat/16))))=true;rcases Nat.lt_or_ge (c.toNat/16) 10 with h|h
        · unfold hx ag;rw[if_pos h,UInt8.toNat_ofNat'];simp;omega
        · unfold hx ag;rw[if_neg (by omega),UInt8.toNat_ofNat'];simp;omega
      · rw[a1j s hs i _ _ (gj dL) (by omega) hR,s1,af,a1i h0 h1];rfl
theorem JK{s:J}{i:Nat}{a r:J}(h:s.drop i=a++r):s.drop (i+a.length)=r:=mu h
theorem afn:dc 92=false:=by kernel_rfl
theorem JL(c:UInt8):∃q,fc c=92::q:=by
  unfold fc;cases xU c with
  |true=>exact⟨_,rfl⟩
  |false=>exact⟨_,rfl⟩
def pQ(f:Nat→UInt8→Bool)(p:UInt8→Bool):Nat→J→Prop
  |_,[]=>True
  |k,c::l=>(f k c=true→p c=true)∧(f k c=false→0<c.toNat∧c.toNat<128)∧pQ f p (k+1) l
theorem U8(f:Nat→UInt8→Bool)(s:J)(hs:s.length≤50000):∀(l:J)(k i kk:Nat)(v r:J),pQ f dc k l→s.drop i=bR f k l++r→v.length+l.length≤60000→l.length<kk→
    pJ 30000 s kk (i:Int) v=pJ 30000 s (kk-l.length) ((i+(bR f k l).length:Nat):Int) (v++l)
  |[],k,i,kk,v,r,h,hd,hv,hk=>by
    rw[List.append_nil];rfl
  |c::l,k,i,kk,v,r,h,hd,hv,hk=>by
    obtain⟨h1,h2,h3⟩:=h;rw[aZ]at hv hk;obtain⟨kk,rfl⟩:∃q,kk=q+1:=⟨kk-1,by omega⟩;rw[bR,c7]at hd;have hl:0<(cond (f k c) [c] (fc c)).length:=by
      cases f k c with
      |true=>simp
      |false=>obtain⟨q,e⟩:=JL c;rw[ae,e];simp
    have hi:i<s.length:=by
      rcases Nat.lt_or_ge i s.length with h|h
      · exact h
      · rw[fF h]at hd;have:=congrArg List.length hd;rw[bB]at this;simp at this;omega
    have iP:=JK hd;rw[pJ,show kk+1-(c::l).length=kk-l.length from by rw[aZ];omega,bR,bB,←Nat.add_assoc];rw[dM hi,aL (λ_=>⟨by omega,by unfold ln;omega⟩),af,lt_eq,jV s i 0 hi,FC,eF,hd];cases hf:f k c with
    |true=>
      rw[hf]at iP hd;have ht:t1 dc (cond true [c] (fc c)++(bR f (k+1) l++r))=true:=h1 hf;have hg:s[i]=c:=by
        have e:=gp hi;rw[hd]at e;exact(List.cons.inj e).1.symm
      rw[ht,af,br (by omega),tY hi,aL ⟨by omega,by omega,by unfold ln;omega⟩,aL (by unfold ln;simp only[aZ,bW];omega),hg];have hn:=U8 f s hs l (k+1) (i+1) kk (v++[c]) r h3 iP (by rw[bB,aZ,bW];omega) (by omega);rw[hn,c7];rfl
    |false=>
      rw[hf]at iP hd;have ht:t1 dc (cond false [c] (fc c)++(bR f (k+1) l++r))=false:=by
        obtain⟨q,e⟩:=JL c;rw[ae,e];exact afn
      obtain⟨b1,b2⟩:=U7 s (by omega) i c (bR f (k+1) l++r) (h2 hf).1 (h2 hf).2 hd;have h4:=CE c;rw[ht,ae,af,tX s i (by omega),CL,b1,ai,af,b2,ai,aL (by unfold ln;simp only[aZ,bW];omega)];have hn:=U8 f s hs l (k+1) (i+(fc c).length) kk (v++[c]) r h3 iP (by rw[bB,aZ,bW];omega) (by omega);show pJ 30000 s kk ((i+(fc c).length:Nat):Int) (v++[c])=_;rw[hn,c7];rfl
def eW(r:J):Bool:=!(t1 dc r)&&!(gv r)
theorem a1k(s:J)(hs:s.length≤50000)(kk i:Nat)(v:J)(hi:i≤s.length)(h:eW (s.drop i)=true):pJ 30000 s (kk+1) (i:Int) v=some (v,(i:Int)):=by
  unfold eW at h;rw[Bool.and_eq_true,Bool.not_eq_true',Bool.not_eq_true']at h;rw[pJ];by_cases aM:i<s.length
  · rw[dM aM,aL (λ_=>⟨by omega,by unfold ln;omega⟩),af,lt_eq,jV s i 0 aM,FC,eF,h.1,ae,af,tX s i (by omega),CL,h.2,ai];rfl
  · rw[eS (by omega),aL (λh=>by cases h),ae,lt_eq];rfl
theorem afo(s:J)(hs:s.length≤50000):∀(kk i:Nat)(v w:J)(j:Int),i≤s.length→pJ 30000 s kk (i:Int) v=some (w,j)→v.length≤w.length∧(eW (s.drop i)=false→v.length<w.length)∧(eW (s.drop i)=true→j=i):=by
  intro kk
  induction kk with
  |zero=>intro i v w j hi h;cases h
  |succ kk ih=>
    intro i v w j hi h;cases hn:eW (s.drop i)with
    |true=>
      rw[a1k s hs kk i v hi hn]at h;injection h with h;injection h with h1 h2;subst h1;exact⟨cF _,λh=>(by cases h),λ_=>h2.symm⟩
    |false=>
      unfold eW at hn;have aM:i<s.length:=by
        rcases Nat.lt_or_ge i s.length with h1|h1
        · exact h1
        · rw[fF h1]at hn;cases hn
      rw[pJ,dM aM,aL (λ_=>⟨by omega,by unfold ln;omega⟩),af,lt_eq,jV s i 0 aM,FC,eF]at h;cases hl:t1 dc (s.drop i)with
      |true=>
        rw[hl,af,br (by omega),aL ⟨by omega,by omega,by unfold ln;omega⟩]at h;obtain⟨_,h⟩:=bM h;obtain⟨a,_,_⟩:=ih (i+1) _ w j aM h;rw[tY aM,bB]at a;simp at a;exact⟨by omega,λ_=>by omega,λh=>by cases h⟩
      |false=>
        rw[hl,j8,E3,Bool.not_eq_false']at hn;obtain⟨E,z,_,e2,e3,e4,e5,e6⟩:=FE 30000 s i [] (by omega) (by decide) aM (by simp);rw[hl,ae,af,tX s i (by omega),CL,hn,ai,af,e2,ai]at h;obtain⟨_,h⟩:=bM h;obtain⟨a,_,_⟩:=ih z _ w j e4 h;have:0<E.length:=List.length_pos_iff.2 e6;have a:(v++E).length≤w.length:=a;rw[bB]at a;exact⟨by omega,λ_=>by omega,λh=>by cases h⟩
theorem CO(f:Nat→UInt8→Bool)(s:J)(hs:s.length≤5000)(i:Nat)(l r:J)(hl:l.length≤5000)(hi:i≤s.length)(h:pQ f dc 0 l)(hd:s.drop i=bR f 0 l++r):
    (eW r=true→jU 30000 s (i:Int)=some (l,((i+(bR f 0 l).length:Nat):Int)))∧
    (∀j,jU 30000 s (i:Int)=some (l,j)→eW r=true∧j=((i+(bR f 0 l).length:Nat):Int)):=by
  have hn:=U8 f s (by omega) l 0 i 30000 [] r h hd (by simp;omega) (by omega);have hr:=JK hd;have hle:=sD hi hd;rw[List.nil_append]at hn;unfold jU;rw[hn];constructor
  · intro h;obtain⟨q,e⟩:∃q,30000-l.length=q+1:=⟨30000-l.length-1,by omega⟩;rw[e];exact a1k s (by omega) q _ l (by omega) (by rw[hr];exact h)
  · intro j hj;obtain⟨a,b,c⟩:=afo s (by omega) _ _ l l j (by omega) hj;rw[hr]at b c;cases hx:eW r with
    |true=>exact⟨rfl,c hx⟩
    |false=>exact absurd (b hx) (Nat.lt_irrefl _)
theorem afp:((List.range 256).all λn=>!(fa (n:Int))||dc (UInt8.ofNat n))=true:=by kernel_rfl
theorem afq{c:UInt8}(h:fa (c.toNat:Int)=true):dc c=true:=by
  have h1:=iw (p:=λn=>!(fa (n:Int))||dc (UInt8.ofNat n)) afp c;rw[UInt8.ofNat_toNat,h]at h1;exact h1
theorem afr:((List.range 256).all λn=>Nat.blt n 128||(fa (n:Int)&&!(fg (n:Int))))=true:=by kernel_rfl
theorem afs{c:UInt8}(h:cond (fa (c.toNat:Int)) (!(fg (c.toNat:Int))) false=false):c.toNat<128:=by
  have h1:=iw (p:=λn=>Nat.blt n 128||(fa (n:Int)&&!(fg (n:Int)))) afr c;rcases Nat.lt_or_ge c.toNat 128 with h2|h2
  · exact h2
  · rw[show Nat.blt c.toNat 128=false from by rw[Bool.eq_false_iff];intro hb;have:=Nat.le_of_ble_eq_true hb;omega,gr,Bool.and_eq_true]at h1;rw[h1.1,h1.2]at h;cases h
theorem uc(f:Int)(s0:J):∀(l:J)(k:Nat),(∀c∈l,c∈s0∧0<c.toNat)→pQ (fM f s0) dc k l
  |[],k,h=>trivial
  |c::l,k,h=>by
    obtain⟨hm,h0⟩:=h c List.mem_cons_self;refine⟨λhr=>?_,λhr=>⟨h0,?_⟩,uc f s0 l (k+1) λd hd=>h d (List.mem_cons_of_mem _ hd)⟩
    · unfold fM at hr;cases hn:fa (c.toNat:Int)with
      |true=>exact afq hn
      |false=>rw[hn]at hr;cases hr
    · unfold fM at hr;cases hn:fa (c.toNat:Int)with
      |false=>exact afs (by rw[hn];rfl)
      |true=>
        rw[hn,af]at hr;cases hd:fg (c.toNat:Int)with
        |true=>
          unfold fg at hd;rw[lt_eq]at hd;cases NQ:decide (48≤(c.toNat:Int))with
          |false=>rw[NQ]at hd;cases hd
          |true=>rw[NQ,af,decide_eq_true_eq]at hd;omega
        |false=>
          rw[hd,j8]at hr;have hz:(cond (decide (f≤(k:Int))) true true)=true:=by cases decide (f≤(k:Int))<;>rfl
          rw[hz,af]at hr;cases hf:(f==0)with
          |true=>rw[hf]at hr;cases hr
          |false=>
            rw[hf,ae,Bool.not_eq_false']at hr;have TK:s0=[45]:=eq_of_beq hr;rw[TK,List.mem_singleton]at hm;rw[hm];decide
theorem aft:((List.range 256).all λn=>!(cB (UInt8.ofNat n))||(!(bw (UInt8.ofNat n))&&(!(eG (UInt8.ofNat n))&&(!(ag 35 (UInt8.ofNat n))&&(!(bp (UInt8.ofNat n))&&(!(ag 46 (UInt8.ofNat n))&&(!(aK (UInt8.ofNat n))&&(!(ag 60 (UInt8.ofNat n))&&(!(ag 64 (UInt8.ofNat n))&&(!(ag 45 (UInt8.ofNat n))&&(!(ag 62 (UInt8.ofNat n))&&!(ag 47 (UInt8.ofNat n)))))))))))))=true:=by kernel_rfl
structure Hd(b:UInt8):Prop where
  sp:bw b=false
  q:eG b=false
  U5:ag 35 b=false
  g:bp b=false
  fL:ag 46 b=false
  d:aK b=false
  h60:ag 60 b=false
  FM:ag 64 b=false
  u9:ag 45 b=false
  h62:ag 62 b=false
  U9:ag 47 b=false
theorem a1l{b:UInt8}(h:cB b=true):Hd b:=by
  have h1:=iw (p:=λn=>!(cB (UInt8.ofNat n))||(!(bw (UInt8.ofNat n))&&(!(eG (UInt8.ofNat n))&&(!(ag 35 (UInt8.ofNat n))&&(!(bp (UInt8.ofNat n))&&(!(ag 46 (UInt8.ofNat n))&&(!(aK (UInt8.ofNat n))&&(!(ag 60 (UInt8.ofNat n))&&(!(ag 64 (UInt8.ofNat n))&&(!(ag 45 (UInt8.ofNat n))&&(!(ag 62 (UInt8.ofNat n))&&!(ag 47 (UInt8.ofNat n))))))))))))) aft b;rw[UInt8.ofNat_toNat,h,dK,gr]at h1;simp only[Bool.and_eq_true,Bool.not_eq_true']at h1;obtain⟨a1,a2,a3,a4,a5,a6,a7,a8,a9,Ua,Ub⟩:=h1;exact⟨a1,a2,a3,a4,a5,a6,a7,a8,a9,Ua,Ub⟩
theorem a1m:Hd 92:=by
  refine⟨?_,?_,?_,?_,?_,?_,?_,?_,?_,?_,?_⟩<;>kernel_rfl
theorem afu:cB 92=false:=by kernel_rfl
theorem afv:((List.range 256).all λn=>!(fa (n:Int)&&!(fg (n:Int)))||(cB (UInt8.ofNat n)||n==45))=true:=by kernel_rfl
theorem afw{c:UInt8}(h1:fa (c.toNat:Int)=true)(h2:fg (c.toNat:Int)=false):cB c=true∨c.toNat=45:=by
  have h:=iw (p:=λn=>!(fa (n:Int)&&!(fg (n:Int)))||(cB (UInt8.ofNat n)||n==45)) afv c;rw[UInt8.ofNat_toNat,h1,h2,j8,B9,dK,gr,Bool.or_eq_true,beq_iff_eq]at h;exact h
theorem a1n{f:Int}{s0:J}{k:Nat}{c:UInt8}(hk:(k:Int)<f)(h:fM f s0 k c=true):fa (c.toNat:Int)=true∧fg (c.toNat:Int)=false∧(f≠0→s0≠[45]):=by
  unfold fM at h;rw[bV (by omega),ae]at h;cases h1:fa (c.toNat:Int)with
  |false=>rw[h1]at h;cases h
  |true=>
    rw[h1,af]at h;cases h2:fg (c.toNat:Int)with
    |true=>rw[h2]at h;cases h
    |false=>
      rw[h2,j8,af]at h;refine⟨rfl,rfl,λhf hs=>?_⟩;rw[show(f==0)=false from bE.2 hf,ae,hs]at h;cases h
theorem afx:((List.range 128).all λn=>match fc (UInt8.ofNat n)with
  |a::d::_=>(n==0)||a==92&&!(ag 10 d)
  |_=>false)=true:=by kernel_rfl
theorem CP(c:UInt8)(q:J)(c0:0<c.toNat)(c1:c.toNat<128):∃z,fc c++q=92::z∧t1 (ag 10) z=false:=by
  have h:=lj (p:=λn=>match fc (UInt8.ofNat n)with
    |a::d::_=>(n==0)||a==92&&!(ag 10 d)
    |_=>false) afx c1
  rw[UInt8.ofNat_toNat]at h
  revert h
  cases fc c with
  |nil=>intro h;cases h
  |cons a w=>
    cases w with
    |nil=>intro h;cases h
    |cons d w=>
      intro h;have h:(c.toNat==0||a==92&&!(ag 10 d))=true:=h;rw[show(c.toNat==0)=false from bE.2 (by omega),gr,Bool.and_eq_true,beq_iff_eq,Bool.not_eq_true']at h;exact⟨d::w++q,by rw[h.1];rfl,h.2⟩
def CQ(T:J):Prop:=∃b q,T=b::q∧Hd b∧(cB b=true∨(b=92∧t1 (ag 10) q=false))
theorem a1o(f:Int)(s0:J)(k:Nat)(c:UInt8)(q:J)(hk:(k:Int)<f)(hc:c∈s0)(h0:0<c.toNat):
    CQ (cond (fM f s0 k c) [c] (fc c)++q)∨(c=45∧fM f s0 k c=true):=by
  cases hr:fM f s0 k c with
  |true=>
    obtain⟨n1,n2,_⟩:=a1n hk hr;rcases afw n1 n2 with h|h
    · exact Or.inl ⟨c,q,rfl,a1l h,Or.inl h⟩
    · exact Or.inr ⟨UInt8.toNat_inj.1 h,rfl⟩
  |false=>
    have h3:=(uc f s0 [c] k (λd hd=>by rw[List.mem_singleton.1 hd];exact⟨hc,h0⟩)).2.1 hr;obtain⟨z,e1,e2⟩:=CP c q h3.1 h3.2;exact Or.inl ⟨92,z,e1,a1m,Or.inr ⟨rfl,e2⟩⟩
theorem afy:((List.range 256).all λn=>!(fa (n:Int))||!(n==62))=true:=by kernel_rfl
theorem JM(s:J)(h:s≠[])(h0:∀c∈s,0<c.toNat)(r:J):
    CQ (cg (bP s) s++r)∨(∃T,cg (bP s) s++r=45::T∧CQ T)∨
    (∃q,cg (bP s) s++r=45::45::q∧((s=[45,45]∧q=r)∨(s≠[45,45]∧t1 (ag 62) q=false))):=by
  obtain⟨c,l,rfl⟩:∃c l,s=c::l:=by
    cases s with
    |nil=>exact absurd rfl h
    |cons c l=>exact⟨c,l,rfl⟩
  have hc:=h0 c List.mem_cons_self;unfold cg;generalize hf:bP (c::l)=f;have hf1:(0:Int)<f:=by rw[←hf];unfold bP;cases A9 (c::l)<;>decide
  rw[bR,c7];rcases a1o f (c::l) 0 c (bR (fM f (c::l)) 1 l++r) hf1 List.mem_cons_self hc with h1|⟨h1,h2⟩
  · exact Or.inl h1
  · right;rw[h2,af];subst h1;have hf2:f=2:=by rw[←hf];rfl
    have cQ:=(a1n (f:=f) (k:=0) hf1 h2).2.2 (by omega);cases l with
    |nil=>exact absurd rfl cQ
    |cons d l=>
      have hd:=h0 d (List.mem_cons_of_mem _ List.mem_cons_self);rw[bR,c7];rcases a1o f (45::d::l) 1 d (bR (fM f (45::d::l)) 2 l++r) (by omega) (List.mem_cons_of_mem _ List.mem_cons_self) hd with h3|⟨h3,h4⟩
      · exact Or.inl ⟨_,rfl,h3⟩
      · right;rw[h4,af];subst h3;refine⟨_,rfl,?_⟩;cases l with
        |nil=>exact Or.inl ⟨rfl,rfl⟩
        |cons e l=>
          refine Or.inr ⟨by simp,?_⟩;have he:=h0 e (by simp);rw[bR,c7];cases hr:fM f (45::45::e::l) 2 e with
          |true=>
            show ag 62 e=false;have hn:fa (e.toNat:Int)=true:=by
              unfold fM at hr;cases hn:fa (e.toNat:Int)with
              |true=>rfl
              |false=>rw[hn]at hr;cases hr
            have:=iw (p:=λn=>!(fa (n:Int))||!(n==62)) afy e;rw[hn,dK,gr,Bool.not_eq_true']at this;exact this
          |false=>
            have h3:=(uc f (45::45::e::l) [e] 2 (λd hd=>by rw[List.mem_singleton.1 hd];exact⟨by simp,he⟩)).2.1 hr;obtain⟨z,e1,e2⟩:=CP e (bR (fM f (45::45::e::l)) (2+1) l++r) h3.1 h3.2;rw[ae,e1];rfl
theorem a1p{T:J}(h:CQ T):du T=true:=by
  obtain⟨b,q,rfl,hh,h⟩:=h;show cond (ag 45 b) _ (cond (cB b) true (cond (ag 92 b) (!(t1 (ag 10) q)) false))=true;rw[hh.u9,ae];rcases h with h|⟨rfl,h⟩
  · rw[h];rfl
  · rw[afu,h];rfl
theorem JN{T:J}(h:CQ T):(t1 cB T=true∨gv T=true)∧t1 (ag 62) T=false∧t1 (ag 45) T=false∧t1 aK T=false∧t1 (ag 46) T=false:=by
  obtain⟨b,q,rfl,hh,h⟩:=h;refine⟨?_,hh.h62,hh.u9,hh.d,hh.fL⟩;rcases h with h|⟨rfl,h⟩
  · exact Or.inl h
  · right;show cond (ag 92 92) (!(t1 (ag 10) q)) false=true;rw[h];rfl
theorem JO(s:J)(h:s≠[])(h0:∀c∈s,0<c.toNat)(r:J):du (cg (bP s) s++r)=true:=by
  rcases JM s h h0 r with h1|⟨T,e,h1⟩|⟨q,e,_⟩
  · exact a1p h1
  · rw[e];obtain⟨a,_⟩:=JN h1;show cond true (cond (cond (t1 cB T) true (t1 (ag 45) T)) true (gv T)) _=true;rcases a with a|a
    · rw[a];rfl
    · rw[a];cases t1 cB T<;>cases t1 (ag 45) T<;>rfl
  · rw[e];rfl
theorem JP:bw 45=false∧eG 45=false∧ag 35 45=false∧ag 60 45=false∧ag 64 45=false:=by refine⟨?_,?_,?_,?_,?_⟩<;>kernel_rfl
theorem a1q(s:J)(h:s≠[])(h0:∀c∈s,0<c.toNat)(r:J):dU (cg (bP s) s++r)=cond (s==[45,45]) (cond (t1 (ag 62) r) 4 7) 7:=by
  have hn:=JO s h h0 r;unfold dU;rw[hn];have fin:∀x:Bool,x=false→cond x 4 7=cond (s==[45,45]) (cond (t1 (ag 62) r) 4 7) 7→True:=λ_ _ _=>trivial;have Uc:∀b q,b≠(60:UInt8)→lS (b::q)=false:=by
    intro b q hb;unfold lS;split
    · rename_i h;simp at h;exact absurd h.1 hb
    · rfl
  rcases JM s h h0 r with⟨b,q,e,hh,_⟩|⟨T,e,h1⟩|⟨q,e,h1⟩
  · have afz:b≠60:=by intro hb;have:=hh.h60;rw[hb]at this;cases this
    have h3:kA (b::q)=false:=by
      unfold kA;split
      · rename_i h;simp at h;have:=hh.u9;rw[h.1]at this;cases this
      · rfl
    have hs:(s==[45,45])=false:=by
      rw[bE];intro hs;rw[hs]at e;have:=hh.u9;rw[show b=45 from(List.cons.inj e).1.symm]at this;cases this
    rw[e,hs,ae];have n3:ji (b::q)=false:=by
      unfold ji vZ;rw[show t1 bp (b::q)=bp b from rfl,hh.g,ae,show t1 (ag 46) (b::q)=ag 46 b from rfl,hh.fL,ae];exact hh.d
    have n2:oR (b::q)=false:=by unfold oR;rw[show t1 (ag 35) (b::q)=ag 35 b from rfl,hh.U5];rfl
    have n6:r9 (b::q)=false:=by unfold r9;rw[show t1 (ag 64) (b::q)=ag 64 b from rfl,hh.FM];rfl
    rw[show t1 bw (b::q)=bw b from rfl,hh.sp,show t1 eG (b::q)=eG b from rfl,hh.q,n2,n3,h3,Uc b q afz,n6];rfl
  · obtain⟨a1,a2,a3,a4,a5⟩:=JN h1;obtain⟨b1,b2,b3,b4,b5⟩:=JP;have hs:(s==[45,45])=false:=by
      rw[bE];intro hs;rw[hs]at e;have:T=45::r:=(List.cons.inj e).2.symm;rw[this]at a3;cases a3
    rw[e,hs,ae];have h3:kA (45::T)=false:=by
      unfold kA;split
      · rename_i h;simp at h;rw[h]at a3;cases a3
      · rfl
    have n3:ji (45::T)=false:=by
      unfold ji vZ;show t1 aK (cond (t1 (ag 46) T) (T.drop 1) T)=false;rw[a5];exact a4
    rw[show t1 bw (45::T)=bw 45 from rfl,b1,show t1 eG (45::T)=eG 45 from rfl,b2,show oR (45::T)=false from rfl,n3,h3,Uc 45 T (by decide),show r9 (45::T)=false from rfl];rfl
  · obtain⟨b1,b2,b3,b4,b5⟩:=JP;have h3:kA (45::45::q)=t1 (ag 62) q:=by
      cases q with
      |nil=>rfl
      |cons x q=>
        unfold kA;split
        · rename_i h;simp at h;rw[h.1];rfl
        · rename_i h;have hx:x≠62:=λhx=>h q (by rw[hx]);show false=(x.toNat==62);symm;rw[bE];intro ol;exact hx (UInt8.toNat_inj.1 ol)
    rw[e,show t1 bw (45::45::q)=bw 45 from rfl,b1,show t1 eG (45::45::q)=eG 45 from rfl,b2,show oR (45::45::q)=false from rfl,show ji (45::45::q)=false from rfl,h3,Uc 45 (45::q) (by decide),show r9 (45::45::q)=false from rfl];rcases h1 with⟨hs,hq⟩|⟨hs,hq⟩
    · rw[hs,hq];rfl
    · rw[hq,bE.2 hs];rfl
theorem afA:((List.range 256).all λn=>cond (pP (UInt8.ofNat n)) (Nat.blt 0 n&&Nat.blt n 128) (!(n==34)&&(!(n==10)&&!(n==92))))=true:=by kernel_rfl
theorem afB:((List.range 256).all λn=>cond (lR (UInt8.ofNat n)) (Nat.blt n 128) (!(n==41)&&(!(n==92)&&(!(bw (UInt8.ofNat n))&&(!(eG (UInt8.ofNat n))&&(!(n==40)&&!(sx (n:Int))))))))=true:=by kernel_rfl
def CR(c:UInt8):Bool:=!(ag 34 c)&&(!(ag 10 c)&&!(ag 92 c))
def JQ(c:UInt8):Bool:=!(ag 41 c)&&(!(ag 92 c)&&(!(bw c)&&(!(eG c)&&(!(ag 40 c)&&!(sx (c.toNat:Int))))))
theorem Ud:∀(l:J)(k:Nat),pQ (λ_ c=>!(pP c)) CR k l
  |[],_=>trivial
  |c::l,k=>by
    have h:=iw (p:=λn=>cond (pP (UInt8.ofNat n)) (Nat.blt 0 n&&Nat.blt n 128) (!(n==34)&&(!(n==10)&&!(n==92)))) afA c;rw[UInt8.ofNat_toNat]at h;refine⟨λhr=>?_,λhr=>?_,Ud l (k+1)⟩
    · have hr:(!(pP c))=true:=hr;rw[Bool.not_eq_true']at hr;rw[hr]at h;exact h
    · have hr:(!(pP c))=false:=hr;rw[Bool.not_eq_false']at hr;rw[hr,af,Bool.and_eq_true]at h;exact⟨Nat.le_of_ble_eq_true h.1,Nat.le_of_ble_eq_true h.2⟩
theorem NR:∀(l:J)(k:Nat),(∀c∈l,0<c.toNat)→pQ (λ_ c=>!(lR c)) JQ k l
  |[],_,_=>trivial
  |c::l,k,h0=>by
    have h:=iw (p:=λn=>cond (lR (UInt8.ofNat n)) (Nat.blt n 128) (!(n==41)&&(!(n==92)&&(!(bw (UInt8.ofNat n))&&(!(eG (UInt8.ofNat n))&&(!(n==40)&&!(sx (n:Int)))))))) afB c;rw[UInt8.ofNat_toNat]at h;refine⟨λhr=>?_,λhr=>?_,NR l (k+1) λd hd=>h0 d (List.mem_cons_of_mem _ hd)⟩
    · have hr:(!(lR c))=true:=hr;rw[Bool.not_eq_true']at hr;rw[hr]at h;exact h
    · have hr:(!(lR c))=false:=hr;rw[Bool.not_eq_false']at hr;rw[hr,af]at h;exact⟨h0 c List.mem_cons_self,Nat.le_of_ble_eq_true h⟩
theorem a1r{s:J}{i:Nat}{b:UInt8}{r:J}(h:s.drop i=b::r)(hi:i<s.length):s[i]=b:=by
  have e:=gp hi;rw[h]at e;exact(List.cons.inj e).1.symm
theorem Ue(f:Nat→UInt8→Bool)(s:J)(hs:s.length≤50000)(i0:Nat)(hq:aI s (i0:Int)=34):∀(l:J)(k j kk:Nat)(v r:J),pQ f CR k l→s.drop j=bR f k l++34::r→v.length+l.length≤60000→l.length<kk→
    qV 30000 s (i0:Int) kk (j:Int) v=some (.inl (aq.mk 5 (v++l) 0 [] false,((j+(bR f k l).length+1:Nat):Int)))
  |[],k,j,kk,v,r,h,hd,hv,hk=>by
    obtain⟨kk,rfl⟩:∃q,kk=q+1:=⟨kk-1,by simp at hk;omega⟩;have hd:s.drop j=34::r:=hd;have hj:=gj hd;rw[qV,dM hj,af,dN hj,get_at hd,hq,br (by omega)];show cond ((34:Int)==34) _ _=_;rw[show((34:Int)==34)=true from rfl,af,List.append_nil];rfl
  |c::l,k,j,kk,v,r,h,hd,hv,hk=>by
    obtain⟨h1,h2,h3⟩:=h;rw[aZ]at hv hk;obtain⟨kk,rfl⟩:∃q,kk=q+1:=⟨kk-1,by omega⟩;rw[bR,c7]at hd;have iP:=JK hd;rw[bR,bB,←Nat.add_assoc];cases hf:f k c with
    |true=>
      rw[hf]at hd iP;have hd:s.drop j=c::(bR f (k+1) l++34::r):=hd;have hj:=gj hd;have hr:=h1 hf;unfold CR at hr;rw[Bool.and_eq_true,Bool.and_eq_true,Bool.not_eq_true',Bool.not_eq_true',Bool.not_eq_true']at hr;obtain⟨q1,q2,q3⟩:=hr;unfold ag at q1 q2 q3;rw[bE]at q1 q2 q3;rw[qV,dM hj,af,dN hj,get_at hd,hq,show(((c.toNat:Nat):Int)==34)=false from bE.2 (by omega),ae,show(((c.toNat:Nat):Int)==10)=false from bE.2 (by omega),ae,show(((c.toNat:Nat):Int)==92)=false from bE.2 (by omega),ae,lt_eq,ae,aL (λh=>by cases h),ae,lt_eq,ae,ae,br (by omega),aL ⟨by omega,by omega,by unfold ln;omega⟩,tY hj,a1r hd hj,aL (by unfold ln;simp only[aZ,bW];omega)];have:=Ue f s hs i0 hq l (k+1) (j+1) kk (v++[c]) r h3 iP (by rw[bB,aZ,bW];omega) (by omega);rw[this,c7];rfl
    |false=>
      rw[hf]at hd iP;obtain⟨c0,c1⟩:=h2 hf;have hd:s.drop j=fc c++(bR f (k+1) l++34::r):=hd;obtain⟨b1,b2⟩:=U7 s (by omega) j c _ c0 c1 hd;obtain⟨z,e1,e2⟩:=CP c (bR f (k+1) l++34::r) c0 c1;rw[e1]at hd;have hj:=gj hd;have hz:=jg hd;have hz1:j+1<s.length:=by
        rcases Nat.lt_or_ge (j+1) s.length with h|h
        · exact h
        · rw[fF h]at hz;have hw:=congrArg List.length e1;obtain⟨w,e⟩:=JL c;rw[←hz,e,bB,bB,aZ,aZ,aZ,bW]at hw;omega
      have NB:(aI s ((j+1:Nat):Int)==10)=false:=by
        rw[show(10:Int)=((10:Nat):Int)from rfl,Jt hz1 10 (by decide),eF,hz,e2]
      rw[qV,dM hj,af,dN hj,get_at hd,hq];rw[show((((92:UInt8).toNat:Nat):Int)==34)=false from rfl,ae,show((((92:UInt8).toNat:Nat):Int)==10)=false from rfl,ae,show((((92:UInt8).toNat:Nat):Int)==92)=true from rfl,af,br (by omega),show(((j+1:Nat):Int)==ln s)=false from bE.2 (by unfold ln;omega),lt_eq,ae,aL (λ_=>⟨by omega,by unfold ln;omega⟩),af,NB,lt_eq,ae,af,b2,ai,aL (by unfold ln;simp only[aZ,bW];omega)];have:=Ue f s hs i0 hq l (k+1) (j+(fc c).length) kk (v++[c]) r h3 iP (by rw[bB,aZ,bW];omega) (by omega);show qV 30000 s (i0:Int) kk ((j+(fc c).length:Nat):Int) (v++[c])=_;rw[this,c7];rfl
theorem afC(s:J)(hs:s.length≤5000)(i:Nat)(l r:J)(hl:l.length≤5000)(hd:s.drop i=34::(ms l++34::r)):
    zO 30000 s (i:Int)=some (aq.mk 5 l 0 [] false,((i+(34::(ms l++[34])).length:Nat):Int)):=by
  have hi:=gj hd;have hb:aI s (i:Int)=34:=get_at hd;unfold zO;have:=Ue (λ_ c=>!(pP c)) s (by omega) i hb l 0 (i+1) 30000 [] r (Ud l 0) (jg hd) (by simp;omega) (by omega);rw[dN hi,br (by omega),this,List.nil_append,ai];have e:i+1+(bR (λ_ c=>!(pP c)) 0 l).length+1=i+(34::(ms l++[34])).length:=by
    rw[aZ,bB];show i+1+(ms l).length+1=i+((ms l).length+1+1);omega
  rw[e];rfl
theorem Uf(f:Nat→UInt8→Bool)(s:J)(hs:s.length≤50000):∀(l:J)(k j kk:Nat)(v r:J),pQ f JQ k l→s.drop j=bR f k l++41::r→v.length+l.length≤60000→l.length<kk→
    oJ 30000 s kk (j:Int) v=some (.inr (((j+(bR f k l).length:Nat):Int),v++l))
  |[],k,j,kk,v,r,h,hd,hv,hk=>by
    obtain⟨kk,rfl⟩:∃q,kk=q+1:=⟨kk-1,by simp at hk;omega⟩;have hd:s.drop j=41::r:=hd;have hj:=gj hd;rw[TR 30000 s (by omega) kk j v (by omega) (Or.inl (by rw[eF,hd];rfl)),List.append_nil];rfl
  |c::l,k,j,kk,v,r,h,hd,hv,hk=>by
    obtain⟨h1,h2,h3⟩:=h;rw[aZ]at hv hk;obtain⟨kk,rfl⟩:∃q,kk=q+1:=⟨kk-1,by omega⟩;rw[bR,c7]at hd;have iP:=JK hd;rw[bR,bB,←Nat.add_assoc];cases hf:f k c with
    |true=>
      rw[hf]at hd iP;have hd:s.drop j=c::(bR f (k+1) l++41::r):=hd;have hj:=gj hd;have hr:=h1 hf;unfold JQ at hr;simp only[Bool.and_eq_true,Bool.not_eq_true']at hr;obtain⟨q1,q2,q3,q4,q5,q6⟩:=hr;have iK:oI (c.toNat:Int)=false:=by
        have:=nV s j;rw[eF,hd,←jV s j 0 hj,get_at hd]at this;rw[this];exact q3
      have hq:cond ((c.toNat:Int)==34) true ((c.toNat:Int)==39)=false:=by
        unfold eG ag at q4;rw[pw,bE,bE]at q4;rw[show((c.toNat:Int)==34)=false from bE.2 (by omega),ae];exact bE.2 (by omega)
      unfold ag at q1 q2 q5;rw[bE]at q1 q2 q5;rw[oJ,dM hj,aL (λ_=>⟨by omega,by unfold ln;omega⟩),af,get_at hd,show(((c.toNat:Nat):Int) !=41)=true from bne_iff_ne.2 (by omega),lt_eq,af,dN hj,iK,ae,hq,lt_eq,show(((c.toNat:Nat):Int)==40)=false from bE.2 (by omega),ae,ae,q6,lt_eq,ae,show(((c.toNat:Nat):Int)==92)=false from bE.2 (by omega),ae,ai,ae,ae,lt_eq,ae,ae,br (by omega),aL ⟨by omega,by omega,by unfold ln;omega⟩,tY hj,a1r hd hj,aL (by unfold ln;simp only[aZ,bW];omega)];have:=Uf f s hs l (k+1) (j+1) kk (v++[c]) r h3 iP (by rw[bB,aZ,bW];omega) (by omega);rw[this,c7];rfl
    |false=>
      rw[hf]at hd iP;obtain⟨c0,c1⟩:=h2 hf;have hd:s.drop j=fc c++(bR f (k+1) l++41::r):=hd;obtain⟨b1,b2⟩:=U7 s (by omega) j c _ c0 c1 hd;obtain⟨z,e1,e2⟩:=CP c (bR f (k+1) l++41::r) c0 c1;rw[e1]at hd;have hj:=gj hd;have iK:oI ((((92:UInt8).toNat:Nat):Int))=false:=rfl;rw[oJ,dM hj,aL (λ_=>⟨by omega,by unfold ln;omega⟩),af,get_at hd,show((((92:UInt8).toNat:Nat):Int) !=41)=true from rfl,lt_eq,af,dN hj,iK,ae];rw[show((((92:UInt8).toNat:Nat):Int)==34)=false from rfl,ae,show((((92:UInt8).toNat:Nat):Int)==39)=false from rfl,lt_eq,ae,show((((92:UInt8).toNat:Nat):Int)==40)=false from rfl,ae,show sx ((((92:UInt8).toNat:Nat):Int))=false from rfl,lt_eq,ae,show((((92:UInt8).toNat:Nat):Int)==92)=true from rfl,af,tX s j (by omega),CL,b1,ai,ae,af,dK,lt_eq,ae,af,b2,ai,aL (by unfold ln;simp only[aZ,bW];omega)];have:=Uf f s hs l (k+1) (j+(fc c).length) kk (v++[c]) r h3 iP (by rw[bB,aZ,bW];omega) (by omega);show oJ 30000 s kk ((j+(fc c).length:Nat):Int) (v++[c])=_;rw[this,c7];rfl
theorem Ug(s:J)(hs:s.length≤50000)(i:Nat)(h:t1 bw (s.drop i)=false):jT 30000 s (i:Int)=some (i:Int):=by
  unfold jT;show Option.bind (Option.bind (eP s (i:Int)) _) _=_;rw[eE,ai,nV,eF,h];rfl
theorem a1s(s:J)(hs:s.length≤50000)(i:Nat)(h0:t1 bw (s.drop i)=true)(h:t1 bw (s.drop (i+1))=false):jT 30000 s (i:Int)=some ((i+1:Nat):Int):=by
  unfold jT;show Option.bind (Option.bind (eP s (i:Int)) _) _=_;rw[eE,ai,nV,eF,h0,af];have hi:i<s.length:=by
    rcases Nat.lt_or_ge i s.length with h1|h1
    · exact h1
    · rw[fF h1]at h0;cases h0
  rw[br (by omega)];show Option.bind (Option.bind (eP s ((i+1:Nat):Int)) _) _=_;rw[eE,ai,nV,eF,h];rfl
theorem afD(l r:J)(h0:∀c∈l,0<c.toNat):t1 bw (gX l++41::r)=false∧t1 eG (gX l++41::r)=false:=by
  cases l with
  |nil=>exact⟨by kernel_rfl,by kernel_rfl⟩
  |cons c l=>
    obtain⟨h1,h2,_⟩:=NR (c::l) 0 h0;unfold gX;rw[bR,c7];cases hf:!(lR c)with
    |true=>
      have hr:=h1 hf;unfold JQ at hr;simp only[Bool.and_eq_true,Bool.not_eq_true']at hr;exact⟨hr.2.2.1,hr.2.2.2.1⟩
    |false=>
      obtain⟨c0,c1⟩:=h2 hf;obtain⟨z,e1,e2⟩:=CP c (bR (λ_ c=>!(lR c)) (0+1) l++41::r) c0 c1;rw[ae,e1];exact⟨by kernel_rfl,by kernel_rfl⟩
theorem afE(s:J)(hs:s.length≤5000)(i:Nat)(l r:J)(hl:l.length≤5000)(h0:∀c∈l,0<c.toNat)(hd:s.drop i=[117,114,108,40]++(gX l++41::r)):
    pK 30000 s (i:Int)=some (aq.mk 7 l 0 [] false,((i+([117,114,108,40]++(gX l++[41])).length:Nat):Int)):=by
  have hi:=gj hd;have FN:s.drop (i+3)=40::(gX l++41::r):=by rw[←List.drop_drop,hd];rfl
  have ud:s.drop (i+4)=gX l++41::r:=by rw[←List.drop_drop,hd];rfl
  obtain⟨u1,u2⟩:=afD l r h0;have hn:=(CO (λ_ _=>true) s hs i [117,114,108] (40::(gX l++41::r)) (by simp) (by omega) ⟨λ_=>by kernel_rfl,λh=>(by cases h),⟨λ_=>by kernel_rfl,λh=>(by cases h),⟨λ_=>by kernel_rfl,λh=>(by cases h),trivial⟩⟩⟩ hd).1 (by kernel_rfl);unfold pK;rw[hn,ai];dsimp only;rw[show i+(bR (λ_ _=>true) 0 ([117,114,108]:J)).length=i+3 from rfl,eE,ai,show(pk s (i+3) 0 !=40)=!(aD (ag 40) s (i+3))from lQ s (i+3) 0 40 (by omega),eF,FN,show t1 (ag 40) (40::(gX l++41::r))=true from rfl,dK,ae,show tU 30000 [117,114,108] [117,114,108]=some true from by kernel_rfl,ai,af];have NS:i+4≤s.length:=by
    have:=gj FN;omega
  rw[show aa (((i+3:Nat):Int)+1)=((i+4:Nat):Int)from br (by omega),Ug s (by omega) (i+4) (by rw[ud];exact u1),ai,eE,ai,show(pk s (i+4) 0 !=34)=!(aD (ag 34) s (i+4))from lQ s (i+4) 0 34 (by omega),show(pk s (i+4) 0 !=39)=!(aD (ag 39) s (i+4))from lQ s (i+4) 0 39 (by omega)];have hq:cond (!(aD (ag 34) s (i+4))) (!(aD (ag 39) s (i+4))) false=true:=by
    have:aD eG s (i+4)=false:=by rw[eF,ud];exact u2
    have e:=Tp (ag 34) (ag 39) s (i+4);rw[show aD (λb=>ag 34 b||ag 39 b) s (i+4)=false from this]at e;cases FO:aD (ag 34) s (i+4)with
    |true=>rw[FO]at e;cases e
    |false=>rw[FO]at e;rw[←show false=aD (ag 39) s (i+4)from e];rfl
  rw[hq,af];unfold zY;have hL:=Uf (λ_ c=>!(lR c)) s (by omega) l 0 (i+4) 30000 [] r (NR l 0 h0) ud (by simp;omega) (by omega);rw[Ug s (by omega) (i+4) (by rw[ud];exact u1),ai,hL,ai,mU];dsimp only;have KT:s.drop (i+4+(bR (λ_ c=>!(lR c)) 0 l).length)=41::r:=JK ud;have aM:=gj KT;have e:i+4+(bR (λ_ c=>!(lR c)) 0 l).length+1=i+([117,114,108,40]++(gX l++[41])).length:=by
    rw[bB,bB];show i+4+(gX l).length+1=i+(4+((gX l).length+1));omega
  have hm:(if aa (((i+4+(bR (λ_ c=>!(lR c)) 0 l).length:Nat):Int)+1)<ln s then aa (((i+4+(bR (λ_ c=>!(lR c)) 0 l).length:Nat):Int)+1)else ln s)=((i+([117,114,108,40]++(gX l++[41])).length:Nat):Int):=by
    rw[TP (by omega) (by omega),←e];congr 1;omega
  rw[hm];rfl
def dd(R:J):J:=R.takeWhile aK
def de(R:J):Nat:=cond (t1 cc R) (cond (t1 aK (R.drop (cond (t1 bp (R.drop 1)) 2 1))) (cond (t1 bp (R.drop 1)) 2 1+(dd (R.drop (cond (t1 bp (R.drop 1)) 2 1))).length) 0) 0
def nA(fr:Bool)(R:J):Nat×Bool:=
  cond (cond fr false (cond (t1 (ag 46) (R.drop (dd R).length)) (t1 aK (R.drop ((dd R).length+1))) false)) ((dd R).length+1+(dd (R.drop ((dd R).length+1))).length,false) ((dd R).length,!fr)
def nE(fr:Bool)(R:J):Nat×Bool:=((nA fr R).1+de (R.drop (nA fr R).1),cond (Nat.beq (de (R.drop (nA fr R).1)) 0) (nA fr R).2 false)
theorem afF(u:J)(e:Nat)(wh:Bool):mq u e wh=(e+de (u.drop e),cond (Nat.beq (de (u.drop e)) 0) wh false):=by
  unfold mq de;dsimp only;rw[eF cc,ya bp];cases t1 cc (u.drop e)with
  |false=>rfl
  |true=>
    rw[af,af];have key:∀j:Nat,0<j→cond (aD aK u (e+j)) ((e+j)+(cv u (e+j)).length,false) (e,wh)=(e+cond (t1 aK ((u.drop e).drop j)) (j+(dd ((u.drop e).drop j)).length) 0,cond (Nat.beq (cond (t1 aK ((u.drop e).drop j)) (j+(dd ((u.drop e).drop j)).length) 0) 0) wh false):=by
      intro j hj;rw[ya,CF,←List.drop_drop];cases t1 aK ((u.drop e).drop j)with
      |false=>rfl
      |true=>
        rw[af,af,ua (by omega),ae];congr 1;show e+j+(dd ((u.drop e).drop j)).length=_;omega
    cases t1 bp ((u.drop e).drop 1)with
    |true=>exact key 2 (by decide)
    |false=>exact key 1 (by decide)
theorem JR(D R:J)(h:∀b∈D,aK b=true):dd (D++R)=D++dd R:=by
  unfold dd;rw[List.takeWhile_append_of_pos h]
theorem Ac{R:J}(h:t1 aK R=false):dd R=[]:=by
  unfold dd;cases R with
  |nil=>rfl
  |cons b R=>exact List.takeWhile_cons_of_neg (by rw[show aK b=false from h];decide)
theorem Uh(sg D1 F D2 R:J)(hs:sg=[]∨sg=[45])(dL:∀b∈D1,aK b=true)(dw:∀b∈D2,aK b=true)(hF:(F=[]∧D2=[]∧D1≠[])∨(F=46::D2∧D2≠[])):
    ji (sg++(D1++(F++R)))=true∧iJ (sg++(D1++(F++R)))=((sg++(D1++F)).length+(nE (!F.isEmpty) R).1,(nE (!F.isEmpty) R).2):=by
  have d2d:D2≠[]→∀x,t1 aK (D2++x)=true:=by
    intro h x;cases D2 with
    |nil=>exact absurd rfl h
    |cons b q=>exact dw b List.mem_cons_self
  have d1d:D1≠[]→∀x,t1 aK (D1++x)=true:=by
    intro h x;cases D1 with
    |nil=>exact absurd rfl h
    |cons b q=>exact dL b List.mem_cons_self
  -- the text behind the sign
  have hX:∃X,X=D1++(F++R)∧t1 bp X=false∧t1 aK (cond (t1 (ag 46) X) (X.drop 1) X)=true:=by
    refine⟨_,rfl,?_⟩;cases hD:D1 with
    |cons b q=>
      have hb:=dL b (by rw[hD];exact List.mem_cons_self);obtain⟨g1,g2,g3,_⟩:=u5 hb;refine⟨g1,?_⟩;rw[show t1 (ag 46) (b::q++(F++R))=ag 46 b from rfl,g2];exact hb
    |nil=>
      rcases hF with⟨_,_,h⟩|⟨h,hn⟩
      · exact absurd hD h
      · rw[h];exact⟨rfl,d2d hn R⟩
  obtain⟨X,FP,x1,x2⟩:=hX;rw[←FP];have u6:vZ (sg++X)=X:=by
    unfold vZ;rcases hs with rfl|rfl
    · rw[List.nil_append,x1];rfl
    · rfl
  have afG:bK (sg++X) 0=sg.length:=by
    unfold bK;rw[eF,fG];rcases hs with rfl|rfl
    · rw[List.nil_append,x1];rfl
    · rfl
  refine⟨by unfold ji;rw[u6];exact x2,?_⟩;have jh:(sg++X).drop sg.length=X:=List.drop_left;have yX:∀k,(sg++X).drop (sg.length+k)=X.drop k:=λk=>by rw[←List.drop_drop,jh]
  have Px:(sg++X).drop (sg++(D1++F)).length=R:=by
    rw[bB,yX,FP,←c7,List.drop_left]
  have hM:jy (sg++X)=((sg++(D1++F)).length+(nA (!F.isEmpty) R).1,(nA (!F.isEmpty) R).2):=by
    unfold jy nA;dsimp only;rw[afG,CF,jh];show cond (cond (aD (ag 46) (sg++X) (sg.length+(dd X).length)) (aD aK (sg++X) (sg.length+(dd X).length+1)) false) (sg.length+(dd X).length+1+(cv (sg++X) (sg.length+(dd X).length+1)).length,false) (sg.length+(dd X).length,true)=_;rcases hF with⟨rfl,rfl,hn⟩|⟨rfl,hn⟩
    · have JS:dd X=D1++dd R:=by rw[FP,JR _ _ dL];rfl
      have e1:∀k,(sg++X).drop (sg.length+(dd X).length+k)=R.drop ((dd R).length+k):=by
        intro k;rw[Nat.add_assoc,yX,JS,bB,Nat.add_assoc,FP,←List.drop_drop,List.drop_left];rfl
      rw[eF,eF,CF,show(sg++X).drop (sg.length+(dd X).length)=R.drop (dd R).length from e1 0,e1 1];show _=((sg++(D1++[])).length+(cond (cond false false _) _ _:Nat×Bool).1,(cond (cond false false _) _ _:Nat×Bool).2);rw[ae,List.append_nil,bB,JS,bB];cases cond (t1 (ag 46) (R.drop (dd R).length)) (t1 aK (R.drop ((dd R).length+1))) false with
      |true=>
        rw[af,af];show((_,false):Nat×Bool)=(_,false);congr 1;show sg.length+(D1.length+(dd R).length)+1+(dd (R.drop ((dd R).length+1))).length=_;dsimp only;omega
      |false=>
        rw[ae,ae];show((_,true):Nat×Bool)=(_,true);congr 1;dsimp only;omega
    · have JS:dd X=D1:=by rw[FP,JR _ _ dL];show D1++dd (46::(D2++R))=_;rw[Ac (R:=46::(D2++R)) rfl,List.append_nil]
      have e1:∀k,(sg++X).drop (sg.length+(dd X).length+k)=(46::(D2++R)).drop k:=by
        intro k;rw[Nat.add_assoc,yX,JS,FP,←List.drop_drop,List.drop_left];rfl
      rw[eF,eF,CF,show(sg++X).drop (sg.length+(dd X).length)=46::(D2++R)from e1 0,e1 1];have e2:dd (D2++R)=D2++dd R:=JR _ _ dw;show cond (cond true (t1 aK (D2++R)) false) (sg.length+(dd X).length+1+(dd (D2++R)).length,false) _=((sg++(D1++46::D2)).length+(dd R).length,false);rw[af,d2d hn,af,e2,JS];congr 1;simp only[bB,aZ];omega
  unfold iJ nE;rw[hM];dsimp only;rw[afF,←List.drop_drop,Px,Nat.add_assoc]
theorem Ui(s D1 D2:J)(sg:Bool)(ht:NL s D1 D2 sg)(h3:D2.length≤3)(q:Nat)(hq:q≤1000000000000)(hv:eX D1 0=q/1000)(hf:eX D2 0*10^(3-D2.length)=q%1000)(hl:s.length≤2000):
    tT 30000 s=some (cond sg (-(q:Int)) (q:Int)):=by
  have hr:=TF 30000 s D2 _ ht.nd (by omega) (by omega);have e:kz s s.length 10000=0:=by unfold kz;rw[ht.ex];rfl
  rw[e,ht.d1,Int.add_zero]at hr;rw[hr];congr 1;have A6:eX (D1++D2) 0=q/1000*10^D2.length+eX D2 0:=by rw[JC,hv,JD]
  have xY:eX (D1++D2) 0*10^(3-D2.length)=q:=by
    rw[A6,Nat.add_mul,Nat.mul_assoc,←Nat.pow_add,show D2.length+(3-D2.length)=3 from by omega,hf];omega
  have lx:0<10^(3-D2.length):=Nat.pow_pos (by decide);have hle:eX (D1++D2) 0≤q:=by
    have:=Nat.le_mul_of_pos_right (eX (D1++D2) 0) lx;omega
  have hDl:D2.length≤(D1++D2).length:=by rw[bB];omega
  generalize D1++D2=DD at*;have AJ:jc 1000000000000 (DD.take ((DD.length:Int)+(3-(D2.length:Int))).toNat) 0=eX DD 0:=by
    rw[List.take_of_length_le (by omega),NN _ _ 0 0 (by simp)];omega
  have hmul:jX (3-(D2.length:Int)) (eX DD 0)=q:=by
    unfold jX;split
    · rename_i hc;rcases hc with hc|hc
      · have e:D2.length=3:=by omega
        rw[e]at xY;simpa using xY
      · rw[hc]at xY⊢;omega
    · have e:(3-(D2.length:Int)).toNat=3-D2.length:=by omega
      rw[e,xY];omega
  unfold worth;rw[ht.neg,AJ,hmul]
theorem a1t(D2:J)(dw:∀b∈D2,aK b=true)(hn:D2≠[]):NL (46::D2) [] D2 false:=by
  have hx:=Uh [] [] (46::D2) D2 [] (Or.inl rfl) (λ_ h=>by cases h) dw (Or.inr ⟨rfl,hn⟩);have e0:([]++([]++(46::D2++[])):J)=46::D2:=by simp
  rw[e0]at hx;have hE:nE (!(46::D2:J).isEmpty) []=(0,false):=rfl;rw[hE]at hx;have u6:bK (46::D2) 0=0:=rfl;have xX:dA (46::D2)=[]:=by unfold dA;rw[u6];rfl
  have qd:yA (46::D2)=0:=by unfold yA;rw[u6,xX];rfl
  have pb:aD cc (46::D2) (46::D2:J).length=false:=by rw[eF,List.drop_length];rfl
  have vX:cv (46::D2) 1=D2:=by
    rw[CF];have:=JR D2 [] dw;rw[List.append_nil]at this;exact this.trans (List.append_nil _)
  refine⟨?_,by rw[hx.2];rfl,⟨Or.inl ?_,Or.inr ⟨pb,rfl⟩,?_,cF _⟩,xX,rfl,pb⟩
  · rw[a1e];exact hx.1
  · rw[qd];refine⟨rfl,vX.symm,?_,hn⟩;rw[aZ];omega
  · rw[xX];exact hn
structure ra(w:J)(n:Int)(fr:Bool):Prop where
  ext:∀R,ji (w++R)=true∧iJ (w++R)=(w.length+(nE fr R).1,(nE fr R).2)
  val:tT 30000 w=some n
  len:w.length≤30
  ne:w≠[]
  hd:∃b q,w=b::q∧(aK b=true∨b=45∨b=46)
  v0:fr=true→tT 30000 (w++[48])=some n
theorem a1u(s D1 D2:J)(sg:Bool)(ht:NL s D1 (D2++[48]) sg)(h3:D2.length≤3)(q:Nat)(hq:q≤1000000000000)(hv:eX D1 0=q/1000)(hf:eX D2 0*10^(3-D2.length)=q%1000)(hl:s.length≤2000):
    tT 30000 s=some (cond sg (-(q:Int)) (q:Int)):=by
  have NQ:eX (D2++[48]) 0=10*eX D2 0:=by rw[JC];rfl
  have hlen:(D2++[48]).length=D2.length+1:=by rw[bB];rfl
  by_cases h2:D2.length≤2
  · refine Ui s D1 (D2++[48]) sg ht (by rw[hlen];omega) q hq hv ?_ hl;rw[NQ,hlen,←hf,show 3-D2.length=(3-(D2.length+1))+1 from by omega,Nat.pow_succ,Nat.mul_comm 10,Nat.mul_assoc,Nat.mul_comm 10]
  · have Uj:D2.length=3:=by omega
    have hr:=TF 30000 s (D2++[48]) _ ht.nd (by omega) (by omega);have e:kz s s.length 10000=0:=by unfold kz;rw[ht.ex];rfl
    rw[e,ht.d1,Int.add_zero]at hr;rw[hr];congr 1;rw[Uj,Nat.sub_self,Nat.pow_zero,Nat.mul_one]at hf;have A6:eX (D1++D2) 0=q:=by
      rw[JC,hv,JD,Uj,hf];omega
    have hc:((3:Int)-((D2++[48]).length:Int))=-1:=by rw[hlen,Uj];rfl
    have AJ:jc 1000000000000 ((D1++(D2++[48])).take (((D1++(D2++[48])).length:Int)+(-1)).toNat) 0=q:=by
      have e1:(((D1++(D2++[48])).length:Int)+(-1)).toNat=(D1++D2).length:=by
        rw[←c7,bB,aZ,bW];omega
      rw[e1,←c7,List.take_left,NN _ _ 0 0 (by simp),A6];omega
    unfold worth;rw[ht.neg,hc,AJ];have hm:jX (-1) q=q:=by unfold jX;rw[if_pos (Or.inl (by decide))]
    rw[hm]
theorem afH(n:Int)(pt:Bool)(h1:-1000000000000≤n)(h2:n≤1000000000000):ra (fV n pt) n (!(ez (n.natAbs%1000) pt).isEmpty):=by
  obtain⟨D2,hN⟩:=JI n pt h1 h2;have ht:=NM _ _ _ _ hN.hs hN.h1 hN.dL hN.dw hN.hF;have hw:=Ui _ _ _ _ ht hN.h3 n.natAbs (by omega) hN.hv hN.hf hN.hl;have hl:=CK n pt h1 h2;have e:fV n pt=fU n++(Lib.decDigits (n.natAbs/1000)++ez (n.natAbs%1000) pt):=rfl;obtain⟨c,r,iZ,oe⟩:=a14 (n.natAbs/1000);have hhd:∃b q,fV n pt=b::q∧(aK b=true∨b=45∨b=46):=by
    rw[e];rcases hN.hs with hh|hh
    · rw[hh,iZ];exact⟨c,_,rfl,Or.inl oe⟩
    · rw[hh];exact⟨45,_,rfl,Or.inr (Or.inl rfl)⟩
  refine⟨λR=>?_,?_,by omega,?_,hhd,λNT=>?_⟩
  · have hx:=Uh _ _ _ _ R hN.hs hN.dL hN.dw (by
      rcases hN.hF with⟨a,b⟩|⟨a,b⟩
      · exact Or.inl ⟨a,b,hN.h1⟩
      · exact Or.inr ⟨a,b⟩)
    have e2:fV n pt++R=fU n++(Lib.decDigits (n.natAbs/1000)++(ez (n.natAbs%1000) pt++R)):=by rw[e,c7,c7]
    rw[e2];exact hx
  · rw[e,hw];congr 1;have:=U3 n;cases hs:(fU n).isEmpty with
    |true=>rw[hs]at this;exact this
    |false=>rw[hs]at this;exact this
  · obtain⟨b,q,hb,_⟩:=hhd;rw[hb];exact List.cons_ne_nil _ _
  · rcases hN.hF with⟨hF,_⟩|⟨hF,hD⟩
    · rw[hF]at NT;cases NT
    · have FL:∀b∈D2++[48],aK b=true:=by
        intro b hb;rcases List.mem_append.1 hb with hb|hb
        · exact hN.dw b hb
        · rw[List.mem_singleton.1 hb];rfl
      have NU:=NM _ _ (D2++[48]) (46::(D2++[48])) hN.hs hN.h1 hN.dL FL (Or.inr ⟨rfl,by simp⟩);have e0:fV n pt++[48]=fU n++(Lib.decDigits (n.natAbs/1000)++46::(D2++[48])):=by
        rw[e,hF,c7,c7];rfl
      have iF:(fV n pt++[48]).length≤2000:=by rw[bB,aZ,bW];omega
      rw[←e0]at NU;rw[a1u _ _ _ _ NU hN.h3 n.natAbs (by omega) hN.hv hN.hf iF];congr 1;have:=U3 n;cases hs:(fU n).isEmpty with
      |true=>rw[hs]at this;exact this
      |false=>rw[hs]at this;exact this
theorem a1v(D2:J)(dw:∀b∈D2,aK b=true)(hn:D2≠[])(h3:D2.length≤3)(q:Nat)(hq:q<1000)(hf:eX D2 0*10^(3-D2.length)=q):ra (46::D2) (q:Int) true:=by
  refine⟨λR=>?_,?_,by rw[aZ];omega,by simp,⟨46,D2,rfl,Or.inr (Or.inr rfl)⟩,λ_=>?_⟩
  · exact Uh [] [] (46::D2) D2 R (Or.inl rfl) (λ_ h=>by cases h) dw (Or.inr ⟨rfl,hn⟩)
  · exact Ui _ _ _ _ (a1t D2 dw hn) h3 q (by omega) (by show 0=_;omega) (by omega) (by rw[aZ];omega)
  · have FL:∀b∈D2++[48],aK b=true:=by
      intro b hb;rcases List.mem_append.1 hb with hb|hb
      · exact dw b hb
      · rw[List.mem_singleton.1 hb];rfl
    exact a1u _ _ _ _ (a1t (D2++[48]) FL (by simp)) h3 q (by omega) (by show 0=_;omega) (by omega) (by simp;omega)
theorem afI:((List.range 256).all λn=>!(aK (UInt8.ofNat n)||(n==45||n==46))||(!(bw (UInt8.ofNat n))&&(!(eG (UInt8.ofNat n))&&!(ag 35 (UInt8.ofNat n)))))=true:=by kernel_rfl
theorem afJ{b:UInt8}(h:aK b=true∨b=45∨b=46):bw b=false∧eG b=false∧ag 35 b=false:=by
  have h1:=iw (p:=λn=>!(aK (UInt8.ofNat n)||(n==45||n==46))||(!(bw (UInt8.ofNat n))&&(!(eG (UInt8.ofNat n))&&!(ag 35 (UInt8.ofNat n))))) afI b;rw[UInt8.ofNat_toNat]at h1;have h2:(aK b||(b.toNat==45||b.toNat==46))=true:=by
    rcases h with h|h|h
    · rw[h];rfl
    · rw[h];rfl
    · rw[h];rfl
  rw[h2,dK,gr]at h1;simpa only[Bool.and_eq_true,Bool.not_eq_true']using h1
theorem JT{w:J}{n:Int}{fr:Bool}(h:ra w n fr)(R:J):dU (w++R)=3:=by
  obtain⟨b,q,hb,hh⟩:=h.hd;obtain⟨h1,h2,h3⟩:=afJ hh;have hn:=(h.ext R).1;rw[hb]at hn⊢;unfold dU;rw[hn,show t1 bw (b::q++R)=bw b from rfl,h1,show t1 eG (b::q++R)=eG b from rfl,h2];have h4:oR (b::q++R)=false:=by
    unfold oR;rw[show t1 (ag 35) (b::q++R)=ag 35 b from rfl,h3];rfl
  rw[h4];rfl
theorem JU{w:J}{n:Int}{fr:Bool}(h:ra w n fr)(s:J)(hs:s.length≤5000)(i:Nat)(hi:i≤s.length)(R:J)(hd:s.drop i=w++R)(k:Nat)(wh:Bool)(hE:nE fr R=(k,wh)):
    i+w.length+k≤s.length∧s.drop (i+w.length+k)=R.drop k∧(k=0→sub s (i:Int) ((i+w.length+k:Nat):Int)=w)∧
    mo 30000 s (i:Int)=Option.bind (tT 30000 (sub s (i:Int) ((i+w.length+k:Nat):Int))) λdi=>
      cond (du (R.drop k)) (Option.bind (jU 30000 s ((i+w.length+k:Nat):Int)) λy=>some (aq.mk 12 [] di y.1 wh,y.2)) (cond (t1 (ag 37) (R.drop k)) (some (aq.mk 11 [] di [] false,((i+w.length+k+1:Nat):Int))) (some (aq.mk 10 [] di [] wh,((i+w.length+k:Nat):Int)))):=by
  have hx:=(h.ext R).2;have hle:=a0G (w++R);have hlen:=sD hi hd;rw[hx,hE,bB]at hle;have hEA:pO s i=(i+w.length+k,wh):=by
    rw[a0L,hd,hx,hE];show((i+(w.length+k),wh):Nat×Bool)=_;rw[←Nat.add_assoc]
  have jh:s.drop (i+w.length+k)=R.drop k:=by rw[←List.drop_drop,mu hd]
  refine⟨by dsimp only at hle;omega,jh,?_,?_⟩
  · intro hk;subst hk;unfold sub;rw[Int.toNat_natCast,Int.toNat_natCast,hd,show i+w.length+0-i=w.length from by omega,List.take_left]
  · dsimp only at hle;unfold mo;rw[a0J 30000 s (by omega) (by omega) i hi,hEA,ai];dsimp only;rw[aL ⟨by omega,by omega,by unfold ln;omega⟩];cases tT 30000 (sub s (i:Int) ((i+w.length+k:Nat):Int))with
    |none=>rfl
    |some di=>
      rw[ai,ai,A2 s _ (by omega),NP,jh,ai];cases du (R.drop k)with
      |true=>
        rw[af,af];cases jU 30000 s ((i+w.length+k:Nat):Int)<;>rfl
      |false=>
        rw[ae,ae,eE,ai,show(37:Int)=((37:Nat):Int)from rfl,iI s _ 0 37 (by omega),eF,jh];cases t1 (ag 37) (R.drop k)with
        |true=>rw[af,af,br (by omega)];rfl
        |false=>rfl
theorem NV{fr:Bool}{R:J}(h:(nE fr R).1=0):nE fr R=(0,!fr):=by
  unfold nE at h⊢;dsimp only at h;have h1:(nA fr R).1=0:=by omega
  have h2:de (R.drop (nA fr R).1)=0:=by omega
  rw[h2,h1];have h3:(nA fr R).2=!fr:=by
    unfold nA at h1⊢;generalize cond fr false (cond (t1 (ag 46) (R.drop (dd R).length)) (t1 aK (R.drop ((dd R).length+1))) false)=b at h1⊢;cases b with
    |true=>rw[af]at h1;dsimp only at h1;omega
    |false=>rfl
  rw[h3];rfl
theorem JV{fr:Bool}{R:J}(h1:t1 aK R=false)(h2:fr=true∨t1 (ag 46) R=false∨t1 aK (R.drop 1)=false)(h3:de R=0):(nE fr R).1=0:=by
  have hk:dd R=[]:=Ac h1;have hA:nA fr R=(0,!fr):=by
    unfold nA;rw[hk];have:cond fr false (cond (t1 (ag 46) (R.drop ([]:J).length)) (t1 aK (R.drop (([]:J).length+1))) false)=false:=by
      show cond fr false (cond (t1 (ag 46) R) (t1 aK (R.drop 1)) false)=false;rcases h2 with h|h|h
      · rw[h];rfl
      · rw[h];cases fr<;>rfl
      · rw[h];cases fr<;>cases t1 (ag 46) R<;>rfl
    rw[this];rfl
  unfold nE;rw[hA];show 0+de (R.drop 0)=0;rw[fG,h3]
theorem a1w{R:J}(h:t1 cc R=false):de R=0:=by unfold de;rw[h];rfl
theorem afK{fr:Bool}{R:J}(h:(nE fr R).1≠0):t1 aK R=true∨de R≠0∨(fr=false∧t1 (ag 46) R=true∧t1 aK (R.drop 1)=true):=by
  cases h1:t1 aK R with
  |true=>exact Or.inl rfl
  |false=>
    right;by_cases h3:de R=0
    · right;cases fr with
      |true=>exact absurd (JV (R:=R) h1 (Or.inl rfl) h3) h
      |false=>
        cases fL:t1 (ag 46) R with
        |false=>exact absurd (JV h1 (Or.inr (Or.inl fL)) h3) h
        |true=>
          cases hd:t1 aK (R.drop 1)with
          |false=>exact absurd (JV h1 (Or.inr (Or.inr hd)) h3) h
          |true=>exact⟨rfl,rfl,rfl⟩
    · exact Or.inl h3
theorem a1x(f g:Nat→UInt8→Bool):∀(l:J)(k j:Nat),(∀n c,f (k+n) c=g (j+n) c)→bR f k l=bR g j l
  |[],_,_,_=>rfl
  |c::l,k,j,h=>by
    rw[bR,bR,show f k c=g j c from h 0 c,a1x f g l (k+1) (j+1) λn c=>by have:=h (n+1) c;rwa [←Nat.add_assoc,Nat.add_right_comm,←Nat.add_assoc,Nat.add_right_comm j]at this]
theorem a1y(f g:Nat→UInt8→Bool)(p:UInt8→Bool):∀(l:J)(k j:Nat),(∀n c,f (k+n) c=g (j+n) c)→pQ g p j l→pQ f p k l
  |[],_,_,_,_=>trivial
  |c::l,k,j,h,hg=>by
    obtain⟨g1,g2,g3⟩:=hg;have e:f k c=g j c:=h 0 c;refine⟨λhr=>g1 (by rw[←e];exact hr),λhr=>g2 (by rw[←e];exact hr),a1y f g p l (k+1) (j+1) (λn c=>?_) g3⟩;have:=h (n+1) c;rwa [←Nat.add_assoc,Nat.add_right_comm,←Nat.add_assoc,Nat.add_right_comm j]at this
theorem a1z{c:UInt8}(h:cc c=true):c.toNat<128:=by
  unfold cc ag at h;rw[Bool.or_eq_true,beq_iff_eq,beq_iff_eq]at h;omega
theorem NW(c:UInt8)(r:J):bX (c::r)=cond (xZ (c::r)) (fc c++cg 0 r) (cg (bP (c::r)) (c::r)):=rfl
theorem Uk(u:J)(h0:∀c∈u,0<c.toNat):∃f,bX u=bR f 0 u∧pQ f dc 0 u:=by
  cases u with
  |nil=>exact⟨λ_ _=>true,rfl,trivial⟩
  |cons c r=>
    rw[NW];cases hE:xZ (c::r)with
    |false=>exact⟨_,rfl,uc _ _ _ 0 λd hd=>⟨hd,h0 d hd⟩⟩
    |true=>
      have hc:cc c=true:=by
        unfold xZ at hE;dsimp only at hE;rw[Bool.and_eq_true]at hE;exact hE.1
      refine⟨λk d=>cond (Nat.beq k 0) false (fM 0 r (k-1) d),?_,λh=>(by cases h),λ_=>⟨h0 c List.mem_cons_self,a1z hc⟩,?_⟩
      · show fc c++cg 0 r=fc c++bR _ (0+1) r;congr 1;refine(a1x _ _ r (0+1) 0 λn d=>?_).symm;show cond (Nat.beq (0+1+n) 0) false (fM 0 r (0+1+n-1) d)=_;rw[ua (by omega),show 0+1+n-1=0+n from by omega];rfl
      · refine a1y _ (fM 0 r) dc r (0+1) 0 (λn d=>?_) (uc _ _ _ 0 λd hd=>⟨hd,h0 d (List.mem_cons_of_mem _ hd)⟩);show cond (Nat.beq (0+1+n) 0) false (fM 0 r (0+1+n-1) d)=_;rw[ua (by omega),show 0+1+n-1=0+n from by omega];rfl
theorem afL(u:J)(h:u≠[])(h0:∀c∈u,0<c.toNat)(r:J):CQ (bX u++r)∨(∃T,bX u++r=45::T∧(CQ T∨t1 (ag 45) T=true)):=by
  cases u with
  |nil=>exact absurd rfl h
  |cons c q=>
    rw[NW];cases hE:xZ (c::q)with
    |false=>
      rcases JM (c::q) h h0 r with h1|⟨T,e,h1⟩|⟨z,e,_⟩
      · exact Or.inl h1
      · exact Or.inr ⟨T,e,Or.inl h1⟩
      · exact Or.inr ⟨45::z,e,Or.inr rfl⟩
    |true=>
      have hc:cc c=true:=by
        unfold xZ at hE;dsimp only at hE;rw[Bool.and_eq_true]at hE;exact hE.1
      obtain⟨z,e1,e2⟩:=CP c (cg 0 q++r) (h0 c List.mem_cons_self) (a1z hc);left;refine⟨92,z,?_,a1m,Or.inr ⟨rfl,e2⟩⟩;show(fc c++cg 0 q)++r=_;rw[c7,e1]
theorem FQ(u:J)(h:u≠[])(h0:∀c∈u,0<c.toNat)(r:J):du (bX u++r)=true∧t1 aK (bX u++r)=false∧t1 (ag 46) (bX u++r)=false:=by
  rcases afL u h h0 r with h1|⟨T,e,h1⟩
  · obtain⟨_,_,_,a4,a5⟩:=JN h1;exact⟨a1p h1,a4,a5⟩
  · rw[e];refine⟨?_,rfl,rfl⟩;show cond true (cond (cond (t1 cB T) true (t1 (ag 45) T)) true (gv T)) _=true;rcases h1 with h1|h1
    · rcases(JN h1).1 with a|a
      · rw[a];rfl
      · rw[a];cases t1 cB T<;>cases t1 (ag 45) T<;>rfl
    · rw[h1];cases t1 cB T<;>rfl
theorem afM(fr:Bool)(u:J)(h:u≠[])(h0:∀c∈u,0<c.toNat)(r:J):(nE fr (bX u++r)).1=de (bX u++r)∧(de (bX u++r)≠0→(nE fr (bX u++r)).2=false):=by
  obtain⟨_,a2,a3⟩:=FQ u h h0 r;have hk:dd (bX u++r)=[]:=Ac a2;have hA:nA fr (bX u++r)=(0,!fr):=by
    unfold nA;rw[hk];have:cond fr false (cond (t1 (ag 46) ((bX u++r).drop ([]:J).length)) (t1 aK ((bX u++r).drop (([]:J).length+1))) false)=false:=by
      show cond fr false (cond (t1 (ag 46) (bX u++r)) _ false)=false;rw[a3];cases fr<;>rfl
    rw[this];rfl
  unfold nE;rw[hA];dsimp only;rw[fG,Nat.zero_add];refine⟨rfl,λh=>?_⟩;rw[ua h];rfl
theorem eQ{α β:Type}{x:Option α}{f:α→Option β}{z:β}(h:Option.bind x f=some z):∃a,x=some a∧f a=some z:=by
  cases x with
  |none=>cases h
  |some a=>exact⟨a,rfl,h⟩
theorem gJ{α:Type}{b:Bool}{x y z:α}(h:cond b x y=z):(b=true∧x=z)∨(b=false∧y=z):=by
  cases b with
  |true=>exact Or.inl ⟨rfl,h⟩
  |false=>exact Or.inr ⟨rfl,h⟩
theorem a1A{s:J}{i:Int}{t:aq}{j:Int}(h:zX 30000 s i=some (t,j)):t.ah=8:=by
  unfold zX at h;obtain⟨a,_,h⟩:=eQ h;rw[lt_eq]at h;injection h with h;injection h with h1 h2;rw[←h1]
theorem afN(s:J):∀(kk:Nat)(i:Int)(v:J)(t:aq)(e:Int),oJ 30000 s kk i v=some (.inl (t,e))→t.ah=8:=by
  intro kk
  induction kk with
  |zero=>intro i v t e h;cases h
  |succ kk ih=>
    intro i v t e h;rw[oJ]at h;obtain⟨_,h⟩:=bM h;rw[lt_eq]at h;rcases gJ h with⟨_,h⟩|⟨_,h⟩
    · obtain⟨_,h⟩:=bM h;rcases gJ h with⟨_,h⟩|⟨_,h⟩
      · obtain⟨a,_,h⟩:=eQ h;obtain⟨_,h⟩:=bM h;rw[lt_eq]at h;rcases gJ h with⟨_,h⟩|⟨_,h⟩
        · obtain⟨b,hb,h⟩:=eQ h;injection h with h;injection h with h;injection h with h1 h2;rw[←h1];exact a1A (t:=b.1) (j:=b.2) hb
        · exact ih _ _ _ _ h
      · rw[lt_eq,lt_eq]at h;obtain⟨a,_,h⟩:=eQ h;rw[lt_eq]at h;rcases gJ h with⟨_,h⟩|⟨_,h⟩
        · obtain⟨b,hb,h⟩:=eQ h;injection h with h;injection h with h;injection h with h1 h2;rw[←h1];exact a1A (t:=b.1) (j:=b.2) hb
        · rcases gJ h with⟨_,h⟩|⟨_,h⟩
          · obtain⟨b,hb,h⟩:=eQ h;obtain⟨_,h⟩:=bM h;exact ih _ _ _ _ h
          · obtain⟨_,h⟩:=bM h;obtain⟨_,h⟩:=bM h;exact ih _ _ _ _ h
    · injection h with h;cases h
theorem afO{s:J}{i:Int}{t:aq}{j:Int}(h:zY 30000 s i=some (t,j)):t.ah=7∨t.ah=8:=by
  unfold zY at h;obtain⟨a,ha,h⟩:=eQ h;obtain⟨b,hb,ha⟩:=eQ ha;cases a with
  |inl x=>
    obtain⟨x1,x2⟩:=x;have:=afN s _ _ _ _ _ ha;injection h with h;right;injection h with h1 h2;rw[←h1];exact this
  |inr x=>
    rw[mU,lt_eq]at h;injection h with h;injection h with h1 h2;left;rw[←h1]
theorem Ul{s:J}{i:Int}{t:aq}{j:Int}(h:pK 30000 s i=some (t,j)):
    (t.ah=1∧∃w,jU 30000 s i=some (w,j)∧eP s j≠some 40∧t=⟨1,w,0,[],false⟩)∨t.ah=2∨t.ah=7∨t.ah=8:=by
  unfold pK at h;obtain⟨⟨w,e⟩,ha,h⟩:=eQ h;obtain⟨c,hc,h⟩:=eQ h;rcases gJ h with⟨h4,h⟩|⟨_,h⟩
  · injection h with h;injection h with h1 h2;left;dsimp only at h1 h2 hc;subst h2;refine⟨by rw[←h1],w,ha,λhx=>?_,h1.symm⟩;rw[hx]at hc;injection hc with hc;rw[←hc]at h4;cases h4
  · right;obtain⟨z,hz,h⟩:=eQ h;cases z with
    |inr u=>
      rw[mU]at h;injection h with h;injection h with h1 h2;left;rw[←h1]
    |inl x=>
      right;obtain⟨b,_,hz⟩:=eQ hz;rcases gJ hz with⟨_,hz⟩|⟨_,hz⟩
      · obtain⟨c2,_,hz⟩:=eQ hz;obtain⟨c3,_,hz⟩:=eQ hz;rcases gJ hz with⟨_,hz⟩|⟨_,hz⟩
        · obtain⟨⟨t2,e2⟩,hu,hz⟩:=eQ hz;injection hz with hz;injection hz with hz;rw[←hz]at h;injection h with h;injection h with h1 h2;rw[←h1];exact afO hu
        · injection hz with hz;cases hz
      · injection hz with hz;cases hz
theorem afP{s:J}{i:Int}{t:aq}{j:Int}(h:mo 30000 s i=some (t,j)):t.ah=10∨t.ah=11∨t.ah=12:=by
  unfold mo at h;obtain⟨a,_,h⟩:=eQ h;obtain⟨_,h⟩:=bM h;obtain⟨b,_,h⟩:=eQ h;obtain⟨z,hz,h⟩:=eQ h;injection h with h;injection h with h1 h2;rw[←h1];obtain⟨c,_,hz⟩:=eQ hz;rcases gJ hz with⟨_,hz⟩|⟨_,hz⟩
  · obtain⟨d,_,hz⟩:=eQ hz;injection hz with hz;rw[←hz];exact Or.inr (Or.inr rfl)
  · obtain⟨d,_,hz⟩:=eQ hz;rcases gJ hz with⟨_,hz⟩|⟨_,hz⟩
    · injection hz with hz;rw[←hz];exact Or.inr (Or.inl rfl)
    · injection hz with hz;rw[←hz];exact Or.inl rfl
theorem afQ:((List.range 256).all λn=>ia (n:Int)==0||decide (16≤ia (n:Int))&&decide (ia (n:Int)≤24))=true:=by kernel_rfl
theorem Um(T:J):dU T≤9:=by
  unfold dU;cases t1 bw T<;>cases t1 eG T<;>cases oR T<;>cases ji T<;>cases kA T<;>cases lS T<;>cases r9 T<;>cases du T<;>cases t1 jY T<;>decide
theorem Un{s:J}{i:Nat}{b:UInt8}{n:Nat}{t:aq}{j:Int}(hn:n≤9)(hq:n≠1)(h:CM s i b n=some (t,j))(hm:n=8→ia (b.toNat:Int)≠0):(t.ah=9→n=9)∧(t.ah=1∨t.ah=2→n=7)∧(t.ah=10∨t.ah=11∨t.ah=12→n=3):=by
  match n,hn with
  |0,_=>
    obtain⟨a,_,h⟩:=eQ h;injection h with h;injection h with h1 h2;subst h1;exact⟨λh=>(by cases h),λh=>(by rcases h with h|h<;>cases h),λh=>(by rcases h with h|h|h<;>cases h)⟩
  |1,_=>exact absurd rfl hq
  |2,_=>
    obtain⟨a,_,h⟩:=eQ h;injection h with h;injection h with h1 h2;subst h1;exact⟨λh=>(by cases h),λh=>(by rcases h with h|h<;>cases h),λh=>(by rcases h with h|h|h<;>cases h)⟩
  |3,_=>
    have:=afP h;exact⟨λh=>by omega,λh=>by omega,λ_=>rfl⟩
  |4,_=>
    injection h with h;injection h with h1 h2;subst h1;exact⟨λh=>(by cases h),λh=>(by rcases h with h|h<;>cases h),λh=>(by rcases h with h|h|h<;>cases h)⟩
  |5,_=>
    injection h with h;injection h with h1 h2;subst h1;exact⟨λh=>(by cases h),λh=>(by rcases h with h|h<;>cases h),λh=>(by rcases h with h|h|h<;>cases h)⟩
  |6,_=>
    obtain⟨a,_,h⟩:=eQ h;injection h with h;injection h with h1 h2;subst h1;exact⟨λh=>(by cases h),λh=>(by rcases h with h|h<;>cases h),λh=>(by rcases h with h|h|h<;>cases h)⟩
  |7,_=>
    refine⟨λhk=>?_,λ_=>rfl,λhk=>?_⟩
    · rcases Ul h with⟨h,_⟩|h|h|h<;>omega
    · rcases Ul h with⟨h,_⟩|h|h|h<;>omega
  |8,_=>
    have hm:=hm rfl;injection h with h;injection h with h1 h2;subst h1;have h3:=iw (p:=λn=>ia (n:Int)==0||decide (16≤ia (n:Int))&&decide (ia (n:Int)≤24)) afQ b;rw[show(ia (b.toNat:Int)==0)=false from bE.2 hm,gr,Bool.and_eq_true,decide_eq_true_eq,decide_eq_true_eq]at h3;refine⟨λh=>?_,λh=>?_,λh=>?_⟩<;>dsimp only at h<;>omega
  |9,_=>
    injection h with h;injection h with h1 h2;subst h1;exact⟨λ_=>rfl,λh=>(by rcases h with h|h<;>cases h),λh=>(by rcases h with h|h|h<;>cases h)⟩
theorem Uo{b:UInt8}{r:J}(h:dU (b::r)=8):ia (b.toNat:Int)≠0:=by
  unfold dU at h;have:t1 jY (b::r)=true:=by
    revert h
    cases t1 bw (b::r)<;>cases t1 eG (b::r)<;>cases oR (b::r)<;>cases ji (b::r)<;>cases kA (b::r)<;>cases lS (b::r)<;>cases r9 (b::r)<;>cases du (b::r)<;>cases t1 jY (b::r)<;>decide
  intro hx;have hm:jY b=true:=this;unfold jY at hm;rw[hx]at hm;cases hm
theorem afR{T:J}(h:dU T=7):du T=true:=by
  unfold dU at h
  revert h
  cases t1 bw T<;>cases t1 eG T<;>cases oR T<;>cases ji T<;>cases kA T<;>cases lS T<;>cases r9 T<;>cases du T<;>cases t1 jY T<;>decide
theorem a1B(s:J)(hs:s.length≤5000)(i:Nat)(T:J)(hd:s.drop i=T)(hT:T≠[]):∃b q,T=b::q∧fh 30000 s (i:Int)=CM s i b (dU T):=by
  cases T with
  |nil=>exact absurd rfl hT
  |cons b q=>exact⟨b,q,rfl,mX s hs i b q hd⟩
theorem a1C{T:J}(h:du T=true):T≠[]:=by intro e;rw[e]at h;cases h
theorem afS(s:J)(i:Nat):eP s (i:Int)=some 40↔t1 (ag 40) (s.drop i)=true:=by
  rw[eE,←eF];have:=iI s i 0 40 (by decide);constructor
  · intro h;injection h with h;rw[←this,h];rfl
  · intro h;rw[←this]at h;have:=eq_of_beq h;rw[this];rfl
theorem rd1(s:J)(hs:s.length≤5000)(i:Nat)(hi:i≤s.length)(l r:J)(hl:l.length≤5000)(hn:l≠[])(h0:∀c∈l,0<c.toNat)(hd:s.drop i=cg (bP l) l++r):
    (eW r=true→t1 (ag 40) r=false→(l=[45,45]→t1 (ag 62) r=false)→fh 30000 s (i:Int)=some (⟨1,l,0,[],false⟩,((i+(cg (bP l) l).length:Nat):Int)))∧
    (∀j,fh 30000 s (i:Int)=some (⟨1,l,0,[],false⟩,j)→eW r=true∧t1 (ag 40) r=false∧(l=[45,45]→t1 (ag 62) r=false)∧j=((i+(cg (bP l) l).length:Nat):Int)):=by
  have CD:=JO l hn h0 r;obtain⟨b,q,e,Up⟩:=a1B s hs i _ hd (a1C CD);obtain⟨na,nb⟩:=CO _ s hs i l r hl hi (uc (bP l) l l 0 λc hc=>⟨hc,h0 c hc⟩) hd;have hc:=a1q l hn h0 r;have jh:s.drop (i+(cg (bP l) l).length)=r:=mu hd;rw[Up];constructor
  · intro h1 h2 h3;have Uq:dU (cg (bP l) l++r)=7:=by
      rw[hc];cases hx:l==[45,45]with
      |false=>rfl
      |true=>rw[h3 (eq_of_beq hx)];rfl
    rw[Uq];show pK 30000 s (i:Int)=_;unfold pK;rw[na h1,ai];dsimp only;show Option.bind (eP s ((i+(cg (bP l) l).length:Nat):Int)) _=_;rw[eE,ai,show(pk s (i+(cg (bP l) l).length) 0 !=40)=!(aD (ag 40) s (i+(cg (bP l) l).length))from lQ s _ 0 40 (by omega),eF,jh,h2];rfl
  · intro j hj;have hk:=Un (Um _) (by rw[hc];cases l==[45,45]<;>cases t1 (ag 62) r<;>decide) hj (λh8=>by rw[e]at h8;exact Uo h8);have h7:=hk.2.1 (Or.inl rfl);rw[h7]at hj;rcases Ul hj with⟨_,w,hw,FJ,ht⟩|h|h|h
    · have TS:l=w:=by injection ht
      subst TS;obtain⟨n1,n2⟩:=nb j hw;have n2:j=((i+(cg (bP l) l).length:Nat):Int):=n2;refine⟨n1,?_,?_,n2⟩
      · cases hx:t1 (ag 40) r with
        |false=>rfl
        |true=>
          rw[n2]at FJ;exact absurd ((afS s _).2 (by rw[jh];exact hx)) FJ
      · intro ma;rw[hc,ma]at h7;cases hx:t1 (ag 62) r with
        |false=>rfl
        |true=>rw[hx]at h7;cases h7
    · cases h
    · cases h
    · cases h
def jj(s:J):Bool:=tU 30000 s [117,114,108]==some true
def mv(r:J):Bool:=t1 (ag 34) r||t1 (ag 32) r&&t1 (ag 34) (r.drop 1)
theorem Ur(s:J)(hs:s.length≤20000):tU 30000 s [117,114,108]=some (jj s)∧rS 30000 s [117,114,108]=some (jj s):=by
  obtain⟨r,h1,h2⟩:=a0S 30000 s [117,114,108] (by omega) (by simp) (by omega) (by simp);have:jj s=r:=by
    unfold jj;rw[h2];cases r<;>rfl
  rw[h1,h2,this];exact⟨rfl,rfl⟩
theorem JW:bw 34=false∧bw 32=true:=by constructor<;>kernel_rfl
theorem afT(s:J)(hs:s.length≤5000)(i:Int)(l:J)(a:Nat)(ha:a<10000)(hl:l.length≤5000)(hN:jU 30000 s i=some (l,(a:Int)))(FJ:t1 (ag 40) (s.drop a)=true)
    (hu:jj l=true→∃k:Nat,jT 30000 s ((a+1:Nat):Int)=some (k:Int)∧t1 (ag 34) (s.drop k)=true):pK 30000 s i=some (⟨2,l,0,[],false⟩,((a+1:Nat):Int)):=by
  unfold pK;rw[hN,ai];dsimp only;rw[eE,ai,show(pk s a 0 !=40)=!(aD (ag 40) s a)from lQ s a 0 40 (by omega),eF,FJ,dK,ae,(Ur l (by omega)).1,ai,br (by omega)];cases hx:jj l with
  |false=>rw[ae,ai,mU]
  |true=>
    obtain⟨k,h1,h2⟩:=hu hx;rw[af,h1,ai,eE,ai,show(pk s k 0 !=34)=!(aD (ag 34) s k)from lQ s k 0 34 (by omega),eF,h2,dK,ae,ae,ai,mU]
theorem a1D{r:J}(h:t1 (ag 34) r=true):t1 bw r=false:=by
  cases r with
  |nil=>rfl
  |cons x r=>
    have:x=34:=UInt8.toNat_inj.1 (eq_of_beq h);rw[this];exact JW.1
theorem rd2(s:J)(hs:s.length≤5000)(i:Nat)(hi:i≤s.length)(l r:J)(hl:l.length≤5000)(hn:l≠[])(h0:∀c∈l,0<c.toNat)(hd:s.drop i=cg (bP l) l++40::r)(hu:jj l=true→mv r=true):
    fh 30000 s (i:Int)=some (⟨2,l,0,[],false⟩,((i+(cg (bP l) l++[40]).length:Nat):Int)):=by
  have CD:=JO l hn h0 (40::r);obtain⟨b,q,e,Up⟩:=a1B s hs i _ hd (a1C CD);obtain⟨na,nb⟩:=CO _ s hs i l (40::r) hl hi (uc (bP l) l l 0 λc hc=>⟨hc,h0 c hc⟩) hd;have hc:=a1q l hn h0 (40::r);have jh:s.drop (i+(cg (bP l) l).length)=40::r:=mu hd;have aM:=gj jh;have NX:=jg jh;have Uq:dU (cg (bP l) l++40::r)=7:=by
    rw[hc];cases hx:l==[45,45]with
    |false=>rfl
    |true=>rfl
  have hN:=na (by kernel_rfl);have hle:i+(cg (bP l) l++[40]).length=i+(cg (bP l) l).length+1:=by rw[bB];rfl
  rw[Up,Uq,hle];refine afT s hs i l (i+(cg (bP l) l).length) (by omega) hl hN (by rw[jh];rfl) λhx=>?_;have hq:=hu hx;unfold mv at hq;cases FO:t1 (ag 34) r with
  |true=>exact⟨_,Ug s (by omega) _ (by rw[NX];exact a1D FO),by rw[NX];exact FO⟩
  |false=>
    rw[FO,gr,Bool.and_eq_true]at hq;cases r with
    |nil=>cases hq.1
    |cons x r=>
      have xk:x=32:=UInt8.toNat_inj.1 (eq_of_beq hq.1);subst xk;have a1E:=jg NX;have a1F:t1 (ag 34) r=true:=hq.2;exact⟨_,a1s s (by omega) _ (by rw[NX];exact JW.2) (by rw[a1E];exact a1D a1F),by rw[a1E];exact a1F⟩
theorem a1G{b:UInt8}{r:J}(h:b≠45):kA (b::r)=false:=by
  unfold kA;split
  · rename_i h1;simp at h1;exact absurd h1.1 h
  · rfl
theorem a1H{b:UInt8}{r:J}(h:b≠60):lS (b::r)=false:=by
  unfold lS;split
  · rename_i h1;simp at h1;exact absurd h1.1 h
  · rfl
theorem rd3(s:J)(hs:s.length≤5000)(i:Nat)(hi:i≤s.length)(l r:J)(hl:l.length≤5000)(hn:l≠[])(h0:∀c∈l,0<c.toNat)(hd:s.drop i=64::(cg (bP l) l++r)):
    (eW r=true→fh 30000 s (i:Int)=some (⟨3,l,0,[],false⟩,((i+(64::cg (bP l) l).length:Nat):Int)))∧
    (∀j,fh 30000 s (i:Int)=some (⟨3,l,0,[],false⟩,j)→eW r=true∧j=((i+(64::cg (bP l) l).length:Nat):Int)):=by
  have CD:=JO l hn h0 r;have dL:=jg hd;have aM:=gj hd;obtain⟨na,nb⟩:=CO _ s hs (i+1) l r hl (by omega) (uc (bP l) l l 0 λc hc=>⟨hc,h0 c hc⟩) dL;have hc6:dU (64::(cg (bP l) l++r))=6:=by
    unfold dU;have e6:r9 (64::(cg (bP l) l++r))=true:=by
      show cond true (du (cg (bP l) l++r)) false=true;rw[CD];rfl
    rw[e6,a1G (by decide),a1H (by decide)];have e1:bw 64=false:=by kernel_rfl
    show cond (bw 64) 0 _=6;rw[e1];rfl
  have hle:i+1+(bR (fM (bP l) l) 0 l).length=i+(64::cg (bP l) l).length:=by
    rw[aZ];show i+1+(cg (bP l) l).length=_;omega
  rw[mX s hs i _ _ hd,hc6];rw[hle]at na nb;constructor
  · intro h;show Option.bind (jU 30000 s ((i+1:Nat):Int)) _=_;rw[na h];rfl
  · intro j hj;obtain⟨⟨w,z⟩,hw,hj⟩:=eQ hj;injection hj with hj;injection hj with h1 h2;injection h1 with _ h1;dsimp only at h1 h2;subst h1 h2;exact nb z hw
theorem a1I:((List.range 256).all λn=>(!(aK (UInt8.ofNat n))||(!(cB (UInt8.ofNat n))&&(!(ag 45 (UInt8.ofNat n))&&(!(ag 92 (UInt8.ofNat n))&&(dc (UInt8.ofNat n)&&fa (n:Int))))))&&(!(cB (UInt8.ofNat n))||dc (UInt8.ofNat n)))=true:=by kernel_rfl
theorem Us{c:UInt8}(h:aK c=true):cB c=false∧ag 45 c=false∧ag 92 c=false∧dc c=true∧fa (c.toNat:Int)=true:=by
  have h1:=iw (p:=λn=>(!(aK (UInt8.ofNat n))||(!(cB (UInt8.ofNat n))&&(!(ag 45 (UInt8.ofNat n))&&(!(ag 92 (UInt8.ofNat n))&&(dc (UInt8.ofNat n)&&fa (n:Int))))))&&(!(cB (UInt8.ofNat n))||dc (UInt8.ofNat n))) a1I c;rw[UInt8.ofNat_toNat,h,dK,gr]at h1;simp only[Bool.and_eq_true,Bool.not_eq_true']at h1;exact h1.1
theorem afU{c:UInt8}(h:cB c=true):dc c=true:=by
  have h1:=iw (p:=λn=>(!(aK (UInt8.ofNat n))||(!(cB (UInt8.ofNat n))&&(!(ag 45 (UInt8.ofNat n))&&(!(ag 92 (UInt8.ofNat n))&&(dc (UInt8.ofNat n)&&fa (n:Int))))))&&(!(cB (UInt8.ofNat n))||dc (UInt8.ofNat n))) a1I c;rw[UInt8.ofNat_toNat,h,Bool.and_eq_true]at h1;simpa using h1.2
def JX(s:J):Bool:=(ub s&&!(Aa s))||s==[45]
theorem a1J{r:J}(h:eW r=true):t1 dc r=false∧gv r=false:=by
  unfold eW at h;rwa [Bool.and_eq_true,Bool.not_eq_true',Bool.not_eq_true']at h
theorem a1K{r:J}(h:eW r=true):t1 cB r=false∧t1 (ag 45) r=false∧t1 aK r=false:=by
  obtain⟨h1,h2⟩:=a1J h;cases r with
  |nil=>exact⟨rfl,rfl,rfl⟩
  |cons c r=>
    have h1:dc c=false:=h1;refine⟨?_,?_,?_⟩
    · cases hx:cB c with
      |false=>exact hx
      |true=>rw[afU hx]at h1;cases h1
    · cases hx:ag 45 c with
      |false=>exact hx
      |true=>
        have:c=45:=UInt8.toNat_inj.1 (eq_of_beq hx);rw[this]at h1;rw[show dc 45=true from by kernel_rfl]at h1;cases h1
    · cases hx:aK c with
      |false=>exact hx
      |true=>rw[(Us hx).2.2.2.1]at h1;cases h1
theorem NY{c:UInt8}{s0:J}{k:Nat}(h:fa (c.toNat:Int)=true):fM 0 s0 k c=true:=by
  unfold fM;rw[h,bC (by omega)];rfl
theorem afV(l:J)(h:JX l=true)(r:J)(hr:eW r=true):du (cg 0 l++r)=false:=by
  unfold JX at h;unfold cg;cases hx:l==[45]with
  |true=>
    rw[eq_of_beq hx,bR,NY (by kernel_rfl)];obtain⟨a1,a2,a3⟩:=a1K hr;show cond true (cond (cond (t1 cB r) true (t1 (ag 45) r)) true (gv r)) _=false;rw[a1,a2,(a1J hr).2];rfl
  |false=>
    rw[hx,Bool.or_false,Bool.and_eq_true]at h;obtain⟨h1,h2⟩:=h;cases l with
    |nil=>cases h1
    |cons c l=>
      unfold ub at h1;cases hp:A9 (c::l)with
      |false=>
        rw[hp,ae]at h1;obtain⟨d1,d2,d3,d4,d5⟩:=Us (c:=c) h1;rw[bR,NY d5];show cond (ag 45 c) _ (cond (cB c) true (cond (ag 92 c) _ false))=false;rw[d2,d1,d3];rfl
      |true=>
        rw[hp,af]at h1;have hc:c=45:=eq_of_beq hp;subst hc;cases l with
        |nil=>cases h1
        |cons d l=>
          obtain⟨d1,d2,d3,d4,d5⟩:=Us (c:=d) h1;rw[bR,NY (by kernel_rfl),bR,NY d5];show cond true (cond (cond (cB d) true (ag 45 d)) true (cond (ag 92 d) _ false)) _=false;rw[d1,d2,d3];rfl
theorem afW(f:Nat→UInt8→Bool)(l r:J)(h:pQ f dc 0 l)(hn:l≠[]):t1 dc (bR f 0 l++r)=true∨gv (bR f 0 l++r)=true:=by
  cases l with
  |nil=>exact absurd rfl hn
  |cons c l=>
    obtain⟨h1,h2,_⟩:=h;rw[bR,c7];cases hf:f 0 c with
    |true=>exact Or.inl (h1 hf)
    |false=>
      obtain⟨c0,c1⟩:=h2 hf;obtain⟨z,e1,e2⟩:=CP c (bR f (0+1) l++r) c0 c1;right;rw[ae,e1];show cond true (!(t1 (ag 10) z)) false=true;rw[e2];rfl
theorem rd4(s:J)(hs:s.length≤5000)(i:Nat)(hi:i≤s.length)(l r:J)(b:Bool)(hl:l.length≤5000)(hn:l≠[])(h0:∀c∈l,0<c.toNat)(hb:b=false→JX l=true)(hd:s.drop i=35::(cg (cond b (bP l) 0) l++r)):
    (eW r=true→fh 30000 s (i:Int)=some (⟨4,l,0,[],b⟩,((i+(35::cg (cond b (bP l) 0) l).length:Nat):Int)))∧
    (∀j,fh 30000 s (i:Int)=some (⟨4,l,0,[],b⟩,j)→eW r=true∧j=((i+(35::cg (cond b (bP l) 0) l).length:Nat):Int)):=by
  have dL:=jg hd;have aM:=gj hd;have a1L:=uc (cond b (bP l) 0) l l 0 λc hc=>⟨hc,h0 c hc⟩;obtain⟨na,nb⟩:=CO _ s hs (i+1) l r hl (by omega) a1L dL;have oe:dU (35::(cg (cond b (bP l) 0) l++r))=2:=by
    unfold dU;have e2:oR (35::(cg (cond b (bP l) 0) l++r))=true:=by
      show cond true (cond (t1 dc (cg (cond b (bP l) 0) l++r)) true (gv (cg (cond b (bP l) 0) l++r))) false=true;rcases afW _ l r a1L hn with h|h
      · rw[show t1 dc (cg (cond b (bP l) 0) l++r)=true from h];rfl
      · rw[show gv (cg (cond b (bP l) 0) l++r)=true from h];cases t1 dc (cg (cond b (bP l) 0) l++r)<;>rfl
    rw[e2];have e1:bw 35=false:=by kernel_rfl
    show cond (bw 35) 0 _=2;rw[e1];rfl
  have hle:i+1+(bR (fM (cond b (bP l) 0) l) 0 l).length=i+(35::cg (cond b (bP l) 0) l).length:=by
    rw[aZ];show i+1+(cg (cond b (bP l) 0) l).length=_;omega
  rw[mX s hs i _ _ hd,oe];rw[hle]at na nb;constructor
  · intro h;show Option.bind (jU 30000 s ((i+1:Nat):Int)) _=_;rw[na h,ai,dL];have sM:du (cg (cond b (bP l) 0) l++r)=b:=by
      cases b with
      |true=>exact JO l hn h0 r
      |false=>exact afV l (hb rfl) r h
    rw[sM]
  · intro j hj;obtain⟨⟨w,z⟩,hw,hj⟩:=eQ hj;injection hj with hj;injection hj with h1 h2;injection h1 with _ h1;dsimp only at h1 h2;subst h1 h2;exact nb z hw
theorem rd5(s:J)(hs:s.length≤5000)(i:Nat)(l r:J)(hl:l.length≤5000)(hd:s.drop i=34::(ms l++34::r)):
    fh 30000 s (i:Int)=some (⟨5,l,0,[],false⟩,((i+(34::(ms l++[34])).length:Nat):Int)):=by
  have hc:dU (34::(ms l++34::r))=1:=by
    unfold dU;show cond (bw 34) 0 _=1;rw[JW.1];rfl
  rw[mX s hs i _ _ hd,hc];exact afC s hs i l r hl hd
theorem rd7(s:J)(hs:s.length≤5000)(i:Nat)(l r:J)(hl:l.length≤5000)(h0:∀c∈l,0<c.toNat)(hd:s.drop i=[117,114,108,40]++(gX l++41::r)):
    fh 30000 s (i:Int)=some (⟨7,l,0,[],false⟩,((i+([117,114,108,40]++(gX l++[41])).length:Nat):Int)):=by
  have hc:dU ([117,114,108,40]++(gX l++41::r))=7:=by
    have afX:Hd 117∧cB 117=true:=⟨a1l (by kernel_rfl),by kernel_rfl⟩;obtain⟨hh,hf⟩:=afX;show dU (117::([114,108,40]++(gX l++41::r)))=7;unfold dU;have n3:ji (117::([114,108,40]++(gX l++41::r)))=false:=rfl;have n7:du (117::([114,108,40]++(gX l++41::r)))=true:=by
      show cond (ag 45 117) _ (cond (cB 117) true _)=true;rw[hh.u9,hf];rfl
    rw[n3,n7];show cond (bw 117) 0 _=7;rw[hh.sp];rfl
  have mA:s.drop i=117::([114,108,40]++(gX l++41::r)):=hd;rw[mX s hs i _ _ mA];rw[show(117::([114,108,40]++(gX l++41::r)):J)=[117,114,108,40]++(gX l++41::r)from rfl,hc];exact afE s hs i l r hl h0 hd
theorem a1M{T:J}(h:dU T=1):t1 eG T=true:=by
  unfold dU at h
  revert h
  cases t1 bw T<;>cases t1 eG T<;>cases oR T<;>cases ji T<;>cases kA T<;>cases lS T<;>cases r9 T<;>cases du T<;>cases t1 jY T<;>decide
theorem rd9(s:J)(hs:s.length≤5000)(i:Nat)(c:UInt8)(r:J)(hq:eG c=false)(hd:s.drop i=c::r):
    (dU (c::r)=9→fh 30000 s (i:Int)=some (⟨9,[c],0,[],false⟩,((i+1:Nat):Int)))∧
    (∀j,fh 30000 s (i:Int)=some (⟨9,[c],0,[],false⟩,j)→dU (c::r)=9∧j=((i+1:Nat):Int)):=by
  rw[mX s hs i _ _ hd];constructor
  · intro h;rw[h];rfl
  · intro j hj;have h9:=(Un (Um _) (λh=>by have:=a1M h;rw[show t1 eG (c::r)=eG c from rfl,hq]at this;cases this) hj Uo).1 rfl;rw[h9]at hj;injection hj with hj;injection hj with _ hj;exact⟨h9,hj.symm⟩
theorem a1N{w:J}{n:Int}{b:Bool}(h:ra w n (!b))(s:J)(hs:s.length≤5000)(i:Nat)(hi:i≤s.length)(r:J)(hd:s.drop i=w++r):
    ((nE (!b) r).1=0→du r=false→t1 (ag 37) r=false→fh 30000 s (i:Int)=some (⟨10,[],n,[],b⟩,((i+w.length:Nat):Int)))∧
    (∀m j,fh 30000 s (i:Int)=some (⟨10,[],m,[],b⟩,j)→(nE (!b) r).2=b∧du (r.drop (nE (!b) r).1)=false∧t1 (ag 37) (r.drop (nE (!b) r).1)=false∧j=((i+w.length+(nE (!b) r).1:Nat):Int)):=by
  obtain⟨b0,q,e,_⟩:=h.hd;have mA:s.drop i=b0::(q++r):=by rw[hd,e];rfl
  obtain⟨p1,p2,p3,p4⟩:=JU h s hs i hi r hd (nE (!b) r).1 (nE (!b) r).2 rfl;rw[mX s hs i _ _ mA];have hc:=JT h r;rw[e]at hc;rw[show(b0::(q++r):J)=b0::q++r from rfl,hc];show(_→_→_→mo 30000 s (i:Int)=_)∧(∀m j,mo 30000 s (i:Int)=_→_);rw[p4];constructor
  · intro h1 h2 h3;have hw:=NV h1;rw[p3 h1,h.val,ai,h1,fG,h2,ae,h3,ae,hw];simp
  · intro m j hj;obtain⟨v,hv,hj⟩:=eQ hj;rcases gJ hj with⟨_,hj⟩|⟨h1,hj⟩
    · obtain⟨x,_,hj⟩:=eQ hj;injection hj with hj;injection hj with hj _;injection hj with hj;cases hj
    · rcases gJ hj with⟨_,hj⟩|⟨h2,hj⟩
      · injection hj with hj;injection hj with hj _;injection hj with hj;cases hj
      · injection hj with hj;injection hj with hj lB;injection hj with _ _ _ _ hj;exact⟨hj,h1,h2,lB.symm⟩
theorem afY{w:J}{n:Int}{b:Bool}(h:ra w n (!b))(s:J)(hs:s.length≤5000)(i:Nat)(hi:i≤s.length)(r:J)(hd:s.drop i=w++r)(hz:(nE (!b) r).1=0)(t:aq)(j:Int)(hj:fh 30000 s (i:Int)=some (t,j)):t.bu=n:=by
  obtain⟨b0,q,e,_⟩:=h.hd;have mA:s.drop i=b0::(q++r):=by rw[hd,e];rfl
  obtain⟨p1,p2,p3,p4⟩:=JU h s hs i hi r hd (nE (!b) r).1 (nE (!b) r).2 rfl;rw[mX s hs i _ _ mA]at hj;have hc:=JT h r;rw[e]at hc;rw[show(b0::(q++r):J)=b0::q++r from rfl,hc]at hj;have hj:mo 30000 s (i:Int)=some (t,j):=hj;rw[p4,p3 hz,h.val,ai]at hj;rcases gJ hj with⟨_,hj⟩|⟨h1,hj⟩
  · obtain⟨x,_,hj⟩:=eQ hj;injection hj with hj;injection hj with hj _;rw[←hj]
  · rcases gJ hj with⟨_,hj⟩|⟨h2,hj⟩
    · injection hj with hj;injection hj with hj _;rw[←hj]
    · injection hj with hj;injection hj with hj _;rw[←hj]
theorem afZ{w:J}{n:Int}{fr:Bool}(h:ra w n fr)(s:J)(hs:s.length≤5000)(i:Nat)(hi:i≤s.length)(r:J)(hd:s.drop i=w++37::r):
    fh 30000 s (i:Int)=some (⟨11,[],n,[],false⟩,((i+(w++[37]).length:Nat):Int)):=by
  obtain⟨b0,q,e,_⟩:=h.hd;have mA:s.drop i=b0::(q++37::r):=by rw[hd,e];rfl
  have h0:(nE fr (37::r)).1=0:=JV rfl (Or.inr (Or.inl rfl)) rfl;obtain⟨p1,p2,p3,p4⟩:=JU h s hs i hi (37::r) hd 0 (!fr) (NV h0);rw[mX s hs i _ _ mA];have hc:=JT h (37::r);rw[e]at hc;rw[show(b0::(q++37::r):J)=b0::q++37::r from rfl,hc];show mo 30000 s (i:Int)=_;have hn:du (37::r)=false:=by
    show cond (ag 45 37) _ (cond (cB 37) true (cond (ag 92 37) _ false))=false;rw[show cB 37=false from by kernel_rfl];rfl
  rw[p4,p3 rfl,h.val,ai,fG,hn,ae,show t1 (ag 37) (37::r)=true from rfl,af,bB];rfl
theorem a1O{w:J}{n:Int}{b:Bool}(h:ra w n (!b))(s:J)(hs:s.length≤5000)(i:Nat)(hi:i≤s.length)(u r:J)(hu:u≠[])(JY:u.length≤5000)(h0:∀c∈u,0<c.toNat)(hd:s.drop i=w++(bX u++r)):
    (eW r=true→de (bX u++r)=0→fh 30000 s (i:Int)=some (⟨12,[],n,u,b⟩,((i+(w++bX u).length:Nat):Int)))∧
    (∀m j,fh 30000 s (i:Int)=some (⟨12,[],m,u,b⟩,j)→de (bX u++r)=0→eW r=true∧j=((i+(w++bX u).length:Nat):Int))∧
    (∀m j,fh 30000 s (i:Int)=some (⟨12,[],m,u,b⟩,j)→du ((bX u++r).drop (de (bX u++r)))=true∧jU 30000 s ((i+w.length+de (bX u++r):Nat):Int)=some (u,j)):=by
  obtain⟨b0,q,e,_⟩:=h.hd;have mA:s.drop i=b0::(q++(bX u++r)):=by rw[hd,e];rfl
  obtain⟨k1,k2⟩:=afM (!b) u hu h0 r;obtain⟨p1,p2,p3,p4⟩:=JU h s hs i hi (bX u++r) hd (nE (!b) (bX u++r)).1 (nE (!b) (bX u++r)).2 rfl;obtain⟨f,f1,f2⟩:=Uk u h0;obtain⟨n1,n2,n3⟩:=FQ u hu h0 r;rw[mX s hs i _ _ mA];have hc:=JT h (bX u++r);rw[e]at hc;rw[show(b0::(q++(bX u++r)):J)=b0::q++(bX u++r)from rfl,hc];show(_→_→mo 30000 s (i:Int)=_)∧(∀m j,mo 30000 s (i:Int)=_→_)∧(∀m j,mo 30000 s (i:Int)=_→_);rw[p4,k1];have hdw:s.drop (i+w.length)=bX u++r:=mu hd;have hle:=sD hi hd;have uw:=CO f s hs (i+w.length) u r JY (by omega) f2 (by rw[hdw,f1]);rw[←f1]at uw;have hlen:i+(w++bX u).length=i+w.length+(bX u).length:=by rw[bB];omega
  rw[hlen];refine⟨λh1 h2=>?_,λm j hj h2=>?_,λm j hj=>?_⟩
  · have hz:(nE (!b) (bX u++r)).1=0:=by rw[k1,h2]
    have hw:=NV hz;have p3':=p3 hz;rw[k1,h2]at p3';rw[h2,p3',h.val,ai,fG,n1,af,Nat.add_zero,uw.1 h1,hw];simp
  · rw[h2]at hj;obtain⟨v,hv,hj⟩:=eQ hj;rw[fG,n1,af,Nat.add_zero]at hj;obtain⟨⟨x,z⟩,hx,hj⟩:=eQ hj;injection hj with hj;injection hj with hj lB;injection hj with _ _ _ hj;dsimp only at hj lB;subst hj lB;exact uw.2 _ hx
  · obtain⟨v,hv,hj⟩:=eQ hj;rcases gJ hj with⟨h1,hj⟩|⟨h1,hj⟩
    · obtain⟨⟨x,z⟩,hx,hj⟩:=eQ hj;injection hj with hj;injection hj with hj lB;injection hj with _ _ _ hj;dsimp only at hj lB;subst hj lB;exact⟨h1,hx⟩
    · rcases gJ hj with⟨_,hj⟩|⟨h2,hj⟩
      · injection hj with hj;injection hj with hj _;injection hj with hj;cases hj
      · injection hj with hj;injection hj with hj _;injection hj with hj;cases hj
theorem a1P{T:J}(h:t1 bw T=true):dU T=0:=by unfold dU;rw[h];rfl
theorem Ut(s:J)(hs:s.length≤5000)(i:Nat)(c:UInt8)(r:J)(hc:bw c=true)(hd:s.drop i=c::r):
    (t1 bw r=false→fh 30000 s (i:Int)=some (⟨13,[],0,[],false⟩,((i+1:Nat):Int)))∧
    (t1 bw r=true→∀t j,fh 30000 s (i:Int)=some (t,j)→jT 30000 s (i:Int)=some j):=by
  rw[mX s hs i _ _ hd,a1P (T:=c::r) hc];show(_→Option.bind (jT 30000 s (i:Int)) _=_)∧(_→∀t j,Option.bind (jT 30000 s (i:Int)) _=_→_);constructor
  · intro h;rw[a1s s (by omega) i (by rw[hd];exact hc) (by rw[jg hd];exact h)];rfl
  · intro h t j hj;obtain⟨x,hx,hj⟩:=eQ hj;injection hj with hj;injection hj with _ hj;rw[←hj];exact hx
theorem ag0(s:J)(hs:s.length≤5000)(i:Nat)(r:J)(hd:s.drop i=[60,33,45,45]++r):fh 30000 s (i:Int)=some (⟨14,[],0,[],false⟩,((i+4:Nat):Int)):=by
  have mA:s.drop i=60::([33,45,45]++r):=hd;have hc:dU (60::([33,45,45]++r))=5:=by
    unfold dU;show cond (bw 60) 0 _=5;rw[show bw 60=false from by kernel_rfl];rfl
  rw[mX s hs i _ _ mA,hc];rfl
theorem ag1(s:J)(hs:s.length≤5000)(i:Nat)(r:J)(hd:s.drop i=[45,45,62]++r):fh 30000 s (i:Int)=some (⟨15,[],0,[],false⟩,((i+3:Nat):Int)):=by
  have mA:s.drop i=45::([45,62]++r):=hd;have hc:dU (45::([45,62]++r))=4:=by
    unfold dU;show cond (bw 45) 0 _=4;rw[show bw 45=false from by kernel_rfl];rfl
  rw[mX s hs i _ _ mA,hc];rfl
theorem ag2:((List.range 256).all λn=>!(jY (UInt8.ofNat n))||(!(bw (UInt8.ofNat n))&&(!(eG (UInt8.ofNat n))&&(!(ag 35 (UInt8.ofNat n))&&(!(bp (UInt8.ofNat n))&&(!(ag 46 (UInt8.ofNat n))&&(!(aK (UInt8.ofNat n))&&(!(ag 45 (UInt8.ofNat n))&&(!(ag 60 (UInt8.ofNat n))&&(!(ag 64 (UInt8.ofNat n))&&(!(ag 92 (UInt8.ofNat n))&&(!(cB (UInt8.ofNat n))&&!(ag 47 (UInt8.ofNat n))))))))))))))=true:=by kernel_rfl
theorem ag3(c:UInt8)(r:J)(h:jY c=true):dU (c::r)=8:=by
  have h1:=iw (p:=λn=>!(jY (UInt8.ofNat n))||(!(bw (UInt8.ofNat n))&&(!(eG (UInt8.ofNat n))&&(!(ag 35 (UInt8.ofNat n))&&(!(bp (UInt8.ofNat n))&&(!(ag 46 (UInt8.ofNat n))&&(!(aK (UInt8.ofNat n))&&(!(ag 45 (UInt8.ofNat n))&&(!(ag 60 (UInt8.ofNat n))&&(!(ag 64 (UInt8.ofNat n))&&(!(ag 92 (UInt8.ofNat n))&&(!(cB (UInt8.ofNat n))&&!(ag 47 (UInt8.ofNat n)))))))))))))) ag2 c;rw[UInt8.ofNat_toNat,h,dK,gr]at h1;simp only[Bool.and_eq_true,Bool.not_eq_true']at h1;obtain⟨a1,a2,a3,a4,a5,a6,a7,a8,a9,Ua,Ub,a12⟩:=h1;have e1:oR (c::r)=false:=by
    show cond (ag 35 c) _ false=false;rw[a3];rfl
  have e2:ji (c::r)=false:=by
    unfold ji vZ;rw[show t1 bp (c::r)=bp c from rfl,a4,ae,show t1 (ag 46) (c::r)=ag 46 c from rfl,a5];exact a6
  have e3:kA (c::r)=false:=a1G (λhc=>by rw[hc]at a7;cases a7);have e4:lS (c::r)=false:=a1H (λhc=>by rw[hc]at a8;cases a8);have e5:r9 (c::r)=false:=by
    show cond (ag 64 c) _ false=false;rw[a9];rfl
  have e6:du (c::r)=false:=by
    show cond (ag 45 c) _ (cond (cB c) true (cond (ag 92 c) _ false))=false;rw[a7,Ub,Ua];rfl
  unfold dU;rw[e1,e2,e3,e4,e5,e6];show cond (bw c) 0 (cond (eG c) 1 (cond (jY c) 8 9))=8;rw[a1,a2,h];rfl
theorem ag4(s:J)(hs:s.length≤5000)(i:Nat)(c:UInt8)(r:J)(h:jY c=true)(hd:s.drop i=c::r):fh 30000 s (i:Int)=some (⟨ia (c.toNat:Int),[],0,[],false⟩,((i+1:Nat):Int)):=by
  rw[mX s hs i _ _ hd,ag3 c r h];rfl
def oT(c:UInt8):Bool:=!(c==0)&&((!(fa (c.toNat:Int))||c==45)&&!([32,9,10,12,13,34,39,58,59,44,91,93,40,41,123,125].contains c))
inductive Fi:aq→Prop
  |nm (k:Int) (s:J) (hk:k=1∨k=2∨k=3) (h:s≠[]) (h0:∀c∈s,0<c.toNat):Fi ⟨k,s,0,[],false⟩
  |hash (s:J) (b:Bool) (h:s≠[]) (h0:∀c∈s,0<c.toNat) (hb:b=false→JX s=true):Fi ⟨4,s,0,[],b⟩
  |st (k:Int) (s:J) (hk:k=5∨k=7) (h0:∀c∈s,0<c.toNat):Fi ⟨k,s,0,[],false⟩
  |del (c:UInt8) (hc:oT c=true):Fi ⟨9,[c],0,[],false⟩
  |num (n:Int) (b:Bool) (h1:-1000000000000≤n) (h2:n≤1000000000000) (h3:b=true→n.natAbs%1000=0):Fi ⟨10,[],n,[],b⟩
  |mw (n:Int) (h1:-1000000000000≤n) (h2:n≤1000000000000):Fi ⟨11,[],n,[],false⟩
  |jZ (n:Int) (b:Bool) (u:J) (h1:-1000000000000≤n) (h2:n≤1000000000000) (h3:b=true→n.natAbs%1000=0) (hu:u≠[]) (h0:∀c∈u,0<c.toNat):Fi ⟨12,[],n,u,b⟩
  |mk (k:Int) (h1:13≤k) (h2:k≤24):Fi ⟨k,[],0,[],false⟩
def df:aq:=⟨13,[],0,[],false⟩
def okB(t:aq)(r:J):Bool:=
  cond (t.ah==1) (eW r&&(!(t1 (ag 40) r)&&!(t.az==[45,45]&&t1 (ag 62) r)))
  (cond (t.ah==2) (!(jj t.az)||mv r)
  (cond (t.ah==3||t.ah==4) (eW r)
  (cond (t.ah==9) (Nat.beq (dU (t.az++r)) 9&&!(t.az==[47]&&t1 (ag 42) r))
  (cond (t.ah==10) (Nat.beq (nE (!t.bS) r).1 0&&(!(du r)&&!(t1 (ag 37) r)))
  (cond (t.ah==12) (eW r&&Nat.beq (de (bX t.Unit++r)) 0)
  (cond (t.ah==13) (!(t1 bw r)) true))))))
def fN(t:aq):J:=cond (t.ah==11) [37] (cond (t.ah==12) (bX t.Unit) [])
theorem NZ(n:Nat)(h:13≤n):fv ⟨(n:Int),[],0,[],false⟩=nX (n:Int):=by
  unfold fv;dsimp only;rw[show((n:Int)==1)=false from bE.2 (by omega),show((n:Int)==2)=false from bE.2 (by omega),show((n:Int)==3)=false from bE.2 (by omega),show((n:Int)==4)=false from bE.2 (by omega),show((n:Int)==5)=false from bE.2 (by omega),show((n:Int)==7)=false from bE.2 (by omega),show((n:Int)==9)=false from bE.2 (by omega),show((n:Int)==10)=false from bE.2 (by omega),show((n:Int)==11)=false from bE.2 (by omega),show((n:Int)==12)=false from bE.2 (by omega)];rfl
theorem Uu{k:Int}{r:J}(h:13≤k)(h2:k≠13):okB ⟨k,[],0,[],false⟩ r=true:=by
  unfold okB;dsimp only;rw[show(k==1)=false from bE.2 (by omega),show(k==2)=false from bE.2 (by omega),show(k==3)=false from bE.2 (by omega),show(k==4)=false from bE.2 (by omega),show(k==9)=false from bE.2 (by omega),show(k==10)=false from bE.2 (by omega),show(k==12)=false from bE.2 (by omega),show(k==13)=false from bE.2 (by omega)];rfl
def Wt(t:aq)(w:J):Prop:=w=fv t∨(t=df∧w=[10])∨((t.ah=10∨t.ah=11∨t.ah=12)∧∃q,w=46::q∧fv t=48::w)
theorem ag5(n:Int)(pt:Bool)(h1:-1000000000000≤n)(h2:n≤1000000000000)(q x:J)(h:fV n pt++x=48::46::q)(hx:t1 (ag 46) x=false):∃D2,fV n pt=48::46::D2∧ra (46::D2) n true∧(!(ez (n.natAbs%1000) pt).isEmpty)=true:=by
  obtain⟨D2,hN⟩:=JI n pt h1 h2;have e:fV n pt=fU n++(Lib.decDigits (n.natAbs/1000)++ez (n.natAbs%1000) pt):=rfl;have hs:fU n=[]:=by
    rcases hN.hs with hs|hs
    · exact hs
    · rw[e,hs]at h;injection h with h;cases h
  obtain⟨a,b,ha,hb⟩:=a14 (n.natAbs/1000);have dL:=hN.dL;have hv:=hN.hv;rw[e,hs,ha]at h;injection h with h3 h4;have DV:b=[]:=by
    cases b with
    |nil=>rfl
    |cons c b=>
      have h4:c::(b++ez (n.natAbs%1000) pt++x)=46::q:=h4;injection h4 with h4;have:=dL c (by rw[ha];simp);rw[h4]at this;cases this
  subst DV;subst h3;have h4:ez (n.natAbs%1000) pt++x=46::q:=h4;rw[ha]at hv;have hv0:n.natAbs/1000=0:=by
    rw[←hv];rfl
  have DB:0≤n:=by
    unfold fU at hs;by_cases aM:n<0
    · rw[bC aM]at hs;cases hs
    · omega
  rcases hN.hF with⟨hF,_⟩|⟨hF,hD⟩
  · rw[hF,List.nil_append]at h4;rw[h4]at hx;cases hx
  · refine⟨D2,by rw[e,hs,ha,hF];rfl,?_,by rw[hF];rfl⟩;have:=a1v D2 hN.dw hD hN.h3 n.natAbs (by omega) (by rw[hN.hf];omega);rwa [show((n.natAbs:Nat):Int)=n from by omega]at this
theorem a1Q(n:Int)(b:Bool)(h3:b=true→n.natAbs%1000=0):(!(ez (n.natAbs%1000) (!b)).isEmpty)=!b:=by
  cases b with
  |true=>rw[h3 rfl];rfl
  |false=>
    unfold ez;cases Nat.beq (n.natAbs%1000) 0<;>rfl
theorem w8(t:aq)(hF:Fi t)(w:J)(hw:Wt t w)(hk:t.ah=10∨t.ah=11∨t.ah=12):∃w' fr,ra w' t.bu fr∧w=w'++fN t∧(t.ah≠11→fr=!t.bS):=by
  have main:∀(n:Int)(pt:Bool)(tl:J),-1000000000000≤n→n≤1000000000000→t1 (ag 46) tl=false→(w=fV n pt++tl∨∃q,w=46::q∧fV n pt++tl=48::w)→
      ∃w',ra w' n (!(ez (n.natAbs%1000) pt).isEmpty)∧w=w'++tl:=by
    intro n pt tl h1 h2 Uv h;rcases h with h|⟨q,h3,h4⟩
    · exact⟨_,afH n pt h1 h2,h⟩
    · rw[h3]at h4;obtain⟨D2,e1,e2,e3⟩:=ag5 n pt h1 h2 q tl h4 Uv;refine⟨46::D2,by rw[e3];exact e2,?_⟩;rw[e1]at h4;injection h4 with _ h4;rw[h3];exact h4.symm
  have iK:t≠df:=by intro h;rw[h]at hk;rcases hk with h|h|h<;>cases h
  cases hF with
  |nm k s dq h h0=>rcases dq with rfl|rfl|rfl<;>(rcases hk with h|h|h<;>cases h)
  |hash s b h h0 hb=>rcases hk with h|h|h<;>cases h
  |st k s dq h0=>rcases dq with rfl|rfl<;>(rcases hk with h|h|h<;>cases h)
  |del c hc=>rcases hk with h|h|h<;>cases h
  |mk k h1 h2=>dsimp only at hk;omega
  |num n b h1 h2 h3=>
    have Aw:w=fV n (!b)++[]∨∃q,w=46::q∧fV n (!b)++[]=48::w:=by
      rw[List.append_nil];rcases hw with h|⟨h,_⟩|⟨_,q,h4,h5⟩
      · exact Or.inl h
      · exact absurd h iK
      · exact Or.inr ⟨q,h4,h5⟩
    obtain⟨w',a,b2⟩:=main n (!b) [] h1 h2 rfl Aw;exact⟨w',_,a,b2,λ_=>a1Q n b h3⟩
  |mw n h1 h2=>
    have Aw:w=fV n false++[37]∨∃q,w=46::q∧fV n false++[37]=48::w:=by
      rcases hw with h|⟨h,_⟩|⟨_,q,h4,h5⟩
      · exact Or.inl h
      · exact absurd h iK
      · exact Or.inr ⟨q,h4,h5⟩
    obtain⟨w',a,b2⟩:=main n false [37] h1 h2 rfl Aw;exact⟨w',_,a,b2,λh=>absurd rfl h⟩
  |jZ n b u h1 h2 h3 hu h0=>
    have Aw:w=fV n (!b)++bX u∨∃q,w=46::q∧fV n (!b)++bX u=48::w:=by
      rcases hw with h|⟨h,_⟩|⟨_,q,h4,h5⟩
      · exact Or.inl h
      · exact absurd h iK
      · exact Or.inr ⟨q,h4,h5⟩
    have fL:=(FQ u hu h0 []).2.2;rw[List.append_nil]at fL;obtain⟨w',a,b2⟩:=main n (!b) (bX u) h1 h2 fL Aw;exact⟨w',_,a,b2,λ_=>a1Q n b h3⟩
theorem mY{t:aq}{w:J}(h:Wt t w)(h1:t≠df)(h2:¬(t.ah=10∨t.ah=11∨t.ah=12)):w=fv t:=by
  rcases h with h|⟨h,_⟩|⟨h,_⟩
  · exact h
  · exact absurd h h1
  · exact absurd h h2
theorem ag6:((List.range 25).all λn=>Nat.blt n 16||(match nX n with
  |[c]=>jY c&&ia (c.toNat:Int)==(n:Int)
  |_=>false))=true:=by kernel_rfl
theorem Uw{n:Nat}(h1:16≤n)(h2:n≤24):∃c,nX n=[c]∧jY c=true∧ia (c.toNat:Int)=(n:Int):=by
  have h:=lj (p:=λn=>Nat.blt n 16||(match nX n with
    |[c]=>jY c&&ia (c.toNat:Int)==(n:Int)
    |_=>false)) ag6 (n:=n) (by omega)
  rw[show Nat.blt n 16=false from by rw[Bool.eq_false_iff];intro hb;have:=Nat.le_of_ble_eq_true hb;omega,gr]at h
  revert h
  cases nX n with
  |nil=>intro h;cases h
  |cons c q=>
    cases q with
    |cons d q=>intro h;cases h
    |nil=>
      intro h;have h:(jY c&&ia (c.toNat:Int)==(n:Int))=true:=h;rw[Bool.and_eq_true,beq_iff_eq]at h;exact⟨c,rfl,h.1,h.2⟩
theorem ag7:((List.range 256).all λn=>!(oT (UInt8.ofNat n))||(!(eG (UInt8.ofNat n))&&!(bw (UInt8.ofNat n))))=true:=by kernel_rfl
theorem a1R{c:UInt8}(h:oT c=true):eG c=false∧bw c=false:=by
  have h1:=iw (p:=λn=>!(oT (UInt8.ofNat n))||(!(eG (UInt8.ofNat n))&&!(bw (UInt8.ofNat n)))) ag7 c;rw[UInt8.ofNat_toNat,h,dK,gr]at h1;simpa only[Bool.and_eq_true,Bool.not_eq_true']using h1
structure CS(t:aq):Prop where
  tl:t.az.length≤4500
  ul:t.Unit.length≤4500
theorem Ux(t:aq)(hF:Fi t)(hL:CS t)(w:J)(hw:Wt t w)(s:J)(hs:s.length≤5000)(i:Nat)(hi:i≤s.length)(r:J)(hd:s.drop i=w++r)(bQ:okB t r=true):fh 30000 s (i:Int)=some (t,((i+w.length:Nat):Int)):=by
  have ht:=hL.tl;have JY:=hL.ul;cases hF with
  |nm k l hk h h0=>
    dsimp only at ht;have gK:=mY hw (by rcases hk with rfl|rfl|rfl<;>(intro hh;injection hh with hh;cases hh)) (by dsimp only;omega);subst gK;rcases hk with rfl|rfl|rfl
    · have bQ:(eW r&&(!(t1 (ag 40) r)&&!(l==[45,45]&&t1 (ag 62) r)))=true:=bQ;rw[Bool.and_eq_true,Bool.and_eq_true,Bool.not_eq_true',Bool.not_eq_true']at bQ;refine(rd1 s hs i hi l r (by omega) h h0 hd).1 bQ.1 bQ.2.1 λhl=>?_;have h3:=bQ.2.2;rw[hl]at h3;exact h3
    · have hd:s.drop i=cg (bP l) l++40::r:=by
        rw[hd];show(cg (bP l) l++[40])++r=_;rw[c7];rfl
      have bQ:(!(jj l)||mv r)=true:=bQ;exact rd2 s hs i hi l r (by omega) h h0 hd λhu=>by rw[hu]at bQ;exact bQ
    · exact(rd3 s hs i hi l r (by omega) h h0 hd).1 bQ
  |hash l b h h0 hb=>
    dsimp only at ht;have gK:=mY hw (by intro hh;injection hh with hh;cases hh) (by dsimp only;omega);subst gK;exact(rd4 s hs i hi l r b (by omega) h h0 hb hd).1 bQ
  |st k l hk h0=>
    dsimp only at ht;have gK:=mY hw (by rcases hk with rfl|rfl<;>(intro hh;injection hh with hh;cases hh)) (by dsimp only;omega);subst gK;rcases hk with rfl|rfl
    · refine rd5 s hs i l r (by omega) ?_;rw[hd];show(34::(ms l++[34]))++r=_;simp
    · refine rd7 s hs i l r (by omega) h0 ?_;rw[hd];show([117,114,108,40]++(gX l++[41]))++r=_;simp
  |del c hc=>
    have gK:=mY hw (by intro hh;injection hh with hh;cases hh) (by dsimp only;omega);subst gK;have bQ:(Nat.beq (dU ([c]++r)) 9&&_)=true:=bQ;rw[Bool.and_eq_true]at bQ;exact(rd9 s hs i c r (a1R hc).1 hd).1 (Nat.eq_of_beq_eq_true bQ.1)
  |num n b h1 h2 h3=>
    obtain⟨w',fr,a1,a2,a3⟩:=w8 _ (.num n b h1 h2 h3) w hw (Or.inl rfl);have a3:=a3 (by dsimp only;omega);dsimp only at a3;subst a3;rw[show fN ⟨10,[],n,[],b⟩=[]from rfl,List.append_nil]at a2;subst a2;have bQ:(Nat.beq (nE (!b) r).1 0&&(!(du r)&&!(t1 (ag 37) r)))=true:=bQ;rw[Bool.and_eq_true,Bool.and_eq_true,Bool.not_eq_true',Bool.not_eq_true']at bQ;exact(a1N a1 s hs i hi r hd).1 (Nat.eq_of_beq_eq_true bQ.1) bQ.2.1 bQ.2.2
  |mw n h1 h2=>
    obtain⟨w',fr,a1,a2,a3⟩:=w8 _ (.mw n h1 h2) w hw (Or.inr (Or.inl rfl));rw[show fN ⟨11,[],n,[],false⟩=[37]from rfl]at a2;subst a2;exact afZ a1 s hs i hi r (by rw[hd,c7];rfl)
  |jZ n b u h1 h2 h3 hu h0=>
    obtain⟨w',fr,a1,a2,a3⟩:=w8 _ (.jZ n b u h1 h2 h3 hu h0) w hw (Or.inr (Or.inr rfl));have a3:=a3 (by dsimp only;omega);dsimp only at a3 JY;subst a3;rw[show fN ⟨12,[],n,u,b⟩=bX u from rfl]at a2;subst a2;have bQ:(eW r&&Nat.beq (de (bX u++r)) 0)=true:=bQ;rw[Bool.and_eq_true]at bQ;exact(a1O a1 s hs i hi u r hu (by omega) h0 (by rw[hd,c7])).1 bQ.1 (Nat.eq_of_beq_eq_true bQ.2)
  |mk k h1 h2=>
    obtain⟨n,rfl⟩:∃n:Nat,k=n:=⟨k.toNat,by omega⟩;by_cases mZ:n=13
    · subst mZ;have bQ:(!(t1 bw r))=true:=bQ;rw[Bool.not_eq_true']at bQ;have hc:∃c,w=[c]∧bw c=true:=by
        rcases hw with h|⟨_,h⟩|⟨h,_⟩
        · exact⟨32,h,by kernel_rfl⟩
        · exact⟨10,h,by kernel_rfl⟩
        · rcases h with h|h|h<;>cases h
      obtain⟨c,rfl,hc⟩:=hc;exact(Ut s hs i c r hc hd).1 bQ
    · have gK:=mY hw (by intro hh;injection hh with hh;omega) (by dsimp only;omega);subst gK;by_cases JZ:n=14
      · subst JZ;exact ag0 s hs i r hd
      · by_cases Ad:n=15
        · subst Ad;exact ag1 s hs i r hd
        · obtain⟨c,e1,e2,e3⟩:=Uw (n:=n) (by omega) (by omega);have ew:fv ⟨(n:Int),[],0,[],false⟩=[c]:=by
            rw[NZ n (by omega)];exact e1
          rw[ew]at hd⊢;have:=ag4 s hs i c r e2 hd;rw[e3]at this;exact this
def yb:aq:=⟨9,[47],0,[],false⟩
inductive K0 (s:J) (i:Nat) (r:J) (j:Int):aq→J→Prop
  |sp (w:J) (h:t1 bw r=true) (hj:jT 30000 s (i:Int)=some j):K0 s i r j df w
  |sl (w:J) (h:t1 (ag 42) r=true):K0 s i r j yb w
  |num (n:Int) (b:Bool) (w:J) (h1:(nE (!b) r).1≠0) (h2:(nE (!b) r).2=b) (h3:du (r.drop (nE (!b) r).1)=false) (h4:t1 (ag 37) (r.drop (nE (!b) r).1)=false) (hj:j=((i+w.length+(nE (!b) r).1:Nat):Int)):K0 s i r j ⟨10,[],n,[],b⟩ w
  |jZ (n:Int) (b:Bool) (u w':J) (h1:de (bX u++r)≠0) (h2:du ((bX u++r).drop (de (bX u++r)))=true) (hj:jU 30000 s ((i+w'.length+de (bX u++r):Nat):Int)=some (u,j)):K0 s i r j ⟨12,[],n,u,b⟩ (w'++bX u)
theorem O0{a b:Nat}(h:a=b):Nat.beq a b=true:=by rw[h];exact Nat.beq_refl b
theorem a1S(t:aq)(hF:Fi t)(hL:CS t)(w:J)(hw:Wt t w)(s:J)(hs:s.length≤5000)(i:Nat)(hi:i≤s.length)(r:J)(hd:s.drop i=w++r)(hIn:t.ah=2→okB t r=true)(j:Int)(hj:fh 30000 s (i:Int)=some (t,j)):
    (okB t r=true∧j=((i+w.length:Nat):Int))∨K0 s i r j t w:=by
  have ht:=hL.tl;have JY:=hL.ul;have yc:okB t r=true→okB t r=true∧j=((i+w.length:Nat):Int):=by
    intro bQ;rw[Ux t hF hL w hw s hs i hi r hd bQ]at hj;injection hj with hj;injection hj with _ hj;exact⟨bQ,hj.symm⟩
  cases hF with
  |nm k l hk h h0=>
    dsimp only at ht;have gK:=mY hw (by rcases hk with rfl|rfl|rfl<;>(intro hh;injection hh with hh;cases hh)) (by dsimp only;omega);left;apply yc;rcases hk with rfl|rfl|rfl
    · obtain⟨a1,a2,a3,a4⟩:=(rd1 s hs i hi l r (by omega) h h0 (by rw[hd,gK];rfl)).2 j hj;show(eW r&&(!(t1 (ag 40) r)&&!(l==[45,45]&&t1 (ag 62) r)))=true;rw[a1,a2];cases hx:l==[45,45]with
      |false=>rfl
      |true=>rw[a3 (eq_of_beq hx)];rfl
    · exact hIn rfl
    · exact((rd3 s hs i hi l r (by omega) h h0 (by rw[hd,gK];rfl)).2 j hj).1
  |hash l b h h0 hb=>
    dsimp only at ht;have gK:=mY hw (by intro hh;injection hh with hh;cases hh) (by dsimp only;omega);left;apply yc;exact((rd4 s hs i hi l r b (by omega) h h0 hb (by rw[hd,gK];rfl)).2 j hj).1
  |st k l hk h0=>
    left;apply yc;rcases hk with rfl|rfl<;>rfl
  |del c hc=>
    have gK:=mY hw (by intro hh;injection hh with hh;cases hh) (by dsimp only;omega);obtain⟨a1,a2⟩:=(rd9 s hs i c r (a1R hc).1 (by rw[hd,gK];rfl)).2 j hj;cases hx:(([c]:J)==[47])&&t1 (ag 42) r with
    |false=>
      left;apply yc;show(Nat.beq (dU (c::r)) 9&&!(([c]:J)==[47]&&t1 (ag 42) r))=true;rw[hx,O0 a1];rfl
    |true=>
      right;rw[Bool.and_eq_true,beq_iff_eq]at hx;obtain⟨h1,h2⟩:=hx;injection h1 with h1;subst h1;exact .sl w h2
  |num n b h1 h2 h3=>
    obtain⟨w',fr,a1,a2,a3⟩:=w8 _ (.num n b h1 h2 h3) w hw (Or.inl rfl);have a3:=a3 (by dsimp only;omega);dsimp only at a3;subst a3;rw[show fN ⟨10,[],n,[],b⟩=[]from rfl,List.append_nil]at a2;subst a2;obtain⟨b1,b2,b3,b4⟩:=(a1N a1 s hs i hi r hd).2 n j hj;by_cases hk:(nE (!b) r).1=0
    · left;apply yc;rw[hk,fG]at b2 b3;show(Nat.beq (nE (!b) r).1 0&&(!(du r)&&!(t1 (ag 37) r)))=true;rw[b2,b3,O0 hk];rfl
    · right;exact .num n b w hk b1 b2 b3 b4
  |mw n h1 h2=>
    left;apply yc;rfl
  |jZ n b u h1 h2 h3 hu h0=>
    obtain⟨w',fr,a1,a2,a3⟩:=w8 _ (.jZ n b u h1 h2 h3 hu h0) w hw (Or.inr (Or.inr rfl));have a3:=a3 (by dsimp only;omega);dsimp only at a3 JY;subst a3;rw[show fN ⟨12,[],n,u,b⟩=bX u from rfl]at a2;obtain⟨c1,c2,c3⟩:=a1O a1 s hs i hi u r hu (by omega) h0 (by rw[hd,a2,c7]);by_cases he:de (bX u++r)=0
    · left;apply yc;show(eW r&&Nat.beq (de (bX u++r)) 0)=true;rw[(c2 n j hj he).1,O0 he];rfl
    · right;rw[a2];obtain⟨d1,d2⟩:=c3 n j hj;exact .jZ n b u w' he d1 d2
  |mk k h1 h2=>
    obtain⟨n,rfl⟩:∃n:Nat,k=n:=⟨k.toNat,by omega⟩;by_cases mZ:n=13
    · subst mZ;have hc:∃c,w=[c]∧bw c=true:=by
        rcases hw with h|⟨_,h⟩|⟨h,_⟩
        · exact⟨32,h,by kernel_rfl⟩
        · exact⟨10,h,by kernel_rfl⟩
        · rcases h with h|h|h<;>cases h
      obtain⟨c,rfl,hc⟩:=hc;cases hx:t1 bw r with
      |false=>
        left;apply yc;show(!(t1 bw r))=true;rw[hx];rfl
      |true=>
        right;exact .sp _ hx ((Ut s hs i c r hc hd).2 hx _ j hj)
    · left;apply yc;exact Uu (by omega) (by omega)
end Go.Proofs.YtpobihiejncdgaaGreatDoor
namespace Go.Proofs.YtpobihiejncdgaaGreatDoor
open Go Go.V Go.RowKit
def k7(c:UInt8):Bool:=([0,12,13]:J).contains c
def ee(s:J):Bool:=s.any k7
theorem CT(c:UInt8)(s:J):ee (c::s)=(k7 c||ee s):=rfl
theorem lT(s t:J):ee (s++t)=(ee s||ee t):=by simp[ee]
theorem Uy(c:UInt8):ee (rI c)=false∧(rI c).length≤3∧(k7 c=false→rI c=[c]):=by
  have:∀n:Fin 256,ee (rI (UInt8.ofNat n.val))=false∧(rI (UInt8.ofNat n.val)).length≤3∧(k7 (UInt8.ofNat n.val)=false→rI (UInt8.ofNat n.val)=[UInt8.ofNat n.val]):=by decide+kernel
  have:=this ⟨c.toNat,c.toNat_lt⟩;simpa using this
theorem Uz:∀(p:Bool)(s:J),ee (fQ p s)=false
  |_,[]=>by simp[fQ,ee]
  |p,c::s=>by
    unfold fQ;split
    · exact Uz false s
    · rw[lT,(Uy c).1,Uz _ s];rfl
theorem UA:∀(p:Bool)(s:J),(fQ p s).length≤3*s.length
  |_,[]=>by simp[fQ]
  |p,c::s=>by
    unfold fQ;split
    · have:=UA false s;simp only[aZ];omega
    · have:=UA (decide (c=13)) s;have:=(Uy c).2.1;simp only[aZ,bB];omega
theorem FR:∀s:J,ee s=false→fQ false s=s
  |[],_=>rfl
  |c::s,h=>by
    rw[CT,pw]at h;have mZ:c≠13:=λe=>by subst e;simp[k7]at h
    rw[Qu,(Uy c).2.2 h.1,bV mZ,FR s h.2];rfl
theorem FT(s:J)(h:s.length≤4000):gU s=(fQ false s,0):=by rw[gU,if_neg (by unfold ln;omega)]
def iy(a b:Nat)(s:J)(i:Nat):Bool:=cond (aD (ag a) s i) (aD (ag b) s (i+1)) false
theorem UB{a b:Nat}{s:J}{i:Nat}(h:iy a b s i=true):i+2≤s.length:=by
  unfold iy at h;cases h1:aD (ag a) s i with
  |false=>rw[h1]at h;cases h
  |true=>rw[h1,af]at h;exact iv h
theorem UC(a b:UInt8):ag b.toNat a=(a==b):=by
  unfold ag;by_cases h:a=b
  · subst h;simp
  · rw[bE.2 h];exact bE.2 λh2=>h (UInt8.toNat_inj.1 h2)
theorem a1T(a b:UInt8)(s:J)(i:Nat):Lib.occAt s [a,b] i=iy a.toNat b.toNat s i:=by
  unfold Lib.occAt iy;by_cases h1:i<s.length
  · rw[gp h1,pN h1,UC];by_cases h2:i+1<s.length
    · rw[gp h2,pN h2,UC];rw[List.isPrefixOf,List.isPrefixOf,List.isPrefixOf];rw[B9,BEq.comm (a:=a),BEq.comm (a:=b)];cases s[i]==a<;>rfl
    · rw[Jy _ (by omega),fF (by omega)];show(a==s[i]&&false)=_;rw[Bool.and_false];cases s[i]==a<;>rfl
  · rw[Jy _ (by omega),fF (by omega)];rfl
theorem JH(a b:UInt8)(u:J):strings_HasPrefix u [a,b]=some ([a,b].isPrefixOf u):=by
  have wG:ln ([a,b]:J)=2:=rfl;unfold strings_HasPrefix stringslite_HasPrefix;rw[wG]
  match u with
  |[]=>rfl
  |[x]=>
    show some false=some (a==x&&false);rw[Bool.and_false]
  |x::y::r=>
    have hl:ln (x::y::r)=((r.length+2:Nat):Int):=rfl;have hd:decide ((2:Int)≤ln (x::y::r))=true:=bC (by rw[hl];omega);have hs:sub (x::y::r) 0 2=[x,y]:=rfl;rw[hd,aL (λ_=>⟨by omega,gS hd⟩),lt_eq,af,hs,ai,List.isPrefixOf,List.isPrefixOf,List.isPrefixOf,B9];congr 1;rw[Bool.eq_iff_iff,Bool.and_eq_true,beq_iff_eq,beq_iff_eq,beq_iff_eq];constructor
    · intro h;injection h with h1 h2;injection h2 with h2 h3;exact⟨h1.symm,h2.symm⟩
    · rintro⟨rfl,rfl⟩;rfl
theorem ag8(a b:UInt8)(s:J)(i:Nat)(hi:i≤s.length):strings_HasPrefix (sub s (i:Int) (ln s)) [a,b]=some (iy a.toNat b.toNat s i):=by
  rw[JH,←a1T,E4 s i hi];rfl
structure O1(s:J)(i z:Nat):Prop where
  le:i≤z
  len:z≤s.length
  no:∀j,i≤j→j<z→iy 42 47 s j=false
  fin:z=s.length∨iy 42 47 s z=true
theorem ag9{s:J}{i z:Nat}(h:O1 s i z):Lib.index (s.drop i) [42,47]=if z=s.length then-1 else((z-i:Nat):Int):=by
  have hle:=h.le;have oa:=h.len;have UD:∀j,Lib.occAt (s.drop i) [42,47] j=iy 42 47 s (i+j):=λj=>by
    have h1:Lib.occAt s [42,47] (i+j)=iy 42 47 s (i+j):=a1T 42 47 s (i+j);rw[←h1];unfold Lib.occAt;rw[List.drop_drop]
  by_cases hz:z=s.length
  · rw[if_pos hz];refine Lib.index_none λj hj=>?_;rw[UD];by_cases h2:i+j<z
    · exact h.no _ (by omega) h2
    · cases h3:iy 42 47 s (i+j)with
      |false=>rfl
      |true=>have:=UB h3;omega
  · rw[if_neg hz];refine Lib.index_first (by rw[List.length_drop];omega) ?_ λj hj=>?_
    · rw[UD,show i+(z-i)=z from by omega];exact h.fin.resolve_left hz
    · rw[UD];exact h.no _ (by omega) (by omega)
theorem aga(s:J):∀(n i:Nat),s.length-i=n→i≤s.length→∃z,O1 s i z:=by
  intro n
  induction n with
  |zero=>intro i h hi;exact⟨i,cF _,hi,λj a b=>by omega,Or.inl (by omega)⟩
  |succ n ih=>
    intro i h hi;cases h2:iy 42 47 s i with
    |true=>exact⟨i,cF _,hi,λj a b=>by omega,Or.inr h2⟩
    |false=>
      obtain⟨z,hz⟩:=ih (i+1) (by omega) (by omega);refine⟨z,by have:=hz.le;omega,hz.len,λj a b=>?_,hz.fin⟩;by_cases hj:j=i
      · rw[hj];exact h2
      · exact hz.no j (by omega) b
theorem CU(s:J)(hs:s.length<100000)(kk i:Nat)(hi:i≤s.length):(iy 47 42 s i=false∧tj 30000 s (kk+1) (i:Int)=some (i:Int))∨(iy 47 42 s i=true∧O1 s (i+2) s.length∧tj 30000 s (kk+1) (i:Int)=some (s.length:Int))∨(iy 47 42 s i=true∧∃z,O1 s (i+2) z∧iy 42 47 s z=true∧z+2≤s.length∧tj 30000 s (kk+1) (i:Int)=tj 30000 s kk ((z+2:Nat):Int)):=by
  rw[tj,aL ⟨by omega,by unfold ln;omega⟩,ag8 47 42 s i hi,ai];cases h:iy 47 42 s i with
  |false=>exact Or.inl ⟨rfl,by rw[show iy (47:UInt8).toNat (42:UInt8).toNat s i=false from h];rfl⟩
  |true=>
    right;have hl:=UB h;have hw:aa ((i:Int)+2)=((i+2:Nat):Int):=r7 (n:=2) (by omega);obtain⟨z,z2⟩:=aga s _ (i+2) rfl hl;have TJ:=z2.len;have hzg:=z2.le;rw[show iy (47:UInt8).toNat (42:UInt8).toNat s i=true from h,af,hw,aL ⟨by omega,by unfold ln;omega⟩,E4 s (i+2) hl];unfold LO;rw[aL (by rw[List.length_drop];omega),ai,ag9 z2];by_cases hz:z=s.length
    · rw[if_pos hz,show decide ((-1:Int)<0)=true from rfl,af];exact Or.inl ⟨rfl,by rw[←hz];exact z2,rfl⟩
    · have hf:=z2.fin.resolve_left hz;have hz2:=UB hf;right;refine⟨rfl,z,z2,hf,hz2,?_⟩;rw[if_neg hz,show decide (((z-(i+2):Nat):Int)<0)=false from bV (by omega),ae];have TI:aa ((i:Int)+aa (((z-(i+2):Nat):Int)+4))=((z+2:Nat):Int):=by
        rw[cT (x:=((z-(i+2):Nat):Int)+4) (by omega) (by omega),cT (by omega) (by omega)];omega
      rw[TI]
theorem CV(s:J)(hs:s.length<100000):∀(kk i:Nat),s.length-i<kk→i≤s.length→∃j:Nat,tj 30000 s kk (i:Int)=some (j:Int)∧i≤j∧j≤s.length:=by
  intro kk
  induction kk with
  |zero=>intro i h;omega
  |succ kk ih=>
    intro i hk hi;rcases CU s hs kk i hi with⟨_,h⟩|⟨_,_,h⟩|⟨h0,z,h1,h2,h3,h4⟩
    · exact⟨i,h,cF _,hi⟩
    · exact⟨s.length,h,hi,cF _⟩
    · have hg:=h1.le;obtain⟨j,j1,j2,j3⟩:=ih (z+2) (by omega) h3;exact⟨j,by rw[h4];exact j1,by omega,j3⟩
def lU:J→Bool
  |47::42::_=>true
  |_=>false
theorem CW(s:J)(i:Nat):iy 47 42 s i=lU (s.drop i):=by
  unfold iy;rw[eF,ya]
  match s.drop i with
  |[]=>rfl
  |[a]=>
    have:lU [a]=false:=by unfold lU;split<;>simp_all
    rw[this];show cond (ag 47 a) (t1 (ag 42) []) false=false;cases ag 47 a<;>rfl
  |a::b::r=>
    show cond (ag 47 a) (ag 42 b) false=lU (a::b::r);cases ha:ag 47 a with
    |false=>
      unfold lU;split
      · rename_i h;injection h with h;rw[h]at ha;cases ha
      · rfl
    |true=>
      have:a=47:=UInt8.toNat_inj.1 (eq_of_beq ha);subst this;cases hb:ag 42 b with
      |false=>
        unfold lU;split
        · rename_i h;injection h with _ h;injection h with h;rw[h]at hb;cases hb
        · rfl
      |true=>
        have:b=42:=UInt8.toNat_inj.1 (eq_of_beq hb);subst this;rfl
theorem CX(s:J)(hs:s.length<100000)(i:Nat)(hi:i≤s.length)(h:lU (s.drop i)=false):fq 30000 s (i:Int)=some (i:Int):=by
  unfold fq;rw[←CW]at h;rcases CU s hs 29999 i hi with⟨_,h1⟩|⟨h0,_⟩|⟨h0,_⟩
  · exact h1
  · rw[h]at h0;cases h0
  · rw[h]at h0;cases h0
theorem agb(s:J)(hs:s.length<100000)(i:Nat)(r:J)(hd:s.drop i=47::42::42::47::r)(h:lU r=false):fq 30000 s (i:Int)=some ((i+4:Nat):Int):=by
  have hi:=gj hd;have dw:s.drop (i+2)=42::47::r:=by rw[←List.drop_drop,hd];rfl
  have ud:s.drop (i+4)=r:=by rw[←List.drop_drop,hd];rfl
  have h2:=gj dw;have h3:=gj (jg dw);have h4:iy 42 47 s (i+2)=true:=by
    unfold iy;rw[eF,ya,dw];rfl
  have h1:iy 47 42 s i=true:=by rw[CW,hd];rfl
  unfold fq;rcases CU s hs 29999 i (by omega)with⟨h5,_⟩|⟨_,h5,_⟩|⟨h0,z,z1,z2,z3,z4⟩
  · rw[h1]at h5;cases h5
  · have:=h5.no (i+2) (cF _) h2;rw[h4]at this;cases this
  · have hz:z=i+2:=by
      have a:=z1.le;rcases Nat.lt_or_ge (i+2) z with aM|nW
      · have:=z1.no (i+2) (cF _) aM;rw[h4]at this;cases this
      · omega
    subst hz;rw[z4];rcases CU s hs 29998 (i+4) (by omega)with⟨_,h7⟩|⟨h8,_⟩|⟨h8,_⟩
    · exact h7
    · rw[CW,ud,h]at h8;cases h8
    · rw[CW,ud,h]at h8;cases h8
theorem a1U(s:J)(hs:s.length<100000)(i:Nat)(hd:s.drop i=[47,42]):fq 30000 s (i:Int)=some (s.length:Int):=by
  have hi:=gj hd;have h1:iy 47 42 s i=true:=by rw[CW,hd];rfl
  have hl:=congrArg List.length hd;rw[List.length_drop]at hl;have hl:s.length-i=2:=hl;unfold fq;rcases CU s hs 29999 i (by omega)with⟨h5,_⟩|⟨_,_,h5⟩|⟨h0,z,z1,z2,z3,z4⟩
  · rw[h1]at h5;cases h5
  · exact h5
  · have:=z1.le;omega
end Go.Proofs.YtpobihiejncdgaaGreatDoor
namespace Go.Proofs.YtpobihiejncdgaaGreatDoor
open Go Go.V
inductive iL (s:J):Nat→List aq→Prop
  |nil:iL s s.length []
  |cons {i j k:Nat} {t:aq} {l:List aq} (h1:i<s.length) (h2:fh 30000 s (i:Int)=some (t,(j:Int))) (h3:i<j) (h4:j≤s.length) (h5:fq 30000 s (j:Int)=some (k:Int)) (h6:k≤s.length) (h7:iL s k l):iL s i (t::l)
theorem a1V(s:J)(hs:s.length≤4000):∀(l:List aq)(i n kk:Nat)(acc:List aq),iL s i l→l.length<kk→n+l.length≤1500→acc.length+l.length≤5000→
    mI 30000 (s,0) kk (n:Int) (i:Int) acc=some (.inr ((s.length:Int),acc++l))
  |[],i,n,kk,acc,h,hk,hn,ha=>by
    obtain⟨kk,rfl⟩:∃q,kk=q+1:=⟨kk-1,by simp at hk;omega⟩;cases h;rw[mI,show decide (((s.length:Nat):Int)<ln ((s,(0:Int)):J×Int).1)=false from eS (cF _),ae,List.append_nil]
  |t::l,i,n,kk,acc,h,hk,hn,ha=>by
    obtain⟨kk,rfl⟩:∃q,kk=q+1:=⟨kk-1,by simp at hk;omega⟩;rw[aZ]at hk hn ha;cases h with
    |cons h1 h2 h3 h4 h5 h6 h7=>
      rename_i j k;obtain⟨t',e,n1,n2,n3,n4⟩:=NI 30000 s hs (by omega) i h1;rw[h2]at n2;injection n2 with n2;injection n2 with n2 UE;subst n2;rw[←UE]at n1;rw[mI,show decide ((i:Int)<ln ((s,(0:Int)):J×Int).1)=true from dM h1,af,br (by omega),bV (by omega),ae,show vc 30000 ((s,(0:Int)):J×Int).1 (i:Int)=_ from n1,ai];unfold BD;rw[aL (by unfold ln;simp only[aZ,bW];omega),lt_eq,ai,show fq 30000 ((s,(0:Int)):J×Int).1 ((t,(j:Int)):aq×Int).2=_ from h5,ai];rw[a1V s hs l k (n+1) kk (acc++[t]) h7 (by omega) (by omega) (by rw[bB,aZ,bW];omega),c7];rfl
theorem agc(s:J)(hs:s.length≤4000):∀(kk i:Nat)(n:Int)(acc:List aq)(a:Int)(L:List aq),i≤s.length→mI 30000 (s,0) kk n (i:Int) acc=some (.inr (a,L))→∃l,L=acc++l∧iL s i l:=by
  intro kk
  induction kk with
  |zero=>intro i n acc a L hi h;cases h
  |succ kk ih=>
    intro i n acc a L hi h;rw[mI]at h;by_cases aM:i<s.length
    · obtain⟨t,e,n1,n2,n3,n4⟩:=NI 30000 s hs (by omega) i aM;obtain⟨k,k1,k2,k3⟩:=CV s (by omega) 30000 e (by omega) n4;rw[show decide ((i:Int)<ln ((s,(0:Int)):J×Int).1)=true from dM aM,af]at h;rcases gJ h with⟨_,h⟩|⟨_,h⟩
      · injection h with h;cases h
      · rw[show vc 30000 ((s,(0:Int)):J×Int).1 (i:Int)=_ from n1,ai]at h;obtain⟨b,hb,h⟩:=eQ h;unfold BD at hb;obtain⟨_,hb⟩:=bM hb;rw[lt_eq]at hb;injection hb with hb;rw[show fq 30000 ((s,(0:Int)):J×Int).1 ((t,(e:Int)):aq×Int).2=_ from k1,ai,←hb]at h;obtain⟨l,l1,l2⟩:=ih k _ _ a L k3 h;refine⟨t::l,?_,.cons aM n2 n3 n4 k1 k3 l2⟩;rw[l1,c7];rfl
    · have kQ:i=s.length:=by omega
      subst kQ;rw[show decide (((s.length:Nat):Int)<ln ((s,(0:Int)):J×Int).1)=false from eS (cF _),ae]at h;injection h with h;injection h with h;injection h with _ h;exact⟨[],by rw[List.append_nil];exact h.symm,.nil⟩
theorem UF(s:J)(hs:s.length≤4000)(hc:ee s=false)(k:Nat)(h0:fq 30000 s 0=some (k:Int))(l:List aq)(h:iL s k l)(hl:l.length≤1500):iG 30000 s=some (l,0):=by
  unfold iG xi;have hq:gU s=(s,0):=by rw[FT s hs,FR s hc]
  rw[hq,lt_eq,show(((s,(0:Int)):J×Int).2 !=0)=false from rfl,ae,show fq 30000 ((s,(0:Int)):J×Int).1 0=_ from h0,ai];rw[show mI 30000 (s,0) 30000 0 (k:Int) []=_ from a1V s hs l k 0 30000 [] h (by omega) (by omega) (by simp;omega)];rfl
theorem agd(s:J)(hs:s.length≤4000)(hc:ee s=false)(l:List aq)(h:iG 30000 s=some (l,0)):∃k:Nat,fq 30000 s 0=some (k:Int)∧k≤s.length∧iL s k l:=by
  unfold iG xi at h;have hq:gU s=(s,0):=by rw[FT s hs,FR s hc]
  obtain⟨k,k1,k2,k3⟩:=CV s (by omega) 30000 0 (by omega) (dE _);have k1:fq 30000 s 0=some (k:Int):=k1;rw[hq,lt_eq,show(((s,(0:Int)):J×Int).2 !=0)=false from rfl,ae,show fq 30000 ((s,(0:Int)):J×Int).1 0=_ from k1,ai]at h;refine⟨k,k1,k3,?_⟩;obtain⟨a,ha,h⟩:=eQ h;obtain⟨z,hz,ha⟩:=eQ ha;cases z with
  |inl z=>
    have:a=z:=by injection ha with ha;exact ha.symm
    subst this;exfalso;have hf:∀(kk:Nat)(n i:Int)(acc:List aq)(x:Int×List aq),mI 30000 (s,0) kk n i acc=some (.inl x)→x.1=4:=by
      intro kk
      induction kk with
      |zero=>intro n i acc x h;cases h
      |succ kk ih=>
        intro n i acc x h;rw[mI]at h;rcases gJ h with⟨_,h⟩|⟨_,h⟩
        · rcases gJ h with⟨_,h⟩|⟨_,h⟩
          · injection h with h;injection h with h;rw[←h]
          · obtain⟨b,_,h⟩:=eQ h;obtain⟨c,_,h⟩:=eQ h;obtain⟨d,_,h⟩:=eQ h;exact ih _ _ _ _ h
        · injection h with h;cases h
    rw[hf _ _ _ _ _ hz]at h;injection h with h;injection h with _ h;cases h
  |inr z=>
    obtain⟨z1,z2⟩:=z;obtain⟨l',l1,l2⟩:=agc s hs _ k _ _ _ _ k3 hz;rw[mU]at ha;injection ha with ha;rw[←ha]at h;injection h with h;injection h with h _;dsimp only at h;rw[←h,l1];exact l2
inductive Fb (t:aq) (w:J):Prop
  |nm (b:UInt8) (q:J) (hw:w=b::q) (hk:t.ah=1∨t.ah=2) (hb:cB b=true∨b=92∨b=45)
  |del (c:UInt8) (ht:t=⟨9,[c],0,[],false⟩) (hw:w=[c]) (hc:oT c=true)
  |num (b:UInt8) (q:J) (hw:w=b::q) (hk:t.ah=10∨t.ah=11∨t.ah=12) (hb:aK b=true∨b=45∨b=46)
  |sp (b:UInt8) (ht:t=df) (hw:w=[b]) (hb:bw b=true)
  |yd (b:UInt8) (q:J) (hw:w=b::q) (hb:b=64∨b=35∨b=34∨b=117∨b=60∨b=45∨jY b=true)
theorem ye(t:aq)(hF:Fi t)(w:J)(hw:Wt t w):Fb t w:=by
  have nmc:∀(l:J),l≠[]→(∀c∈l,0<c.toNat)→∀x:J,∃b q,cg (bP l) l++x=b::q∧(cB b=true∨b=92∨b=45):=by
    intro l h h0 x;rcases JM l h h0 x with⟨b,q,e,_,hb⟩|⟨T,e,_⟩|⟨q,e,_⟩
    · refine⟨b,q,e,?_⟩;rcases hb with hb|⟨hb,_⟩
      · exact Or.inl hb
      · exact Or.inr (Or.inl hb)
    · exact⟨45,T,e,Or.inr (Or.inr rfl)⟩
    · exact⟨45,_,e,Or.inr (Or.inr rfl)⟩
  cases hF with
  |nm k l hk h h0=>
    have gK:=mY hw (by rcases hk with rfl|rfl|rfl<;>(intro hh;injection hh with hh;cases hh)) (by dsimp only;omega);rcases hk with rfl|rfl|rfl
    · obtain⟨b,q,e,hb⟩:=nmc l h h0 [];rw[List.append_nil]at e;exact .nm b q (gK.trans e) (Or.inl rfl) hb
    · obtain⟨b,q,e,hb⟩:=nmc l h h0 [40];exact .nm b q (gK.trans e) (Or.inr rfl) hb
    · exact .yd 64 _ gK (Or.inl rfl)
  |hash l b h h0 hb=>
    have gK:=mY hw (by intro hh;injection hh with hh;cases hh) (by dsimp only;omega);exact .yd 35 _ gK (Or.inr (Or.inl rfl))
  |st k l hk h0=>
    have gK:=mY hw (by rcases hk with rfl|rfl<;>(intro hh;injection hh with hh;cases hh)) (by dsimp only;omega);rcases hk with rfl|rfl
    · exact .yd 34 _ gK (Or.inr (Or.inr (Or.inl rfl)))
    · exact .yd 117 _ gK (Or.inr (Or.inr (Or.inr (Or.inl rfl))))
  |del c hc=>
    have gK:=mY hw (by intro hh;injection hh with hh;cases hh) (by dsimp only;omega);exact .del c rfl gK hc
  |num n b h1 h2 h3=>
    obtain⟨w',fr,a1,a2,a3⟩:=w8 _ (.num n b h1 h2 h3) w hw (Or.inl rfl);obtain⟨c,q,e,hc⟩:=a1.hd;exact .num c _ (by rw[a2,e];rfl) (Or.inl rfl) hc
  |mw n h1 h2=>
    obtain⟨w',fr,a1,a2,a3⟩:=w8 _ (.mw n h1 h2) w hw (Or.inr (Or.inl rfl));obtain⟨c,q,e,hc⟩:=a1.hd;exact .num c _ (by rw[a2,e];rfl) (Or.inr (Or.inl rfl)) hc
  |jZ n b u h1 h2 h3 hu h0=>
    obtain⟨w',fr,a1,a2,a3⟩:=w8 _ (.jZ n b u h1 h2 h3 hu h0) w hw (Or.inr (Or.inr rfl));obtain⟨c,q,e,hc⟩:=a1.hd;exact .num c _ (by rw[a2,e];rfl) (Or.inr (Or.inr rfl)) hc
  |mk k h1 h2=>
    obtain⟨n,rfl⟩:∃n:Nat,k=n:=⟨k.toNat,by omega⟩;by_cases mZ:n=13
    · subst mZ;rcases hw with h|⟨_,h⟩|⟨h,_⟩
      · exact .sp 32 rfl h (by kernel_rfl)
      · exact .sp 10 rfl h (by kernel_rfl)
      · rcases h with h|h|h<;>cases h
    · have gK:=mY hw (by intro hh;injection hh with hh;omega) (by dsimp only;omega);by_cases JZ:n=14
      · subst JZ;exact .yd 60 _ gK (Or.inr (Or.inr (Or.inr (Or.inr (Or.inl rfl)))))
      · by_cases Ad:n=15
        · subst Ad;exact .yd 45 _ gK (Or.inr (Or.inr (Or.inr (Or.inr (Or.inr (Or.inl rfl))))))
        · obtain⟨c,e1,e2,e3⟩:=Uw (n:=n) (by omega) (by omega);have ew:fv ⟨(n:Int),[],0,[],false⟩=[c]:=by
            rw[NZ n (by omega)];exact e1
          exact .yd c [] (gK.trans ew) (Or.inr (Or.inr (Or.inr (Or.inr (Or.inr (Or.inr e2))))))
theorem Fb.ne{t:aq}{w:J}(h:Fb t w):w≠[]:=by
  cases h with
  |nm b q hw hk hb=>rw[hw];simp
  |del c ht hw hc=>rw[hw];simp
  |num b q hw hk hb=>rw[hw];simp
  |sp b ht hw hb=>rw[hw];simp
  |yd b q hw hb=>rw[hw];simp
def K1(n:Nat):Bool:=n==47||n==42||n==43
def K3(n:Nat)(c:UInt8):Bool:=
  (!(cB c||n==92||n==45)||(!(aK c)&&(!(bw c)&&!(K1 n))))&&
  ((!(oT c)||(!(aK c)&&(!(bw c)&&!(cc c))))&&
  ((!(aK c||n==45||n==46)||(!(bw c)&&(!(cc c)&&!(K1 n))))&&
  ((!(bw c)||(!(aK c)&&(!(cc c)&&!(K1 n))))&&
  (!(n==64||n==35||n==34||n==117||n==60||n==45||jY c)||(!(aK c)&&(!(bw c)&&(!(cc c)&&!(K1 n))))))))
theorem age:((List.range 256).all λn=>K3 n (UInt8.ofNat n))=true:=by kernel_rfl
theorem agf(c:UInt8):K3 c.toNat c=true:=by
  have h:=iw (p:=λn=>K3 n (UInt8.ofNat n)) age c;rw[UInt8.ofNat_toNat]at h;exact h
structure UG(t:aq)(w:J)(b:UInt8):Prop where
  d:aK b=true→t.ah=10∨t.ah=11∨t.ah=12
  s:bw b=true→t=df∧w=[b]
  e:cc b=true→t.ah=1∨t.ah=2
  x:K1 b.toNat=true→t=⟨9,[b],0,[],false⟩∧w=[b]
theorem K4{t:aq}{w:J}(h:Fb t w):∃b q,w=b::q∧UG t w b:=by
  have cl:∀c:UInt8,K3 c.toNat c=true:=agf;unfold K3 at cl;simp only[Bool.and_eq_true,Bool.or_eq_true,Bool.not_eq_true',pw]at cl;cases h with
  |nm b q hw hk hb=>
    refine⟨b,q,hw,?_⟩;have h1:=(cl b).1;have hh:¬((cB b=false∧(b.toNat==92)=false)∧(b.toNat==45)=false):=by
      rintro⟨⟨h1,h2⟩,h3⟩;rcases hb with hb|hb|hb
      · rw[hb]at h1;cases h1
      · rw[hb]at h2;cases h2
      · rw[hb]at h3;cases h3
    have h2:=h1.resolve_left hh;exact⟨λh=>(by rw[h2.1]at h;cases h),λh=>(by rw[h2.2.1]at h;cases h),λ_=>hk,λh=>(by rw[h2.2.2]at h;cases h)⟩
  |del c ht hw hc=>
    refine⟨c,[],hw,?_⟩;have h1:=(cl c).2.1;have h2:=h1.resolve_left (by rw[hc];simp);exact⟨λh=>(by rw[h2.1]at h;cases h),λh=>(by rw[h2.2.1]at h;cases h),λh=>(by rw[h2.2.2]at h;cases h),λ_=>⟨ht,hw⟩⟩
  |num b q hw hk hb=>
    refine⟨b,q,hw,?_⟩;have h1:=(cl b).2.2.1;have hh:¬((aK b=false∧(b.toNat==45)=false)∧(b.toNat==46)=false):=by
      rintro⟨⟨h1,h2⟩,h3⟩;rcases hb with hb|hb|hb
      · rw[hb]at h1;cases h1
      · rw[hb]at h2;cases h2
      · rw[hb]at h3;cases h3
    have h2:=h1.resolve_left hh;exact⟨λ_=>hk,λh=>(by rw[h2.1]at h;cases h),λh=>(by rw[h2.2.1]at h;cases h),λh=>(by rw[h2.2.2]at h;cases h)⟩
  |sp b ht hw hb=>
    refine⟨b,[],hw,?_⟩;have h1:=(cl b).2.2.2.1;have h2:=h1.resolve_left (by rw[hb];simp);exact⟨λh=>(by rw[h2.1]at h;cases h),λ_=>⟨ht,hw⟩,λh=>(by rw[h2.2.1]at h;cases h),λh=>(by rw[h2.2.2]at h;cases h)⟩
  |yd b q hw hb=>
    refine⟨b,q,hw,?_⟩;have h1:=(cl b).2.2.2.2;have h2:=h1.resolve_left (by
      rintro⟨⟨⟨⟨⟨⟨a1,a2⟩,a3⟩,a4⟩,a5⟩,a6⟩,a7⟩;rcases hb with hb|hb|hb|hb|hb|hb|hb
      · rw[hb]at a1;cases a1
      · rw[hb]at a2;cases a2
      · rw[hb]at a3;cases a3
      · rw[hb]at a4;cases a4
      · rw[hb]at a5;cases a5
      · rw[hb]at a6;cases a6
      · rw[hb]at a7;cases a7)
    exact⟨λh=>(by rw[h2.1]at h;cases h),λh=>(by rw[h2.2.1]at h;cases h),λh=>(by rw[h2.2.2.1]at h;cases h),λh=>(by rw[h2.2.2.2]at h;cases h)⟩
theorem UH{w:J}{n:Int}(h:ra w n true)(s:J)(hs:s.length≤5000)(i:Nat)(hi:i≤s.length)(d:UInt8)(q:J)(hd:s.drop i=w++48::46::d::q):
    fh 30000 s (i:Int)=some (⟨10,[],n,[],false⟩,((i+w.length+1:Nat):Int)):=by
  obtain⟨b0,z,e,_⟩:=h.hd;have mA:s.drop i=b0::(z++48::46::d::q):=by rw[hd,e];rfl
  have hE:nE true (48::46::d::q)=(1,false):=rfl;obtain⟨p1,p2,p3,p4⟩:=JU h s hs i hi (48::46::d::q) hd 1 false hE;rw[mX s hs i _ _ mA];have hc:=JT h (48::46::d::q);rw[e]at hc;rw[show(b0::(z++48::46::d::q):J)=b0::z++48::46::d::q from rfl,hc];show mo 30000 s (i:Int)=_;have nx:sub s (i:Int) ((i+w.length+1:Nat):Int)=w++[48]:=by
    unfold sub;rw[Int.toNat_natCast,Int.toNat_natCast,hd,show i+w.length+1-i=(w++[48]).length from by rw[bB,aZ,bW];omega,show w++48::46::d::q=(w++[48])++46::d::q from by simp,List.take_left]
  have hn:du (46::d::q)=false:=by
    show cond (ag 45 46) _ (cond (cB 46) true (cond (ag 92 46) _ false))=false;rw[show cB 46=false from by kernel_rfl];rfl
  rw[p4,nx,h.v0 rfl,ai,show(48::46::d::q:J).drop 1=46::d::q from rfl,hn,ae,show t1 (ag 37) (46::d::q)=false from rfl,ae]
structure It where
  sep:Bool
  w:J
  t:aq
def dz(b:Bool):J:=cond b [47,42,42,47] []
def aC:List It→J
  |[]=>[]
  |x::l=>dz x.sep++(x.w++aC l)
theorem rc:∀a b:List It,aC (a++b)=aC a++aC b
  |[],b=>rfl
  |x::a,b=>by
    show dz x.sep++(x.w++aC (a++b))=(dz x.sep++(x.w++aC a))++aC b;rw[rc a b,c7,c7]
def Sh(t:aq)(r:J):Prop:=t.ah=10∧t.bS=false∧∃d q,r=48::46::d::q∧aK d=true
structure iM(x:It):Prop where
  fi:Fi x.t
  len:CS x.t
  wt:Wt x.t x.w
def Good:List It→J→Prop
  |[],_=>True
  |x::l,e=>iM x∧(okB x.t (aC l++e)=true∨Sh x.t (aC l++e))∧Good l e
theorem a1W{r:J}(h:okB yb r=true):t1 (ag 42) r=false:=by
  have h:(Nat.beq (dU ([47]++r)) 9&&!(([47]:J)==[47]&&t1 (ag 42) r))=true:=h;rw[Bool.and_eq_true]at h;cases hx:t1 (ag 42) r with
  |false=>rfl
  |true=>rw[hx]at h;cases h.2
theorem CY{p:UInt8→Bool}{r:J}(h:t1 p r=true):∃b q,r=b::q∧p b=true:=by
  cases r with
  |nil=>cases h
  |cons b q=>exact⟨b,q,rfl,h⟩
theorem agh{x:It}(h:iM x)(r:J)(hr:x.t=yb→t1 (ag 42) r=false):lU (x.w++r)=false:=by
  obtain⟨b,q,hw,hf⟩:=K4 (ye x.t h.fi x.w h.wt);rw[hw];by_cases hb:b=47
  · subst hb;obtain⟨h1,h2⟩:=hf.x (by decide);rw[hw]at h2;injection h2 with _ h2;subst h2;have h3:=hr h1;show lU (47::r)=false;cases r with
    |nil=>unfold lU;split<;>simp_all
    |cons c r=>
      unfold lU;split
      · rename_i h;injection h with _ h;injection h with h;rw[h]at h3;cases h3
      · rfl
  · show lU (b::(q++r))=false;unfold lU;split
    · rename_i h;injection h with h;exact absurd h hb
    · rfl
theorem a1X{x:It}{r:J}(h:okB x.t r=true∨Sh x.t r):x.t=yb→t1 (ag 42) r=false:=by
  intro hx;rw[hx]at h;rcases h with h|h
  · exact a1W h
  · cases h.1
theorem K5(s:J)(hs:s.length≤5000)(i:Nat)(hi:i≤s.length)(x:It)(h:iM x)(r:J)(hr:x.t=yb→t1 (ag 42) r=false)(hd:s.drop i=dz x.sep++(x.w++r)):
    fq 30000 s (i:Int)=some ((i+(dz x.sep).length:Nat):Int)∧s.drop (i+(dz x.sep).length)=x.w++r∧i+(dz x.sep).length+x.w.length≤s.length∧0<x.w.length:=by
  have dw:s.drop (i+(dz x.sep).length)=x.w++r:=mu hd;have hl:=sD hi hd;rw[bB]at hl;have cQ:=(ye x.t h.fi x.w h.wt).ne;have lx:=List.length_pos_iff.2 cQ;have hc:=agh h r hr;refine⟨?_,dw,by omega,lx⟩;cases hx:x.sep with
  |false=>
    rw[hx]at hd;exact CX s (by omega) i hi (by rw[hd];exact hc)
  |true=>
    rw[hx]at hd;exact agb s (by omega) i (x.w++r) hd hc
theorem O2(t:aq)(h:Fi t)(hk:t.ah=12):t.Unit≠[]∧∀c∈t.Unit,0<c.toNat:=by
  cases h with
  |jZ n b u h1 h2 h3 hu h0=>exact⟨hu,h0⟩
  |nm k s dq h h0=>rcases dq with rfl|rfl|rfl<;>cases hk
  |hash s b h h0 hb=>cases hk
  |st k s dq h0=>rcases dq with rfl|rfl<;>cases hk
  |del c hc=>cases hk
  |mk k h1 h2=>dsimp only at hk;omega
  |num n b h1 h2 h3=>cases hk
  |mw n h1 h2=>cases hk
theorem agj(t:aq)(h:Fi t)(hk:t.ah=10)(hb:t.bS=false):t=⟨10,[],t.bu,[],false⟩:=by
  cases h with
  |num n b h1 h2 h3=>dsimp only at hb;subst hb;rfl
  |jZ n b u h1 h2 h3 hu h0=>cases hk
  |nm k s dq h h0=>rcases dq with rfl|rfl|rfl<;>cases hk
  |hash s b h h0 hb=>cases hk
  |st k s dq h0=>rcases dq with rfl|rfl<;>cases hk
  |del c hc=>cases hk
  |mk k h1 h2=>dsimp only at hk;omega
  |mw n h1 h2=>cases hk
theorem UI{l:List It}(h:Good l []){d:UInt8}{q:J}(hr:aC l=48::46::d::q)(hd:aK d=true):∃y l' z,l=y::l'∧y.sep=false∧y.w=48::46::z∧iM ⟨false,46::z,y.t⟩:=by
  cases l with
  |nil=>cases hr
  |cons y l=>
    obtain⟨h1,h2,h3⟩:=h;refine⟨y,l,?_⟩;have hr:dz y.sep++(y.w++aC l)=48::46::d::q:=hr;have nY:y.sep=false:=by
      cases hx:y.sep with
      |false=>rfl
      |true=>rw[hx]at hr;injection hr with hr;cases hr
    rw[nY]at hr;have hr:y.w++aC l=48::46::d::q:=hr;obtain⟨b,u,hw,hf⟩:=K4 (ye y.t h1.fi y.w h1.wt);rw[hw]at hr;injection hr with hb hr;subst hb;have hk:=hf.d rfl;have hw0:y.w=fv y.t:=by
      rcases h1.wt with h|⟨h,_⟩|⟨_,z,h,_⟩
      · exact h
      · rw[h]at hk;rcases hk with h|h|h<;>cases h
      · rw[hw]at h;injection h with h;cases h
    cases u with
    |cons c u=>
      injection hr with hc hr;subst hc;exact⟨u,rfl,nY,hw,⟨h1.fi,h1.len,Or.inr (Or.inr ⟨hk,u,rfl,by rw[←hw0,hw]⟩)⟩⟩
    |nil=>
      exfalso;have hr:aC l=46::d::q:=hr;rw[hr,List.append_nil]at h2;obtain⟨w',fr,a1,a2,a3⟩:=w8 y.t h1.fi y.w h1.wt hk;have hlen:w'=[48]∧fN y.t=[]:=by
        rw[hw]at a2;have cQ:=a1.ne;cases w' with
        |nil=>exact absurd rfl cQ
        |cons a w'=>
          injection a2 with e1 e2;have e2:=List.append_eq_nil_iff.1 e2.symm;rw[←e1,e2.1];exact⟨rfl,e2.2⟩
      obtain⟨e1,e2⟩:=hlen;subst e1;have hE:=(a1.ext []).2;have hE2:iJ ([48]++[])=(1,true):=rfl;have NT:fr=false:=by
        rw[hE2]at hE;have hnE:nE fr []=(0,!fr):=NV (by cases fr<;>rfl);rw[hnE]at hE;injection hE with _ hE;cases fr with
        |false=>rfl
        |true=>cases hE
      rcases hk with hk|hk|hk
      · have sM:=a3 (by omega);rw[NT]at sM;have UJ:y.t.bS=true:=by cases hx:y.t.bS with
          |true=>rfl
          |false=>rw[hx]at sM;cases sM
        rcases h2 with h2|⟨_,h2,_⟩
        · unfold okB at h2;rw[hk,UJ]at h2;have h2:(Nat.beq (nE false (46::d::q)).1 0&&_)=true:=h2;rw[Bool.and_eq_true]at h2;have h3:=Nat.eq_of_beq_eq_true h2.1;have h4:nA false (46::d::q)=(0+1+(dd (d::q)).length,false):=by
            unfold nA;show cond (cond false false (cond true (t1 aK (d::q)) false)) _ _=_;rw[show t1 aK (d::q)=true from hd];rfl
          unfold nE at h3;rw[h4]at h3;dsimp only at h3;omega
        · rw[h2]at UJ;cases UJ
      · unfold fN at e2;rw[hk]at e2;cases e2
      · unfold fN at e2;rw[hk]at e2;have e2:bX y.t.Unit=[]:=e2;have hu:=O2 y.t h1.fi hk;have:=(FQ y.t.Unit hu.1 hu.2 []).1;rw[e2]at this;cases this
theorem UK{x:It}(h:iM x){r:J}(hs:Sh x.t r):∃n,x.t=⟨10,[],n,[],false⟩∧ra x.w n true:=by
  obtain⟨h1,h2,h3⟩:=hs;obtain⟨w',fr,a1,a2,a3⟩:=w8 x.t h.fi x.w h.wt (Or.inl h1);have a3:=a3 (by omega);have ht:fN x.t=[]:=by unfold fN;rw[h1];rfl
  rw[ht,List.append_nil]at a2;rw[h2]at a3;subst a2;rw[a3]at a1;exact⟨x.t.bu,agj x.t h.fi h1 h2,a1⟩
theorem UL(s:J)(hs:s.length≤5000):∀(n:Nat)(l:List It)(i:Nat),l.length≤n→Good l []→i≤s.length→s.drop i=aC l→∃k:Nat,fq 30000 s (i:Int)=some (k:Int)∧k≤s.length∧iL s k (l.map It.t)
  |_,[],i,hn,h,hi,hd=>by
    have kQ:i=s.length:=by
      have:=congrArg List.length hd;rw[List.length_drop]at this;have:s.length-i=0:=this;omega
    refine⟨i,CX s (by omega) i hi (by rw[hd];rfl),hi,?_⟩;rw[kQ];exact .nil
  |0,x::l,i,hn,h,hi,hd=>by simp at hn
  |n+1,x::l,i,hn,h,hi,hd=>by
    have hn:l.length≤n:=by simp at hn;omega
    obtain⟨h1,h2,h3⟩:=h;rw[List.append_nil]at h2;obtain⟨a1,a2,a3,a4⟩:=K5 s hs i hi x h1 (aC l) (a1X h2) hd;refine⟨_,a1,by omega,?_⟩;rcases h2 with h2|h2
    · have hr:=Ux x.t h1.fi h1.len x.w h1.wt s hs _ (by omega) (aC l) a2 h2;obtain⟨k,k1,k2,k3⟩:=UL s hs n l _ hn h3 a3 (mu a2);exact .cons (by omega) hr (by omega) a3 k1 k2 k3
    · obtain⟨m,e1,e2⟩:=UK h1 h2;obtain⟨_,_,d,q,hr,iO⟩:=h2;obtain⟨y,l',z,rfl,y1,y2,y3⟩:=UI h3 hr iO;obtain⟨g1,g2,g3⟩:=h3;rw[hr]at a2;have hr:=UH e2 s hs _ (by omega) d q a2;rw[←e1]at hr;have iP:s.drop (i+(dz x.sep).length+x.w.length+1)=aC (⟨false,46::z,y.t⟩::l'):=by
        rw[←List.drop_drop,mu a2];have:aC (y::l')=48::46::d::q:=by assumption
        show(48::46::d::q:J).drop 1=46::z++aC l';rw[←this];show(dz y.sep++(y.w++aC l')).drop 1=_;rw[y1,y2];rfl
      have hlen:i+(dz x.sep).length+x.w.length+1≤s.length:=by
        have:=sD (by omega) a2;simp only[aZ]at this;omega
      obtain⟨k,k1,k2,k3⟩:=UL s hs n (⟨false,46::z,y.t⟩::l') _ hn ⟨y3,g2,g3⟩ hlen iP;exact .cons (by omega) hr (by omega) hlen k1 k2 k3
def K6(b:UInt8):Bool:=b==32||(b==59||b==47)
def sE:J→Prop
  |[]=>True
  |b::_=>K6 b=true
theorem agk:((List.range 256).all λn=>!(K6 (UInt8.ofNat n))||(!(dc (UInt8.ofNat n))&&(!(cB (UInt8.ofNat n))&&(!(aK (UInt8.ofNat n))&&(!(bp (UInt8.ofNat n))&&!(cc (UInt8.ofNat n))&&([10,92,40,62,45,46,37,33,42].all λk=>!(ag k (UInt8.ofNat n))))))))=true:=by kernel_rfl
structure yf(x:J):Prop where
  l:t1 dc x=false
  f:t1 cB x=false
  d:t1 aK x=false
  g:t1 bp x=false
  e:t1 cc x=false
  b:∀k,k∈[10,92,40,62,45,46,37,33,42]→t1 (ag k) x=false
theorem O3{x:J}(h:sE x):yf x:=by
  cases x with
  |nil=>exact⟨rfl,rfl,rfl,rfl,rfl,λ_ _=>rfl⟩
  |cons c x=>
    have h:K6 c=true:=h;have h1:=iw (p:=λn=>!(K6 (UInt8.ofNat n))||(!(dc (UInt8.ofNat n))&&(!(cB (UInt8.ofNat n))&&(!(aK (UInt8.ofNat n))&&(!(bp (UInt8.ofNat n))&&!(cc (UInt8.ofNat n))&&([10,92,40,62,45,46,37,33,42].all λk=>!(ag k (UInt8.ofNat n)))))))) agk c;rw[UInt8.ofNat_toNat,h,dK,gr]at h1;simp only[Bool.and_eq_true,Bool.not_eq_true']at h1;obtain⟨a1,a2,a3,⟨a4,a5⟩,a6⟩:=h1;refine⟨a1,a2,a3,a4,a5,λk hk=>?_⟩;have:=List.all_eq_true.1 a6 k hk;rw[Bool.not_eq_true']at this;exact this
def Nx(r x:J):Prop:=4≤r.length∨sE x
theorem nZ{r x:J}(h:Nx r x)(hr:r.length<4):yf x:=O3 (h.resolve_left (by omega))
theorem yh{p:UInt8→Bool}{r x:J}(h:Nx r x)(hp:yf x→t1 p x=false):t1 p (r++x)=t1 p r:=by
  cases r with
  |nil=>exact hp (nZ h (by simp))
  |cons a r=>rfl
theorem UM{x:J}(h:yf x):gv x=false:=by unfold gv;rw[h.b 92 (by simp)];rfl
theorem O4{r x:J}(h:Nx r x):gv (r++x)=gv r:=by
  match r,h with
  |[],h=>exact UM (nZ h (by simp))
  |[a],h=>
    show cond (ag 92 a) (!(t1 (ag 10) x)) false=cond (ag 92 a) true false;rw[(nZ h (by simp)).b 10 (by simp)];rfl
  |a::b::r,_=>rfl
theorem O5{r x:J}(h:Nx r x):eW (r++x)=eW r:=by
  unfold eW;rw[yh h yf.l,O4 h]
theorem agl{x:J}(h:yf x):du x=false:=by unfold du;rw[h.b 45 (by simp),h.f,UM h];rfl
theorem UN{r x:J}(h:Nx r x):du (r++x)=du r:=by
  match r,h with
  |[],h=>exact agl (nZ h (by simp))
  |[a],h=>
    have hn:=nZ h (by simp);have h2:=O4 (r:=[a]) (Or.inr (h.resolve_left (by simp)));show cond (ag 45 a) (cond (cond (t1 cB x) true (t1 (ag 45) x)) true (gv x)) (cond (cB a) true (gv ([a]++x)))=cond (ag 45 a) false (cond (cB a) true (gv [a]));rw[h2,hn.f,hn.b 45 (by simp),UM hn];rfl
  |[a,b],h=>
    have hn:=nZ h (by simp);have h2:=O4 (r:=[b]) (Or.inr (h.resolve_left (by simp)));show cond (ag 45 a) (cond (cond (cB b) true (ag 45 b)) true (gv ([b]++x))) (cond (cB a) true (gv [a,b]))=cond (ag 45 a) (cond (cond (cB b) true (ag 45 b)) true (gv [b])) (cond (cB a) true (gv [a,b]));rw[h2]
  |a::b::c::r,_=>rfl
def lV(r:J):Bool:=cond (t1 cc r) (cond (t1 bp (r.drop 1)) (t1 aK (r.drop 2)) (t1 aK (r.drop 1))) false
theorem yi(r:J):Nat.beq (de r) 0=!(lV r):=by
  unfold de lV;cases t1 cc r with
  |false=>rfl
  |true=>
    rw[af,af];cases t1 bp (r.drop 1)with
    |true=>
      rw[af,af];cases t1 aK (r.drop 2)with
      |true=>exact ua (by rw[af];omega)
      |false=>rfl
    |false=>
      rw[ae,ae];cases t1 aK (r.drop 1)with
      |true=>exact ua (by rw[af];omega)
      |false=>rfl
theorem a1Y{r x:J}(h:Nx r x):lV (r++x)=lV r:=by
  match r,h with
  |[],h=>
    show lV x=false;unfold lV;rw[(nZ h (by simp)).e];rfl
  |[a],h=>
    have hn:=nZ h (by simp);show cond (cc a) (cond (t1 bp x) (t1 aK (x.drop 1)) (t1 aK x)) false=cond (cc a) false false;rw[hn.g,hn.d];rfl
  |[a,b],h=>
    have hn:=nZ h (by simp);show cond (cc a) (cond (bp b) (t1 aK x) (aK b)) false=cond (cc a) (cond (bp b) false (aK b)) false;rw[hn.d]
  |a::b::c::r,_=>rfl
def Ae(fr:Bool)(r:J):Bool:=!(t1 aK r)&&((fr||!(t1 (ag 46) r&&t1 aK (r.drop 1)))&&!(lV r))
theorem FU(fr:Bool)(r:J):Nat.beq (nE fr r).1 0=Ae fr r:=by
  unfold Ae;cases h1:t1 aK r with
  |true=>
    rw[dK,Bool.false_and];refine ua λh=>?_;have hk:0<(dd r).length:=by
      obtain⟨b,q,e,hb⟩:=CY h1;rw[e];unfold dd;rw[List.takeWhile_cons_of_pos hb,aZ];omega
    unfold nE at h;dsimp only at h;have:0<(nA fr r).1:=by
      unfold nA;cases cond fr false (cond (t1 (ag 46) (r.drop (dd r).length)) (t1 aK (r.drop ((dd r).length+1))) false)with
      |true=>show 0<(dd r).length+1+_;omega
      |false=>exact hk
    omega
  |false=>
    rw[j8,E3];cases h3:lV r with
    |true=>
      rw[dK,Bool.and_false];refine ua λh=>?_;have he:de r≠0:=by
        intro he;have:=yi r;rw[he,h3]at this;cases this
      have kQ:t1 cc r=true:=by
        unfold lV at h3;cases hx:t1 cc r with
        |true=>rfl
        |false=>rw[hx]at h3;cases h3
      have fL:t1 (ag 46) r=false:=by
        obtain⟨b,q,e,hb⟩:=CY kQ;rw[e];cases hx:ag 46 b with
        |false=>exact hx
        |true=>
          have:=(Ny hx).2.2.1;rw[hb]at this;cases this
      have hA:nA fr r=(0,!fr):=by
        unfold nA;rw[Ac h1];have:cond fr false (cond (t1 (ag 46) (r.drop ([]:J).length)) (t1 aK (r.drop (([]:J).length+1))) false)=false:=by
          show cond fr false (cond (t1 (ag 46) r) _ false)=false;rw[fL];cases fr<;>rfl
        rw[this];rfl
      unfold nE at h;rw[hA]at h;dsimp only at h;rw[fG]at h;omega
    |false=>
      rw[j8,B9];have he:de r=0:=by
        have:=yi r;rw[h3]at this;exact Nat.eq_of_beq_eq_true this
      cases h2:(fr||!(t1 (ag 46) r&&t1 aK (r.drop 1)))with
      |true=>
        refine O0 (JV h1 ?_ he);cases fr with
        |true=>exact Or.inl rfl
        |false=>
          rw[gr,Bool.not_eq_true',Bool.and_eq_false_iff]at h2;exact Or.inr h2
      |false=>
        rw[pw,Bool.not_eq_false',Bool.and_eq_true]at h2;obtain⟨rfl,h4,h5⟩:=h2;refine ua λh=>?_;have hA:(nA false r).1=0+1+(dd (r.drop 1)).length:=by
          unfold nA;rw[Ac h1];show(cond (cond false false (cond (t1 (ag 46) r) (t1 aK (r.drop 1)) false)) _ _:Nat×Bool).1=_;rw[h4,h5];rfl
        unfold nE at h;rw[hA]at h;dsimp only at h;omega
theorem agm{fr:Bool}{r x:J}(h:Nx r x):Ae fr (r++x)=Ae fr r:=by
  unfold Ae;rw[yh h yf.d,a1Y h,yh (p:=ag 46) h (λhn=>hn.b 46 (by simp))];have e:(t1 (ag 46) r&&t1 aK ((r++x).drop 1))=(t1 (ag 46) r&&t1 aK (r.drop 1)):=by
    match r,h with
    |[],h=>rfl
    |[a],h=>
      show(ag 46 a&&t1 aK x)=(ag 46 a&&false);rw[(nZ h (by simp)).d]
    |a::b::r,_=>rfl
  rw[e]
theorem agn{r x:J}(h:Nx r x):ji (r++x)=ji r:=by
  have l1:∀{q:J},sE x→t1 aK (q++x)=t1 aK q:=λhn=>yh (Or.inr hn) yf.d
  match r,h with
  |[],h=>
    have hn:=nZ h (by simp);show ji x=false;unfold ji vZ;rw[hn.g,ae,hn.b 46 (by simp),ae,hn.d]
  |[a],h=>
    have hx:sE x:=h.resolve_left (by simp);have hn:=O3 hx;show t1 aK (cond (t1 (ag 46) (cond (bp a) x (a::x))) ((cond (bp a) x (a::x)).drop 1) (cond (bp a) x (a::x)))=t1 aK (cond (t1 (ag 46) (cond (bp a) [] [a])) ((cond (bp a) [] [a]).drop 1) (cond (bp a) [] [a]));cases bp a with
    |true=>rw[af,af,hn.b 46 (by simp)];exact hn.d
    |false=>
      rw[ae,ae];show t1 aK (cond (ag 46 a) x (a::x))=t1 aK (cond (ag 46 a) [] [a]);cases ag 46 a with
      |true=>exact hn.d
      |false=>rfl
  |[a,b],h=>
    have hx:sE x:=h.resolve_left (by simp);have hn:=O3 hx;show t1 aK (cond (t1 (ag 46) (cond (bp a) (b::x) (a::b::x))) ((cond (bp a) (b::x) (a::b::x)).drop 1) (cond (bp a) (b::x) (a::b::x)))=t1 aK (cond (t1 (ag 46) (cond (bp a) [b] [a,b])) ((cond (bp a) [b] [a,b]).drop 1) (cond (bp a) [b] [a,b]));cases bp a with
    |true=>
      rw[af,af];show t1 aK (cond (ag 46 b) x (b::x))=t1 aK (cond (ag 46 b) [] [b]);cases ag 46 b with
      |true=>exact hn.d
      |false=>rfl
    |false=>
      rw[ae,ae];show t1 aK (cond (ag 46 a) (b::x) (a::b::x))=t1 aK (cond (ag 46 a) [b] [a,b]);cases ag 46 a<;>rfl
  |a::b::c::r,_=>
    show t1 aK (cond (t1 (ag 46) (cond (bp a) (b::c::(r++x)) (a::b::c::(r++x)))) ((cond (bp a) (b::c::(r++x)) (a::b::c::(r++x))).drop 1) (cond (bp a) (b::c::(r++x)) (a::b::c::(r++x))))=t1 aK (cond (t1 (ag 46) (cond (bp a) (b::c::r) (a::b::c::r))) ((cond (bp a) (b::c::r) (a::b::c::r)).drop 1) (cond (bp a) (b::c::r) (a::b::c::r)));cases bp a with
    |true=>rw[af,af];show t1 aK (cond (ag 46 b) (c::(r++x)) (b::c::(r++x)))=t1 aK (cond (ag 46 b) (c::r) (b::c::r));cases ag 46 b<;>rfl
    |false=>rw[ae,ae];show t1 aK (cond (ag 46 a) (b::c::(r++x)) (a::b::c::(r++x)))=t1 aK (cond (ag 46 a) (b::c::r) (a::b::c::r));cases ag 46 a<;>rfl
theorem CZ{k:Nat}{a:UInt8}(hk:k<256):ag k a=(a==UInt8.ofNat k):=by
  have:=UC a (UInt8.ofNat k);rw[UInt8.toNat_ofNat',show k%2^8=k from Nat.mod_eq_of_lt hk]at this;exact this
theorem a1Z(r:J):kA r=(t1 (ag 45) r&&(t1 (ag 45) (r.drop 1)&&t1 (ag 62) (r.drop 2))):=by
  rw[←a1g]
  match r with
  |[]=>rfl
  |[a]=>show false=(ag 45 a&&(false&&false));cases ag 45 a<;>rfl
  |[a,b]=>show false=(ag 45 a&&(ag 45 b&&false));cases ag 45 a<;>cases ag 45 b<;>rfl
  |a::b::c::q=>
    rw[bC (by simp),af];show([a,b,c]==[45,45,62])=(ag 45 a&&(ag 45 b&&ag 62 c));rw[CZ (by decide),CZ (by decide),CZ (by decide),Bool.eq_iff_iff];simp
theorem a22(r:J):lS r=(t1 (ag 60) r&&(t1 (ag 33) (r.drop 1)&&(t1 (ag 45) (r.drop 2)&&t1 (ag 45) (r.drop 3)))):=by
  rw[←a1h]
  match r with
  |[]=>rfl
  |[a]=>show false=(ag 60 a&&(false&&(false&&false)));cases ag 60 a<;>rfl
  |[a,b]=>show false=(ag 60 a&&(ag 33 b&&(false&&false)));cases ag 60 a<;>cases ag 33 b<;>rfl
  |[a,b,c]=>show false=(ag 60 a&&(ag 33 b&&(ag 45 c&&false)));cases ag 60 a<;>cases ag 33 b<;>cases ag 45 c<;>rfl
  |a::b::c::d::q=>
    rw[bC (by simp),af];show([a,b,c,d]==[60,33,45,45])=(ag 60 a&&(ag 33 b&&(ag 45 c&&ag 45 d)));rw[CZ (by decide),CZ (by decide),CZ (by decide),CZ (by decide),Bool.eq_iff_iff];simp
theorem ago(c:UInt8){r x:J}(h:Nx r x):dU (c::(r++x))=dU (c::r):=by
  have h':Nx (c::r) x:=by
    rcases h with h|h
    · exact Or.inl (by rw[aZ];omega)
    · exact Or.inr h
  have e1:oR (c::(r++x))=oR (c::r):=by
    show cond (ag 35 c) (cond (t1 dc (r++x)) true (gv (r++x))) false=cond (ag 35 c) (cond (t1 dc r) true (gv r)) false;rw[yh h yf.l,O4 h]
  have e2:ji (c::(r++x))=ji (c::r):=agn h';have e3:kA (c::(r++x))=kA (c::r):=by
    rw[a1Z,a1Z];show(ag 45 c&&(t1 (ag 45) (r++x)&&t1 (ag 62) ((r++x).drop 1)))=(ag 45 c&&(t1 (ag 45) r&&t1 (ag 62) (r.drop 1)))
    match r,h with
    |[],h=>
      have hn:=nZ h (by simp);show(ag 45 c&&(t1 (ag 45) x&&t1 (ag 62) (x.drop 1)))=(ag 45 c&&(false&&false));rw[hn.b 45 (by simp)];rfl
    |[a],h=>
      have hn:=nZ h (by simp);show(ag 45 c&&(ag 45 a&&t1 (ag 62) x))=(ag 45 c&&(ag 45 a&&false));rw[hn.b 62 (by simp)]
    |a::b::r,_=>rfl
  have e4:lS (c::(r++x))=lS (c::r):=by
    rw[a22,a22];show(ag 60 c&&(t1 (ag 33) (r++x)&&(t1 (ag 45) ((r++x).drop 1)&&t1 (ag 45) ((r++x).drop 2))))=(ag 60 c&&(t1 (ag 33) r&&(t1 (ag 45) (r.drop 1)&&t1 (ag 45) (r.drop 2))))
    match r,h with
    |[],h=>
      have hn:=nZ h (by simp);show(ag 60 c&&(t1 (ag 33) x&&_))=(ag 60 c&&(false&&_));rw[hn.b 33 (by simp)];rfl
    |[a],h=>
      have hn:=nZ h (by simp);show(ag 60 c&&(ag 33 a&&(t1 (ag 45) x&&t1 (ag 45) (x.drop 1))))=(ag 60 c&&(ag 33 a&&(false&&false)));rw[hn.b 45 (by simp)];rfl
    |[a,b],h=>
      have hn:=nZ h (by simp);show(ag 60 c&&(ag 33 a&&(ag 45 b&&t1 (ag 45) x)))=(ag 60 c&&(ag 33 a&&(ag 45 b&&false)));rw[hn.b 45 (by simp)]
    |a::b::d::r,_=>rfl
  have e5:r9 (c::(r++x))=r9 (c::r):=by
    show cond (ag 64 c) (du (r++x)) false=cond (ag 64 c) (du r) false;rw[UN h]
  have e6:du (c::(r++x))=du (c::r):=UN h';unfold dU;rw[e1,e2,e3,e4,e5,e6];rfl
theorem a23{r x:J}(h:mv r=true):mv (r++x)=true:=by
  unfold mv at h⊢
  match r with
  |[]=>cases h
  |[a]=>
    have h:(ag 34 a||ag 32 a&&false)=true:=h;rw[Bool.and_false,Bool.or_false]at h;show(ag 34 a||_)=true;rw[h];rfl
  |a::b::r=>exact h
theorem a25(t:aq)(hF:Fi t)(r x:J)(h:Nx r x)(iK:t=df→r≠[]∨t1 bw x=false)(bQ:okB t r=true):okB t (r++x)=true:=by
  cases hF with
  |nm k l hk h2 h0=>
    rcases hk with rfl|rfl|rfl
    · have bQ:(eW r&&(!(t1 (ag 40) r)&&!(l==[45,45]&&t1 (ag 62) r)))=true:=bQ;show(eW (r++x)&&(!(t1 (ag 40) (r++x))&&!(l==[45,45]&&t1 (ag 62) (r++x))))=true;rw[O5 h,yh (p:=ag 40) h (λhn=>hn.b 40 (by simp)),yh (p:=ag 62) h (λhn=>hn.b 62 (by simp))];exact bQ
    · have bQ:(!(jj l)||mv r)=true:=bQ;show(!(jj l)||mv (r++x))=true;cases hu:jj l with
      |false=>rfl
      |true=>rw[hu]at bQ;exact a23 bQ
    · have bQ:eW r=true:=bQ;show eW (r++x)=true;rw[O5 h];exact bQ
  |hash l b h2 h0 hb=>
    have bQ:eW r=true:=bQ;show eW (r++x)=true;rw[O5 h];exact bQ
  |st k l hk h0=>rcases hk with rfl|rfl<;>rfl
  |del c hc=>
    have bQ:(Nat.beq (dU (c::r)) 9&&!(([c]:J)==[47]&&t1 (ag 42) r))=true:=bQ;show(Nat.beq (dU (c::(r++x))) 9&&!(([c]:J)==[47]&&t1 (ag 42) (r++x)))=true;rw[ago c h,yh (p:=ag 42) h (λhn=>hn.b 42 (by simp))];exact bQ
  |num n b h1 h2 h3=>
    have bQ:(Nat.beq (nE (!b) r).1 0&&(!(du r)&&!(t1 (ag 37) r)))=true:=bQ;show(Nat.beq (nE (!b) (r++x)).1 0&&(!(du (r++x))&&!(t1 (ag 37) (r++x))))=true;rw[FU,agm h,UN h,yh (p:=ag 37) h (λhn=>hn.b 37 (by simp)),←FU];exact bQ
  |mw n h1 h2=>rfl
  |jZ n b u h1 h2 h3 hu h0=>
    have bQ:(eW r&&Nat.beq (de (bX u++r)) 0)=true:=bQ;show(eW (r++x)&&Nat.beq (de (bX u++(r++x))) 0)=true;have h':Nx (bX u++r) x:=by
      rcases h with h|h
      · exact Or.inl (by rw[bB];omega)
      · exact Or.inr h
    rw[O5 h,←c7,yi,a1Y h',←yi];exact bQ
  |mk k h1 h2=>
    by_cases mZ:k=13
    · subst mZ;have bQ:(!(t1 bw r))=true:=bQ;show(!(t1 bw (r++x)))=true;cases r with
      |nil=>
        rcases iK rfl with h4|h4
        · exact absurd rfl h4
        · show(!(t1 bw x))=true;rw[h4];rfl
      |cons a r=>exact bQ
    · exact Uu (by omega) (by omega)
theorem a26(t:aq)(r x:J)(h:Sh t r):Sh t (r++x):=by
  obtain⟨h1,h2,d,q,h3,h4⟩:=h;exact⟨h1,h2,d,q++x,by rw[h3];rfl,h4⟩
theorem agp:((List.range 256).all λn=>(!(cc (UInt8.ofNat n))||cB (UInt8.ofNat n)&&(!(ag 45 (UInt8.ofNat n))&&!(n==45)))&&(!(bp (UInt8.ofNat n)&&fa (n:Int))||n==45)&&(!(aK (UInt8.ofNat n))||!(n==45)))=true:=by kernel_rfl
theorem K7(c:UInt8):(cc c=true→cB c=true∧ag 45 c=false∧c≠45)∧(bp c=true→fa (c.toNat:Int)=true→c=45)∧(aK c=true→c≠45):=by
  have h:=iw (p:=λn=>(!(cc (UInt8.ofNat n))||cB (UInt8.ofNat n)&&(!(ag 45 (UInt8.ofNat n))&&!(n==45)))&&(!(bp (UInt8.ofNat n)&&fa (n:Int))||n==45)&&(!(aK (UInt8.ofNat n))||!(n==45))) agp c;rw[UInt8.ofNat_toNat,Bool.and_eq_true,Bool.and_eq_true]at h;obtain⟨⟨h1,h2⟩,h3⟩:=h;refine⟨λhe=>?_,λhg hn=>?_,λhd=>?_⟩
  · rw[he,dK,gr,Bool.and_eq_true,Bool.and_eq_true,Bool.not_eq_true',Bool.not_eq_true',bE]at h1;exact⟨h1.1,h1.2.1,λhc=>h1.2.2 (by rw[hc];rfl)⟩
  · rw[hg,hn,Bool.and_self,dK,gr,beq_iff_eq]at h2;exact UInt8.toNat_inj.1 h2
  · rw[hd,dK,gr,Bool.not_eq_true',bE]at h3;exact λhc=>h3 (by rw[hc];rfl)
theorem agq{f:Int}{s0:J}{k:Nat}{c:UInt8}(h:fM f s0 k c=true):fa (c.toNat:Int)=true:=by
  unfold fM at h;cases hn:fa (c.toNat:Int)with
  |true=>rfl
  |false=>rw[hn]at h;cases h
theorem K8(c:UInt8)(x:J):t1 aK (fc c++x)=false∧t1 bp (fc c++x)=false∧t1 cc (fc c++x)=false:=by
  obtain⟨q,e⟩:=JL c;rw[e];exact⟨rfl,rfl,rfl⟩
theorem UO(u:J)(h:u≠[])(r:J)(hx:lV (bX u++r)=true):
    (∃e,cc e=true∧bX u=[e]∧(t1 aK r=true∨(t1 bp r=true∧t1 aK (r.drop 1)=true)))∨(∃e,cc e=true∧bX u=[e,45]∧t1 aK r=true):=by
  cases u with
  |nil=>exact absurd rfl h
  |cons c q=>
    rw[NW]at hx⊢;cases hE:xZ (c::q)with
    |true=>
      rw[hE,af,c7]at hx;unfold lV at hx;rw[(K8 c _).2.2]at hx;cases hx
    |false=>
      rw[hE,ae]at hx;rw[ae];unfold cg at hx⊢;generalize bP (c::q)=f at hx⊢;rw[bR,c7]at hx;rw[bR];cases hr:fM f (c::q) 0 c with
      |false=>
        rw[hr,ae]at hx;unfold lV at hx;rw[(K8 c _).2.2]at hx;cases hx
      |true=>
        rw[hr,af]at hx;have hx:cond (cc c) (cond (t1 bp (bR (fM f (c::q)) 1 q++r)) (t1 aK ((bR (fM f (c::q)) 1 q++r).drop 1)) (t1 aK (bR (fM f (c::q)) 1 q++r))) false=true:=hx;cases he:cc c with
        |false=>rw[he]at hx;cases hx
        |true=>
          rw[he,af]at hx;have hE:(cc c&&(ub q&&!(Aa q)))=false:=hE;rw[he,E3]at hE;cases q with
          |nil=>
            left;have hx:cond (t1 bp r) (t1 aK (r.drop 1)) (t1 aK r)=true:=hx;refine⟨c,he,rfl,?_⟩;cases hg:t1 bp r with
            |true=>rw[hg]at hx;exact Or.inr ⟨rfl,hx⟩
            |false=>rw[hg]at hx;exact Or.inl hx
          |cons d q=>
            rw[bR,c7]at hx;cases O6:fM f (c::d::q) 1 d with
            |false=>
              rw[O6,ae]at hx;rw[(K8 d _).1,(K8 d _).2.1]at hx;cases hx
            |true=>
              rw[O6,af]at hx;have hx:cond (bp d) (t1 aK (bR (fM f (c::d::q)) 2 q++r)) (aK d)=true:=hx;cases hg:bp d with
              |false=>
                rw[hg,ae]at hx;exfalso;have hd:=(K7 d).2.2 hx;have e1:A9 (d::q)=false:=bE.2 hd;have e2:ub (d::q)=true:=by unfold ub;rw[e1];exact hx
                have e3:Aa (d::q)=false:=by
                  cases q with
                  |nil=>rfl
                  |cons g q=>show(d==45&&g==45)=false;rw[bE.2 hd];rfl
                rw[e2,e3]at hE;cases hE
              |true=>
                rw[hg,af]at hx;have hd:=(K7 d).2.1 hg (agq O6);subst hd;cases q with
                |nil=>exact Or.inr ⟨c,he,by rw[af,bR,O6];rfl,hx⟩
                |cons g q=>
                  exfalso;rw[bR,c7]at hx;cases hrg:fM f (c::45::g::q) 2 g with
                  |false=>rw[hrg,ae,(K8 g _).1]at hx;cases hx
                  |true=>
                    rw[hrg,af]at hx;have hx:aK g=true:=hx;have agr:=(K7 g).2.2 hx;have e2:ub (45::g::q)=true:=hx;have e3:Aa (45::g::q)=false:=by
                      show((45:UInt8)==45&&g==45)=false;rw[bE.2 agr];rfl
                    rw[e2,e3]at hE;cases hE
theorem UP(u:J)(h:u≠[]):lV (bX u)=false:=by
  cases hx:lV (bX u)with
  |false=>rfl
  |true=>
    rcases UO u h [] (by rw[List.append_nil];exact hx)with⟨e,_,_,h|⟨h,_⟩⟩|⟨e,_,_,h⟩<;>cases h
def n8(b:UInt8):Bool:=cc b||(bp b||aK b)
theorem ags(R:J):(R.take (dd R).length).all n8=true:=by
  unfold dd
  induction R with
  |nil=>rfl
  |cons b R ih=>
    cases h:aK b with
    |true=>
      rw[List.takeWhile_cons_of_pos h,aZ,List.take_succ_cons,List.all_cons,ih];unfold n8;rw[h];simp
    |false=>rw[List.takeWhile_cons_of_neg (by rw[h];decide)];rfl
theorem agt(R:J)(a b:Nat)(h1:(R.take a).all n8=true)(h2:((R.drop a).take b).all n8=true):(R.take (a+b)).all n8=true:=by
  rw[List.take_add,List.all_append,h1,h2];rfl
theorem a27(R:J):(R.take (de R)).all n8=true:=by
  unfold de;cases h1:t1 cc R with
  |false=>rfl
  |true=>
    obtain⟨b,q,rfl,hb⟩:=CY h1;have lX:n8 b=true:=by unfold n8;rw[hb];rfl
    rw[af];show((b::q).take (cond (t1 aK ((b::q).drop (cond (t1 bp q) 2 1))) _ 0)).all n8=true;show((b::q).take (cond (t1 aK ((b::q).drop (cond (t1 bp q) 2 1))) (cond (t1 bp q) 2 1+(dd ((b::q).drop (cond (t1 bp q) 2 1))).length) 0)).all n8=true;cases h2:t1 aK ((b::q).drop (cond (t1 bp q) 2 1))with
    |false=>rfl
    |true=>
      rw[af];refine agt _ _ _ ?_ (ags _);cases h3:t1 bp q with
      |false=>show([b]:J).all n8=true;simp[lX]
      |true=>
        obtain⟨c,z,rfl,hc⟩:=CY h3;have oe:n8 c=true:=by unfold n8;rw[hc];simp
        show([b,c]:J).all n8=true;simp[lX,oe]
def xm(b:UInt8):Bool:=ag 47 b||eG b
theorem agu:((List.range 256).all λn=>!(dc (UInt8.ofNat n))||!(xm (UInt8.ofNat n)))=true:=by kernel_rfl
theorem a29(f:Nat→UInt8→Bool):∀(l:J)(k m:Nat)(x:J),pQ f dc k l→(x=[]∨∃q,x=40::q)→((bR f k l++x).take m).all n8=true→t1 xm ((bR f k l++x).drop m)=false
  |[],k,m,x,h,hx,hm=>by
    rw[bR,List.nil_append]at hm⊢;rcases hx with rfl|⟨q,rfl⟩
    · rw[List.drop_nil];rfl
    · cases m with
      |zero=>rfl
      |succ m=>
        rw[List.take_succ_cons,List.all_cons]at hm;cases hm
  |c::l,k,m,x,h,hx,hm=>by
    obtain⟨h1,h2,h3⟩:=h;rw[bR,c7]at hm⊢;cases hf:f k c with
    |true=>
      rw[hf,af]at hm;rw[af];cases m with
      |zero=>
        show xm c=false;have h4:=iw (p:=λn=>!(dc (UInt8.ofNat n))||!(xm (UInt8.ofNat n))) agu c;rw[UInt8.ofNat_toNat,h1 hf,dK,gr,Bool.not_eq_true']at h4;exact h4
      |succ m=>
        have hm:((c::(bR f (k+1) l++x)).take (m+1)).all n8=true:=hm;rw[List.take_succ_cons,List.all_cons,Bool.and_eq_true]at hm;exact a29 f l (k+1) m x h3 hx hm.2
    |false=>
      rw[hf,ae]at hm;rw[ae];obtain⟨q,e⟩:=JL c;rw[e]at hm⊢;cases m with
      |zero=>rfl
      |succ m=>
        have hm:((92::(q++(bR f (k+1) l++x))).take (m+1)).all n8=true:=hm;rw[List.take_succ_cons,List.all_cons]at hm;cases hm
inductive sF:List It→Prop
  |one (x:It) (h:x.sep=false) (hi:iM x) (fX:x.t.ah=2→jj x.t.az=false):sF [x]
  |bs:sF [⟨false,[92],⟨9,[92],0,[],false⟩⟩,⟨false,[10],df⟩]
  |UQ (x y:It) (h:x.sep=false) (hy:y.sep=false) (hi:iM x) (yj:iM y) (hk:x.t.ah=2) (yk:y.t.ah=5):sF [x,y]
  |UR (x z y:It) (h:x.sep=false) (hz:z.sep=false) (hy:y.sep=false) (hi:iM x) (US:iM z) (yj:iM y) (hk:x.t.ah=2) (O7:z.t=df∧z.w=[32]) (yk:y.t.ah=5):sF [x,z,y]
theorem O8{y:It}(h:iM y)(hk:y.t.ah=5)(r:J):∃q,y.w++r=34::q:=by
  have hw:y.w=fv y.t:=mY h.wt (by intro hh;rw[hh]at hk;cases hk) (by omega);have:fv y.t=34::(ms y.t.az++[34]):=by unfold fv;rw[hk];rfl
  rw[hw,this];exact⟨_,rfl⟩
theorem O9{t:aq}(hk:t.ah=5)(r:J):okB t r=true:=by unfold okB;rw[hk];rfl
theorem Oa{t:aq}(hk:t.ah=2){r:J}(h:mv r=true):okB t r=true:=by
  unfold okB;rw[hk];show(!(jj t.az)||mv r)=true;rw[h,Bool.or_true]
theorem Oc{s:J}{t:aq}{l:List aq}(h:iL s s.length (t::l)):False:=by
  cases h with
  |cons h1 h2 h3 h4 h5 h6 h7=>omega
theorem a2a(fr:Bool):Ae fr []=true:=by cases fr<;>rfl
theorem a2b(s:J)(hs:s.length≤5000)(new:List It)(h:sF new)(i:Nat)(hi:i≤s.length)(hd:s.drop i=aC new)(k:Nat)(hc:fq 30000 s (i:Int)=some (k:Int))(hr:iL s k (new.map It.t)):Good new []:=by
  cases h with
  |one x nY qf fX=>
    refine⟨qf,?_,trivial⟩;left;show okB x.t ([]++[])=true;rw[List.append_nil];obtain⟨a1,a2,a3,a4⟩:=K5 s hs i hi x qf [] (λ_=>rfl) hd;rw[a1]at hc;injection hc with hc;have hk:i+(dz x.sep).length=k:=by omega
    rw[hk]at a2 a3;have hr:iL s k [x.t]:=hr;cases hr with
    |cons h1 h2 h3 h4 h5 h6 h7=>
      have hb:=a1S x.t qf.fi qf.len x.w qf.wt s hs k (by omega) [] a2 (λhk=>by
        unfold okB;rw[hk];show(!(jj x.t.az)||mv [])=true;rw[fX hk];rfl) _ h2
      rcases hb with hb|hb
      · exact hb.1
      · exfalso
        revert hb
        generalize x.t=t;generalize x.w=w;intro hb;cases hb with
        |sp _ h _=>cases h
        |sl _ h=>cases h
        |num n b _ h1 h2 h3 h4 hj=>
          have:=FU (!b) [];rw[a2a]at this;exact h1 (Nat.eq_of_beq_eq_true this)
        |jZ n b u w' h1 h2 hj=>
          by_cases hu:u=[]
          · subst hu;cases h2
          · have:=yi (bX u++[]);rw[List.append_nil,UP u hu]at this;rw[List.append_nil]at h1;exact h1 (Nat.eq_of_beq_eq_true this)
  |bs=>
    refine⟨⟨.del 92 (by kernel_rfl),⟨by decide,by decide⟩,Or.inl rfl⟩,Or.inl ?_,⟨.mk 13 (by decide) (by decide),⟨by decide,by decide⟩,Or.inr (Or.inl ⟨rfl,rfl⟩)⟩,Or.inl rfl,trivial⟩;kernel_rfl
  |UQ x y h hy kf yj hk yk=>
    refine⟨kf,Or.inl ?_,yj,Or.inl (O9 yk _),trivial⟩;obtain⟨q,e⟩:=O8 yj yk (aC []++[]);have e2:aC [y]++[]=34::q:=by
      show(dz y.sep++(y.w++aC []))++[]=_;rw[hy,←e];simp[dz,aC]
    rw[e2];exact Oa hk rfl
  |UR x z y h hz hy kf US yj hk O7 yk=>
    obtain⟨q,e⟩:=O8 yj yk (aC []++[]);have e2:aC [y]++[]=34::q:=by
      show(dz y.sep++(y.w++aC []))++[]=_;rw[hy,←e];simp[dz,aC]
    have e3:aC [z,y]++[]=32::34::q:=by
      show(dz z.sep++(z.w++aC [y]))++[]=_;rw[hz,O7.2];show 32::(aC [y]++[])=_;rw[e2]
    refine⟨kf,Or.inl ?_,US,Or.inl ?_,yj,Or.inl (O9 yk _),trivial⟩
    · rw[e3];exact Oa hk rfl
    · rw[e2,O7.1];show(!(bw 34))=true;rw[JW.1];rfl
theorem D0{new:List It}(h:sF new):∃y l b q,new=y::l∧y.sep=false∧iM y∧y.w=b::q∧UG y.t y.w b∧aC new=b::(q++aC l)∧(l=[]∨(y.t.ah=2∨y.t=⟨9,[92],0,[],false⟩)):=by
  have main:∀(y:It)(l:List It),y.sep=false→iM y→(l=[]∨(y.t.ah=2∨y.t=⟨9,[92],0,[],false⟩))→∃y' l' b q,y::l=y'::l'∧y'.sep=false∧iM y'∧y'.w=b::q∧UG y'.t y'.w b∧aC (y::l)=b::(q++aC l')∧(l'=[]∨(y'.t.ah=2∨y'.t=⟨9,[92],0,[],false⟩)):=by
    intro y l hs hi hl;obtain⟨b,q,hw,hf⟩:=K4 (ye y.t hi.fi y.w hi.wt);refine⟨y,l,b,q,rfl,hs,hi,hw,hf,?_,hl⟩;show dz y.sep++(y.w++aC l)=_;rw[hs,hw];rfl
  cases h with
  |one x h hi fX=>exact main x [] h hi (Or.inl rfl)
  |bs=>exact main _ _ rfl ⟨.del 92 (by kernel_rfl),⟨by decide,by decide⟩,Or.inl rfl⟩ (Or.inr (Or.inr rfl))
  |UQ x y h hy kf yj hk yk=>exact main x _ h kf (Or.inr (Or.inl hk))
  |UR x z y h hz hy kf US yj hk O7 yk=>exact main x _ h kf (Or.inr (Or.inl hk))
theorem Od{x:It}{l:List It}(h:iM x):aC (x::l)≠[]:=by
  have:=(ye x.t h.fi x.w h.wt).ne;show dz x.sep++(x.w++aC l)≠[];intro e;exact this (List.append_eq_nil_iff.1 (List.append_eq_nil_iff.1 e).2).1
theorem agv{r:J}(h1:t1 aK r=false)(h4:t1 (ag 46) r=true)(h5:t1 aK (r.drop 1)=true):(nE false r).2=false:=by
  have hA:(nA false r).2=false:=by
    unfold nA;rw[Ac h1];show(cond (cond false false (cond (t1 (ag 46) r) (t1 aK (r.drop 1)) false)) _ _:Nat×Bool).2=_;rw[h4,h5];rfl
  unfold nE;dsimp only;rw[hA];cases Nat.beq (de (r.drop (nA false r).1)) 0<;>rfl
theorem agw(s:J)(hs:s.length≤5000)(i:Nat)(c b:UInt8)(hc:bw c=true)(hb:bw b=true)(hd:s.drop i=[c,b]):jT 30000 s (i:Int)=some (s.length:Int):=by
  have hi:=gj hd;have dL:s.drop (i+1)=[b]:=jg hd;have dw:s.drop (i+1+1)=[]:=jg dL;have hl:=congrArg List.length hd;rw[List.length_drop]at hl;have hl:s.length-i=2:=hl;unfold jT;show Option.bind (Option.bind (eP s (i:Int)) _) _=_;rw[eE,ai,nV,eF,hd,show t1 bw [c,b]=bw c from rfl,hc,af,br (by omega)];show Option.bind (Option.bind (eP s ((i+1:Nat):Int)) _) _=_;rw[eE,ai,nV,eF,dL,show t1 bw [b]=bw b from rfl,hb,af,br (by omega)];show Option.bind (Option.bind (eP s ((i+1+1:Nat):Int)) _) _=_;rw[eE,ai,nV,eF,dw];show some ((i+1+1:Nat):Int)=_;rw[show i+1+1=s.length from by omega]
theorem UT(s:J)(hs:s.length≤5000):fq 30000 s (s.length:Int)=some (s.length:Int):=CX s (by omega) s.length (cF _) (by rw[List.drop_length];rfl)
theorem a2c(y:It)(h:iM y)(hk:y.t.ah=10∨y.t.ah=11∨y.t.ah=12)(fL:t1 (ag 46) y.w=false):
    ∃pt D2,U2 (fU y.t.bu) (Lib.decDigits (y.t.bu.natAbs/1000)) (ez (y.t.bu.natAbs%1000) pt) D2 y.t.bu.natAbs∧y.w=fU y.t.bu++(Lib.decDigits (y.t.bu.natAbs/1000)++(ez (y.t.bu.natAbs%1000) pt++fN y.t))∧-1000000000000≤y.t.bu∧y.t.bu≤1000000000000:=by
  have hw:y.w=fv y.t:=by
    rcases h.wt with h1|⟨h1,_⟩|⟨_,q,h1,_⟩
    · exact h1
    · rw[h1]at hk;rcases hk with h|h|h<;>cases h
    · rw[h1]at fL;cases fL
  have main:∀(n:Int)(pt:Bool)(tl:J),-1000000000000≤n→n≤1000000000000→y.w=fV n pt++tl→∃D2,U2 (fU n) (Lib.decDigits (n.natAbs/1000)) (ez (n.natAbs%1000) pt) D2 n.natAbs∧y.w=fU n++(Lib.decDigits (n.natAbs/1000)++(ez (n.natAbs%1000) pt++tl)):=by
    intro n pt tl h1 h2 hw;obtain⟨D2,hN⟩:=JI n pt h1 h2;refine⟨D2,hN,?_⟩;rw[hw];show(fU n++(Lib.decDigits (n.natAbs/1000)++ez (n.natAbs%1000) pt))++tl=_;rw[c7,c7]
  have oU:=h.fi
  revert hw hk main
  generalize y.t=t at oU;generalize y.w=w;intro hk hw main;cases oU with
  |nm k s dq h h0=>rcases dq with rfl|rfl|rfl<;>(rcases hk with h|h|h<;>cases h)
  |hash s b h h0 hb=>rcases hk with h|h|h<;>cases h
  |st k s dq h0=>rcases dq with rfl|rfl<;>(rcases hk with h|h|h<;>cases h)
  |del c hc=>rcases hk with h|h|h<;>cases h
  |mk k h1 h2=>dsimp only at hk;omega
  |num n b h1 h2 h3=>
    obtain⟨D2,a,b2⟩:=main n (!b) [] h1 h2 (by rw[hw,List.append_nil];rfl);exact⟨_,D2,a,b2,h1,h2⟩
  |mw n h1 h2=>
    obtain⟨D2,a,b2⟩:=main n false [37] h1 h2 hw;exact⟨_,D2,a,b2,h1,h2⟩
  |jZ n b u h1 h2 h3 hu h0=>
    obtain⟨D2,a,b2⟩:=main n (!b) (bX u) h1 h2 hw;exact⟨_,D2,a,b2,h1,h2⟩
theorem a2d(t:aq)(h:Fi t)(hk:t.ah=10∨t.ah=11∨t.ah=12):t1 aK (fN t)=false∧t1 (ag 46) (fN t)=false∧lV (fN t)=false∧(du (fN t)=false→t1 (ag 37) (fN t)=false→fN t=[])∧(du (fN t)=true→t.ah=12∧fN t=bX t.Unit):=by
  rcases hk with hk|hk|hk
  · have e:fN t=[]:=by unfold fN;rw[hk];rfl
    rw[e];exact⟨rfl,rfl,rfl,λ_ _=>rfl,λh=>by cases h⟩
  · have e:fN t=[37]:=by unfold fN;rw[hk];rfl
    rw[e];refine⟨rfl,rfl,rfl,λ_ h=>(by cases h),λh=>?_⟩;rw[show du [37]=false from by kernel_rfl]at h;cases h
  · have e:fN t=bX t.Unit:=by unfold fN;rw[hk];rfl
    obtain⟨hu,h0⟩:=O2 t h hk;obtain⟨a1,a2,a3⟩:=FQ t.Unit hu h0 [];rw[List.append_nil]at a1 a2 a3;rw[e];exact⟨a2,a3,UP _ hu,λh=>(by rw[a1]at h;cases h),λ_=>⟨hk,rfl⟩⟩
end Go.Proofs.YtpobihiejncdgaaGreatDoor
