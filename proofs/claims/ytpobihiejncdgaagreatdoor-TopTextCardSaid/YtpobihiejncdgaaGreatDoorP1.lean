/-
  Numbers in a text: what two readers of numbers compute is the same. Plain lemmas on bytes first.
-/
import Derived.Test.YtpobihiejncdgaaGreatDoorA4
import Derived.Test.YtpobihiejncdgaaGreatDoorWFb
import Derived.KernelRfl
set_option linter.unusedVariables false
set_option maxRecDepth 100000
namespace Go.V
open Go
def aK(b:UInt8):Bool:=decide (48≤b.toNat)&&decide (b.toNat≤57)
def aD(p:UInt8→Bool)(s:J)(i:Nat):Bool:=match s[i]? with
  |some b=>p b
  |none=>false
def pk(s:J)(i:Nat)(d:Int):Int:=match s[i]? with
  |some b=>(b.toNat:Int)
  |none=>d
def ag(c:Nat)(b:UInt8):Bool:=b.toNat==c
theorem iI(s:J)(i:Nat)(d:Int)(c:Nat)(hd:d≠c):(pk s i d==(c:Int))=aD (ag c) s i:=by
  unfold pk aD ag;cases s[i]? with
  |none=>exact bE.2 hd
  |some b=>
    show((b.toNat:Int)==(c:Int))=(b.toNat==c);by_cases h:b.toNat=c
    · rw[h];simp
    · rw[bE.2 h];exact bE.2 (by omega)
theorem a0f(s:J)(i:Nat)(d:Int)(hd:d<48):(cond (decide (48≤pk s i d)) (decide (pk s i d≤57)) false)=aD aK s i:=by
  unfold pk aD aK;cases s[i]? with
  |none=>show cond (decide (48≤d)) _ _=_;rw[bV (by omega)];rfl
  |some b=>
    show cond (decide (48≤(b.toNat:Int))) (decide ((b.toNat:Int)≤57)) false=_;by_cases h:48≤b.toNat<;>by_cases h2:b.toNat≤57
    · have h3:(48:Int)≤(b.toNat:Int):=by omega
      have h4:(b.toNat:Int)≤57:=by omega
      simp[h,h2,h3,h4]
    · have h3:(48:Int)≤(b.toNat:Int):=by omega
      have h4:¬(b.toNat:Int)≤57:=by omega
      simp[h,h2,h3,h4]
    · have h3:¬(48:Int)≤(b.toNat:Int):=by omega
      simp[h,h3]
    · have h3:¬(48:Int)≤(b.toNat:Int):=by omega
      simp[h,h3]
theorem jV(s:J)(i:Nat)(d:Int)(h:i<s.length):aI s (i:Int)=pk s i d:=by
  rw[wT s i h];unfold pk;rw[List.getElem?_eq_getElem h]
theorem adB(s:J)(i:Nat)(d:Int)(hd:-1≤d∧d<256):-1≤pk s i d∧pk s i d<256:=by
  unfold pk;cases s[i]? with
  |none=>exact hd
  |some b=>
    have:=b.toNat_lt;show-1≤(b.toNat:Int)∧(b.toNat:Int)<256;omega
def cv(s:J)(i:Nat):J:=(s.drop i).takeWhile aK
theorem oM{s:J}{i:Nat}(h:i<s.length):s.drop i=s[i]::s.drop (i+1):=gp h
theorem Cr{s:J}{i:Nat}(h:aD aK s i=true):∃hi:i<s.length,cv s i=s[i]::cv s (i+1):=by
  unfold aD at h;cases hs:s[i]? with
  |none=>rw[hs]at h;cases h
  |some b=>
    obtain⟨hi,hb⟩:=List.getElem?_eq_some_iff.1 hs;rw[hs]at h;refine⟨hi,?_⟩;unfold cv;rw[oM hi,List.takeWhile_cons,hb];rw[if_pos h]
theorem vH{s:J}{i:Nat}(h:aD aK s i=false):cv s i=[]:=by
  unfold aD at h;cases hs:s[i]? with
  |none=>
    have:s.length≤i:=List.getElem?_eq_none_iff.1 hs;unfold cv;rw[fF this];rfl
  |some b=>
    obtain⟨hi,hb⟩:=List.getElem?_eq_some_iff.1 hs;rw[hs]at h;unfold cv;rw[oM hi,List.takeWhile_cons,hb,if_neg (by rw[show aK b=false from h];exact Bool.false_ne_true)]
theorem tV(s:J)(i:Nat)(h:i≤s.length):i+(cv s i).length≤s.length:=by
  have h1:(cv s i).length≤(s.drop i).length:=(List.takeWhile_sublist _).length_le;rw[List.length_drop]at h1;omega
theorem To(s:J)(i:Nat):∀b∈cv s i,aK b=true:=λb hb=>List.all_eq_true.1 List.all_takeWhile b hb
theorem a0g(s:J)(i:Nat):cv s i=(s.drop i).take (cv s i).length:=List.prefix_iff_eq_take.1 (List.takeWhile_prefix aK)
end Go.V
namespace Go.Proofs.YtpobihiejncdgaaGreatDoor
open Go Go.V
theorem r7{i n:Nat}(h:i+n<4611686018427387904):aa ((i:Int)+(n:Int))=((i+n:Nat):Int):=by rw[cT (by omega) (by omega)];omega
theorem jW(s:J)(i n:Nat)(h:i+n<4611686018427387904):dG s (i:Int) (n:Int)=some (pk s (i+n) (-1)):=by
  unfold dG;rw[r7 h];by_cases hl:i+n<s.length
  · rw[dM hl,dN hl,jV s (i+n) (-1) hl];have:=adB s (i+n) (-1) (by omega);rw[cT (by omega) (by omega)];rfl
  · rw[eS (by omega)];show some (-1)=_;unfold pk;rw[List.getElem?_eq_none (by omega)]
theorem eE(s:J)(i:Nat):eP s (i:Int)=some (pk s i 0):=by
  unfold eP;by_cases hl:i<s.length
  · rw[dM hl,dN hl,jV s i 0 hl];rfl
  · rw[eS (by omega)];show some 0=_;unfold pk;rw[List.getElem?_eq_none (by omega)]
theorem oN(s:J)(i:Nat):mG (pk s i (-1))=aD aK s i:=a0f s i (-1) (by omega)
theorem vM(s:J)(i:Nat):ju (pk s i 0)=aD aK s i:=a0f s i 0 (by omega)
theorem A1(m:Nat)(s:J)(hs:s.length<1000000):∀(kk i:Nat),s.length-i<kk→i≤s.length→Bo m s kk (i:Int)=some ((i+(cv s i).length:Nat):Int):=by
  intro kk
  induction kk with
  |zero=>intro i h;omega
  |succ kk ih=>
    intro i h hi;rw[Bo];have h0:=jW s i 0 (by omega);rw[show((0:Nat):Int)=0 from rfl,Nat.add_zero]at h0;rw[h0];simp only[ai];rw[oN];cases ht:aD aK s i with
    |false=>rw[vH ht];rfl
    |true=>
      obtain⟨hl,h2⟩:=Cr ht;rw[h2,br (by omega)];simp only[af];rw[ih (i+1) (by omega) (by omega)];congr 2;simp only[aZ];omega
theorem Ns(m:Nat)(s:J)(hs:s.length<1000000):∀(kk i:Nat),s.length-i<kk→i≤s.length→Fk m s kk (i:Int)=some ((i+(cv s i).length:Nat):Int):=by
  intro kk
  induction kk with
  |zero=>intro i h;omega
  |succ kk ih=>
    intro i h hi;rw[Fk,eE];simp only[ai];rw[vM];cases ht:aD aK s i with
    |false=>rw[vH ht];rfl
    |true=>
      obtain⟨hl,h2⟩:=Cr ht;rw[h2,br (by omega)];simp only[af];rw[ih (i+1) (by omega) (by omega)];congr 2;simp only[aZ];omega

def bp(b:UInt8):Bool:=ag 43 b||ag 45 b
def cc(b:UInt8):Bool:=ag 101 b||ag 69 b
theorem Tp(p q:UInt8→Bool)(s:J)(i:Nat):aD (λb=>p b||q b) s i=cond (aD p s i) true (aD q s i):=by
  unfold aD;cases s[i]? with
  |none=>rfl
  |some b=>show(p b||q b)=cond (p b) true (q b);cases p b<;>rfl
theorem tW(s:J)(i:Nat)(d:Int)(hd:d≤0):cond (pk s i d==43) true (pk s i d==45)=aD bp s i:=by
  rw[show(43:Int)=((43:Nat):Int)from rfl,show(45:Int)=((45:Nat):Int)from rfl,iI _ _ _ _ (by omega),iI _ _ _ _ (by omega)];exact(Tp (ag 43) (ag 45) s i).symm
def bK(s:J)(i:Nat):Nat:=cond (aD bp s i) (i+1) i
def jw(s:J)(i:Nat):Bool:=let j:=bK s i;aD aK s (cond (aD (ag 46) s j) (j+1) j)
theorem adC(s:J)(hs:s.length<1000000):zm s 0=some (jw s 0):=by
  unfold zm jw bK;have h0:=jW s 0 0 (by omega);have h1:=jW s 0 1 (by omega);have h2:=jW s 0 2 (by omega);simp only[Nat.zero_add,Int.natCast_zero,Int.natCast_one,show((2:Nat):Int)=2 from rfl]at h0 h1 h2;rw[h0];simp only[ai];rw[tW s 0 (-1) (by omega)];cases aD bp s 0
  · simp only[ae,ai];rw[h0];simp only[ai];rw[show(46:Int)=((46:Nat):Int)from rfl,iI _ _ _ _ (by omega)];cases aD (ag 46) s 0
    · simp only[ae,ai];rw[h0];simp only[ai,oN]
    · simp only[af,ai,show aa ((0:Int)+1)=1 from by decide];rw[h1];simp only[ai,oN]
  · simp only[af,ai];rw[h1];simp only[ai];rw[show(46:Int)=((46:Nat):Int)from rfl,iI _ _ _ _ (by omega)];cases aD (ag 46) s 1
    · simp only[ae,ai];rw[h1];simp only[ai,oN,Nat.zero_add]
    · simp only[af,ai,show aa ((1:Int)+1)=2 from by decide];rw[h2];simp only[ai,oN]
def jy(s:J):Nat×Bool:=
  let y:=bK s 0+(cv s (bK s 0)).length
  cond (cond (aD (ag 46) s y) (aD aK s (y+1)) false) (y+1+(cv s (y+1)).length,false) (y,true)
def mq(s:J)(e:Nat)(wh:Bool):Nat×Bool:=
  let j:=cond (aD bp s (e+1)) (e+2) (e+1)
  cond (aD cc s e) (cond (aD aK s j) (j+(cv s j).length,false) (e,wh)) (e,wh)
theorem Ct(s:J)(i:Nat)(h:i≤s.length):bK s i≤s.length:=by
  unfold bK;cases ht:aD bp s i with
  |false=>exact h
  |true=>
    unfold aD at ht;cases hs:s[i]? with
    |none=>rw[hs]at ht;cases ht
    |some b=>obtain⟨hi,_⟩:=List.getElem?_eq_some_iff.1 hs;exact hi
theorem iv{p:UInt8→Bool}{s:J}{i:Nat}(h:aD p s i=true):i<s.length:=by
  unfold aD at h;cases hs:s[i]? with
  |none=>rw[hs]at h;cases h
  |some b=>exact(List.getElem?_eq_some_iff.1 hs).1
theorem Tq(s:J):(jy s).1≤s.length:=by
  unfold jy;have h1:=Ct s 0 (dE _);have h2:=tV s _ h1;dsimp only;cases ht:aD (ag 46) s (bK s 0+(cv s (bK s 0)).length)with
  |false=>exact h2
  |true=>
    cases ht2:aD aK s (bK s 0+(cv s (bK s 0)).length+1)with
    |false=>exact h2
    |true=>exact tV s _ (iv ht)
theorem Tr(s:J)(i:Nat)(d:Int)(hd:d≤0):cond (pk s i d==101) true (pk s i d==69)=aD cc s i:=by
  rw[show(101:Int)=((101:Nat):Int)from rfl,show(69:Int)=((69:Nat):Int)from rfl,iI _ _ _ _ (by omega),iI _ _ _ _ (by omega)];exact(Tp (ag 101) (ag 69) s i).symm
def iJ(s:J):Nat×Bool:=mq s (jy s).1 (jy s).2
theorem Cv(s:J)(y:Nat)(hy:y=bK s 0+(cv s (bK s 0)).length):jy s=cond (cond (aD (ag 46) s y) (aD aK s (y+1)) false) (y+1+(cv s (y+1)).length,false) (y,true):=by rw[hy];rfl
theorem adD(m:Nat)(s:J)(hs:s.length<1000000)(hm:s.length<m):zn m s 0=some ((iJ s).2,((iJ s).1:Int)):=by
  unfold zn;have lP:∀i:Nat,i<2000000→dG s (i:Int) 0=some (pk s i (-1)):=λi hi=>jW s i 0 (by omega);have vR:∀i:Nat,i<2000000→dG s (i:Int) 1=some (pk s (i+1) (-1)):=λi hi=>jW s i 1 (by omega);have Ts:∀i:Nat,i<2000000→dG s (i:Int) 2=some (pk s (i+2) (-1)):=λi hi=>jW s i 2 (by omega);have h0:dG s 0 0=some (pk s 0 (-1)):=lP 0 (by omega);rw[h0];simp only[ai];rw[tW s 0 (-1) (by omega)];have e1:(cond (aD bp s 0) (some (aa ((0:Int)+1))) (some 0):Option Int)=some ((bK s 0:Nat):Int):=by
    unfold bK;cases aD bp s 0<;>rfl
  rw[e1];simp only[ai];have h1:=Ct s 0 (dE _);have h2:=tV s _ h1;unfold Bp;rw[A1 m s hs m _ (by omega) h1];simp only[ai];unfold iJ;obtain⟨y,hy⟩:∃y,y=bK s 0+(cv s (bK s 0)).length:=⟨_,rfl⟩;have eM:=Cv s y hy;rw[←hy]at h2⊢;have hM:(Option.bind (dG s (y:Int) 0) λeC=>Option.bind (cond (eC==46) (dG s (y:Int) 1) (some default)) λnJ=>
      cond (cond (eC==46) (mG nJ) false) (Option.bind (Bo m s m (aa ((y:Int)+1))) λwX=>some (false,wX)) (some (true,(y:Int))))=some ((jy s).2,((jy s).1:Int)):=by
    rw[lP y (by omega),eM];simp only[ai];rw[show(46:Int)=((46:Nat):Int)from rfl,iI _ _ _ _ (by omega)];cases ht:aD (ag 46) s y with
    |false=>rfl
    |true=>
      have hl:=iv ht;simp only[af];rw[br (by omega),vR y (by omega)];simp only[ai];rw[oN,A1 m s hs m (y+1) (by omega) (by omega)];cases aD aK s (y+1)<;>rfl
  rw[hM];simp only[ai];have hle:=Tq s;generalize jy s=q at hle;obtain⟨e,wh⟩:=q;simp only at hle⊢;rw[lP e (by omega),vR e (by omega)];simp only[ai];have FA:=Tr s e (-1) (by omega);unfold mq;have r8:(cond (pk s e (-1)==101) (some default) (some (pk s e (-1))):Option Int)=some (cond (pk s e (-1)==101) default (pk s e (-1))):=by cases(pk s e (-1)==101)<;>rfl
  rw[r8];simp only[ai];have oe:cond (pk s e (-1)==101) true (cond (pk s e (-1)==101) default (pk s e (-1))==69)=aD cc s e:=by
    rw[←FA];cases(pk s e (-1)==101)<;>rfl
  rw[oe];cases ht:aD cc s e with
  |false=>rfl
  |true=>
    have hl:=iv ht;simp only[af];rw[tW s (e+1) (-1) (by omega)];cases hg:aD bp s (e+1)with
    |false=>
      simp only[ae,ai];rw[vR e (by omega),br (by omega),A1 m s hs m (e+1) (by omega) (by omega)];simp only[ai];rw[oN];cases aD aK s (e+1)<;>rfl
    |true=>
      have ma:=iv hg;simp only[af,ai];rw[Ts e (by omega),show aa ((e:Int)+2)=((e+2:Nat):Int)from r7 (n:=2) (by omega),A1 m s hs m (e+2) (by omega) (by omega)];simp only[ai];rw[oN];cases aD aK s (e+2)<;>rfl
end Go.Proofs.YtpobihiejncdgaaGreatDoor
namespace Go.V
open Go
theorem iw{p:Nat→Bool}(h:((List.range 256).all p)=true)(b:UInt8):p b.toNat=true:=List.all_eq_true.1 h b.toNat (List.mem_range.2 b.toNat_lt)
theorem lj{p:Nat→Bool}{k n:Nat}(h:((List.range k).all p)=true)(hn:n<k):p n=true:=List.all_eq_true.1 h n (List.mem_range.2 hn)
theorem FB(f:Int→Bool)(s:J)(i:Nat)(d:Int)(h:f d=false):f (pk s i d)=aD (λb=>f (b.toNat:Int)) s i:=by
  unfold pk aD;cases s[i]? with
  |none=>exact h
  |some b=>rfl
theorem adE{x:Int}(h:-2147483648≤x)(h':x<2147483648):Kv x=x:=by
  show IntKind.i32.wrap x=x;unfold IntKind.wrap;simp only[IntKind.bits,IntKind.signed,E3];split<;>rename_i hh<;>simp only[ge_iff_le,decide_eq_true_eq]at hh<;>omega
theorem a0h{x:Int}(h:0≤x)(h':x<4294967296):rk x=x:=by
  show IntKind.u32.wrap x=_;simp only[IntKind.wrap,IntKind.bits,IntKind.signed,Bool.false_and,Bool.false_eq_true,if_false];exact Int.emod_eq_of_lt h h'
theorem ll(s:J):bD (ax s)=s:=by
  unfold bD ax;rw[List.map_map]
  conv=>rhs;rw[←List.map_id s]
  refine List.map_congr_left λb _=>?_;show UInt8.ofNat (b.toNat:Int).toNat=b;rw[Int.toNat_natCast];exact UInt8.ofNat_toNat
theorem a0i:∀(l:List Int),(∀x∈l,0≤x∧x<256)→ax (bD l)=l
  |[],_=>rfl
  |x::l,h=>by
    have hx:=h x List.mem_cons_self;have ih:=a0i l λy hy=>h y (List.mem_cons_of_mem _ hy);show((UInt8.ofNat x.toNat).toNat:Int)::ax (bD l)=x::l;rw[ih,UInt8.toNat_ofNat'];congr 1;omega
theorem mS(a:J):(ax a).length=a.length:=List.length_map ..
theorem adF(a b k:Nat)(h:2^k*a+b<9223372036854775808)(hb:b<2^k):cD .or .i64 ((2^k*a:Nat):Int) (b:Int)=((2^k*a+b:Nat):Int):=by
  show aa ((BitVec.ofInt 64 ((2^k*a:Nat):Int)|||BitVec.ofInt 64 (b:Int)).toNat:Int)=_;have e1:(BitVec.ofInt 64 ((2^k*a:Nat):Int)|||BitVec.ofInt 64 (b:Int)).toNat=2^k*a+b:=by
    rw[BitVec.toNat_or];have h1:(BitVec.ofInt 64 ((2^k*a:Nat):Int)).toNat=2^k*a:=by
      simp only[BitVec.toNat_ofInt];omega
    have h2:(BitVec.ofInt 64 (b:Int)).toNat=b:=by
      simp only[BitVec.toNat_ofInt];omega
    rw[h1,h2,Nat.two_pow_add_eq_or_of_lt hb]
  rw[e1];exact cT (by omega) (by omega)
end Go.V
namespace Go.Proofs.YtpobihiejncdgaaGreatDoor
open Go Go.V
def cB(b:UInt8):Bool:=mh (b.toNat:Int)
def dc(b:UInt8):Bool:=lH (b.toNat:Int)
def bw(b:UInt8):Bool:=rJ (b.toNat:Int)
def fj(s:J)(i:Nat):Int:=jJ (pk s i (-1))
theorem adG:((List.range 256).all λn=>mh (n:Int)==nU (n:Int))=true:=by kernel_rfl
theorem adH:((List.range 256).all λn=>lH (n:Int)==mR (n:Int))=true:=by kernel_rfl
theorem adI:((List.range 256).all λn=>rJ (n:Int)==oI (n:Int))=true:=by kernel_rfl
theorem a0j:((List.range 256).all λn=>jJ (n:Int)==vx (n:Int)&&(decide (-1≤jJ (n:Int))&&decide (jJ (n:Int)≤15)))=true:=by kernel_rfl
theorem a0k(s:J)(i:Nat):mh (pk s i (-1))=aD cB s i:=FB mh s i (-1) (by kernel_rfl)
theorem Tt(s:J)(i:Nat):lH (pk s i (-1))=aD dc s i:=FB lH s i (-1) (by kernel_rfl)
theorem Jq(s:J)(i:Nat):rJ (pk s i (-1))=aD bw s i:=FB rJ s i (-1) (by kernel_rfl)
theorem a0l(s:J)(i:Nat):nU (pk s i 0)=aD cB s i:=by
  rw[FB nU s i 0 (by kernel_rfl)];congr 1;funext b;exact(eq_of_beq (iw adG b)).symm
theorem FC(s:J)(i:Nat):mR (pk s i 0)=aD dc s i:=by
  rw[FB mR s i 0 (by kernel_rfl)];congr 1;funext b;exact(eq_of_beq (iw adH b)).symm
theorem nV(s:J)(i:Nat):oI (pk s i 0)=aD bw s i:=by
  rw[FB oI s i 0 (by kernel_rfl)];congr 1;funext b;exact(eq_of_beq (iw adI b)).symm
theorem Nt{s:J}{i:Nat}(h:i<s.length):vx (aI s (i:Int))=fj s i:=by
  rw[jV s i (-1) h];unfold fj pk;rw[List.getElem?_eq_getElem h];have:=iw a0j s[i];rw[Bool.and_eq_true]at this;exact(eq_of_beq this.1).symm
theorem Nu{s:J}{i:Nat}(h:s.length≤i):fj s i=-1:=by
  unfold fj pk;rw[List.getElem?_eq_none h];show jJ (-1)=-1;kernel_rfl
theorem Tu(s:J)(i:Nat):-1≤fj s i∧fj s i≤15:=by
  rcases Nat.lt_or_ge i s.length with h|h
  · unfold fj pk;rw[List.getElem?_eq_getElem h];have:=iw a0j s[i];simp only[Bool.and_eq_true,decide_eq_true_eq]at this;exact this.2
  · rw[Nu h];omega
def mr(s:J)(i:Nat):Bool:=cond (aD (ag 92) s i) (!(aD (ag 10) s (i+1))) false
theorem lQ(s:J)(i:Nat)(d:Int)(c:Nat)(hd:d≠c):(pk s i d !=(c:Int))=!(aD (ag c) s i):=by
  rw[←iI s i d c hd];rfl
theorem Cw(s:J)(i n:Nat)(h:i+n<1000000):tu s (i:Int) (n:Int)=some (mr s (i+n)):=by
  unfold tu mr;rw[jW s i n (by omega),ai,show(92:Int)=((92:Nat):Int)from rfl,iI _ _ _ _ (by omega),br (by omega),jW s i (n+1) (by omega)];cases aD (ag 92) s (i+n)
  · rfl
  · simp only[af,ai];rw[show(10:Int)=((10:Nat):Int)from rfl,lQ _ _ _ _ (by omega)];rfl
theorem tX(s:J)(i:Nat)(h:i<1000000):vz s (i:Int)=some (mr s i):=by
  unfold vz mr;rw[eE,ai,show(92:Int)=((92:Nat):Int)from rfl,iI _ _ _ _ (by omega),br (by omega),eE];cases aD (ag 92) s i
  · rfl
  · simp only[af,ai];rw[show(10:Int)=((10:Nat):Int)from rfl,lQ _ _ _ _ (by omega)]
def pL(s:J)(i:Nat):Bool:=cond (aD (ag 45) s i) (cond (cond (aD cB s (i+1)) true (aD (ag 45) s (i+1))) true (mr s (i+1))) (cond (aD cB s i) true (mr s i))
theorem a0m(s:J)(i n:Nat)(h:i+n<900000):uX s (i:Int) (n:Int)=some (pL s (i+n)):=by
  unfold uX pL;rw[jW s i n (by omega),ai,show(45:Int)=((45:Nat):Int)from rfl,lQ _ _ _ _ (by omega),br (by omega)];cases aD (ag 45) s (i+n)
  · simp only[j8,af,ae,ai];rw[a0k,Cw s i n (by omega)];cases aD cB s (i+n)<;>rfl
  · simp only[dK,af,ae];rw[jW s i (n+1) (by omega),ai,a0k,Cw s i (n+1) (by omega)];rw[Nat.add_assoc i n 1];cases aD cB s (i+(n+1))
    · simp only[ae,ai];rw[iI _ _ _ _ (by omega)];cases aD (ag 45) s (i+(n+1))<;>rfl
    · rfl
theorem A2(s:J)(i:Nat)(h:i<900000):zP s (i:Int)=some (pL s i):=by
  unfold zP pL;rw[eE,ai,show(45:Int)=((45:Nat):Int)from rfl,iI _ _ _ _ (by omega),br (by omega)];cases aD (ag 45) s i
  · simp only[ae,ai];rw[a0l,tX s i (by omega)];cases aD cB s i<;>rfl
  · simp only[af];rw[eE,ai,a0l,tX s (i+1) (by omega)];cases aD cB s (i+1)
    · simp only[ae,ai];rw[iI _ _ _ _ (by omega)];cases aD (ag 45) s (i+1)<;>rfl
    · rfl
def kx(r:Nat):List Int:=
  if r<128 then[(r:Int)]else
  if r<2048 then[((192+r/64:Nat):Int),((128+r%64:Nat):Int)]else
  if r<55296∨(57343<r∧r≤65535)then[((224+r/4096:Nat):Int),((128+r/64%64:Nat):Int),((128+r%64:Nat):Int)]else
  if 65535<r∧r≤1114111 then[((240+r/262144:Nat):Int),((128+r/4096%64:Nat):Int),((128+r/64%64:Nat):Int),((128+r%64:Nat):Int)]else[239,191,189]
theorem adJ(r:Nat)(x:Int)(h:x∈kx r):0≤x∧x<256:=by
  unfold kx at h;split at h
  · simp only[List.mem_cons,List.not_mem_nil,or_false]at h;omega
  · split at h
    · simp only[List.mem_cons,List.not_mem_nil,or_false]at h;omega
    · split at h
      · simp only[List.mem_cons,List.not_mem_nil,or_false]at h;omega
      · split at h<;>simp only[List.mem_cons,List.not_mem_nil,or_false]at h<;>omega
theorem adK(r:Nat):1≤(kx r).length∧(kx r).length≤4:=by
  unfold kx;split
  · simp
  · split
    · simp
    · split
      · simp
      · split<;>simp
theorem adL:((List.range 256).all λn=>cD .or .u8 128 (cD .and .u8 (n:Int) 63)==((128+n%64:Nat):Int))=true:=by kernel_rfl
theorem adM:((List.range 32).all λn=>cD .or .u8 192 (n:Int)==((192+n:Nat):Int))=true:=by kernel_rfl
theorem adN:((List.range 16).all λn=>cD .or .u8 224 (n:Int)==((224+n:Nat):Int))=true:=by kernel_rfl
theorem adO:((List.range 8).all λn=>cD .or .u8 240 (n:Int)==((240+n:Nat):Int))=true:=by kernel_rfl
theorem adP{n:Nat}(h:n<256):cD .or .u8 128 (cD .and .u8 (n:Int) 63)=((128+n%64:Nat):Int):=by
  have:=lj adL h;exact eq_of_beq this
theorem adQ{n:Nat}(h:n<32):cD .or .u8 192 (n:Int)=((192+n:Nat):Int):=by
  have:=lj adM h;exact eq_of_beq this
theorem adR{n:Nat}(h:n<16):cD .or .u8 224 (n:Int)=((224+n:Nat):Int):=by
  have:=lj adN h;exact eq_of_beq this
theorem adS{n:Nat}(h:n<8):cD .or .u8 240 (n:Int)=((240+n:Nat):Int):=by
  have:=lj adO h;exact eq_of_beq this
theorem FD(y:Nat):cD .or .u8 128 (cD .and .u8 (bj (y:Int)) 63)=((128+y%64:Nat):Int):=by
  have e:bj (y:Int)=((y%256:Nat):Int):=by rw[Yb];omega
  rw[e,adP (Nat.mod_lt y (by decide))];congr 2;omega
theorem Tv(r:Nat):Int.fdiv (r:Int) (2^6)=((r/64:Nat):Int):=by rw[Qt (by omega) (by decide)];omega
theorem a0n(r:Nat):Int.fdiv (r:Int) (2^12)=((r/4096:Nat):Int):=by rw[Qt (by omega) (by decide)];omega
theorem adT(r:Nat):Int.fdiv (r:Int) (2^18)=((r/262144:Nat):Int):=by rw[Qt (by omega) (by decide)];omega
theorem a0o(b:List Int)(r:Nat)(hr:r<16777216)(hb:b.length<100000000):Bh b (r:Int)=some (b++kx r):=by
  unfold Bh;rw[a0h (by omega) (by omega)];by_cases h1:r<128
  · rw[bC (show(r:Int)≤127 by omega),af,rH (by omega) (by omega),lt_eq,aL (by unfold ln;simp only[aZ,bW];omega)];unfold kx;rw[if_pos h1]
  · rw[bV (show¬(r:Int)≤127 by omega),ae];unfold LR;rw[a0h (by omega) (by omega)];by_cases h2:r<2048
    · rw[bC (show(r:Int)≤2047 by omega),af,lt_eq,lt_eq,lt_eq,Tv,FD,rH (x:=((r/64:Nat):Int)) (by omega) (by omega),adQ (show r/64<32 by omega),aL (by unfold ln;simp only[aZ,bW];omega)];unfold kx;rw[if_neg h1,if_pos h2];rfl
    · rw[bV (show¬(r:Int)≤2047 by omega),ae];have hz:(cond (decide ((r:Int)<55296)) (some (decide ((r:Int)<55296))) (lt (cond (decide (57343<(r:Int))) (decide ((r:Int)≤65535)) false) λuD=>some uD))=some (decide (r<55296∨(57343<r∧r≤65535))):=by
        by_cases h3:r<55296
        · rw[bC (show(r:Int)<55296 by omega),bC (Or.inl h3),af]
        · rw[bV (show¬(r:Int)<55296 by omega),ae,lt_eq];by_cases h4:57343<r
          · rw[bC (show(57343:Int)<(r:Int) by omega),af];by_cases h5:r≤65535
            · rw[bC (show(r:Int)≤65535 by omega),bC (Or.inr ⟨h4,h5⟩)]
            · rw[bV (show¬(r:Int)≤65535 by omega),bV (by omega)]
          · rw[bV (show¬(57343:Int)<(r:Int) by omega),ae,bV (by omega)]
      rw[hz,ai];by_cases h3:r<55296∨(57343<r∧r≤65535)
      · rw[bC h3,af,lt_eq,lt_eq,lt_eq,lt_eq,a0n,Tv,FD,FD,rH (x:=((r/4096:Nat):Int)) (by omega) (by omega),adR (show r/4096<16 by omega),aL (by unfold ln;simp only[aZ,bW];omega)];unfold kx;rw[if_neg h1,if_neg h2,if_pos h3];rfl
      · rw[bV h3,ae,lt_eq];by_cases h4:65535<r∧r≤1114111
        · rw[bC (show(65535:Int)<(r:Int) by omega),af,bC (show(r:Int)≤1114111 by omega),af,lt_eq,lt_eq,lt_eq,lt_eq,lt_eq,adT,a0n,Tv,FD,FD,FD,rH (x:=((r/262144:Nat):Int)) (by omega) (by omega),adS (show r/262144<8 by omega),aL (by unfold ln;simp only[aZ,bW];omega)];unfold kx;rw[if_neg h1,if_neg h2,if_neg h3,if_pos h4];rfl
        · have hc:(cond (decide ((65535:Int)<(r:Int))) (decide ((r:Int)≤1114111)) false)=false:=by
            by_cases h5:65535<r
            · rw[bC (show(65535:Int)<(r:Int) by omega),af,bV (by omega)]
            · rw[bV (show¬(65535:Int)<(r:Int) by omega),ae]
          rw[hc,ae,lt_eq,aL (by unfold ln;simp only[aZ,bW];omega)];unfold kx;rw[if_neg h1,if_neg h2,if_neg h3,if_neg h4];rfl
def pM(n:Nat):Nat:=if n=0 then 65533 else n
theorem adU:tP 0=bD (kx (pM 0)):=by kernel_rfl
theorem adV(n:Nat)(hn:n<16777216):tP (n:Int)=bD (kx (pM n)):=by
  have t64:∀k:Nat,k<16777216→aa (Int.tdiv (k:Int) 64)=((k/64:Nat):Int):=λk hk=>by rw[E1 (by omega),cT (by omega) (by omega)];omega
  have a0p:aa (Int.tdiv (n:Int) 4096)=((n/4096:Nat):Int):=by rw[E1 (by omega),cT (by omega) (by omega)];omega
  have adW:aa (Int.tdiv (n:Int) 262144)=((n/262144:Nat):Int):=by rw[E1 (by omega),cT (by omega) (by omega)];omega
  have m64:∀k:Nat,Int.tmod (k:Int) 64=((k%64:Nat):Int):=λk=>by rw[LL (by omega)];omega
  have sum:∀c k:Nat,c≤240→k<64→aa ((c:Int)+((k:Nat):Int))=((c+k:Nat):Int):=λc k hc hk=>by rw[cT (by omega) (by omega)];omega
  have A3:∀k:Nat,k<256→bj ((k:Nat):Int)=((k:Nat):Int):=λk hk=>rH (by omega) (by omega);by_cases h0:n=0
  · rw[h0];exact adU
  · unfold tP;rw[lt_eq];have e0:pM n=n:=by unfold pM;rw[if_neg h0]
    rw[e0,show((n:Int)==0)=false from bE.2 (by omega),ae];by_cases hl:(55296≤n∧n≤57343)∨1114111<n
    · have hc:cond (cond (decide (55296≤(n:Int))) (decide ((n:Int)≤57343)) false) true (decide (1114111<(n:Int)))=true:=by
        by_cases h1:55296≤n
        · rw[bC (show 55296≤(n:Int) by omega),af];by_cases h2:n≤57343
          · rw[bC (show(n:Int)≤57343 by omega)];rfl
          · rw[bV (show¬(n:Int)≤57343 by omega),ae,bC (show 1114111<(n:Int) by omega)]
        · omega
      rw[hc,af];unfold kx;rw[if_neg (by omega),if_neg (by omega),if_neg (by omega),if_neg (by omega)];rfl
    · have hc:cond (cond (decide (55296≤(n:Int))) (decide ((n:Int)≤57343)) false) true (decide (1114111<(n:Int)))=false:=by
        by_cases h1:55296≤n
        · rw[bC (show 55296≤(n:Int) by omega),af,bV (show¬(n:Int)≤57343 by omega),ae,bV (show¬1114111<(n:Int) by omega)]
        · rw[bV (show¬55296≤(n:Int) by omega),ae,ae,bV (show¬1114111<(n:Int) by omega)]
      rw[hc,ae];by_cases h1:n<128
      · rw[bC (show(n:Int)<128 by omega),af,A3 n (by omega)];unfold kx;rw[if_pos h1]
      · rw[bV (show¬(n:Int)<128 by omega),ae];by_cases h2:n<2048
        · rw[bC (show(n:Int)<2048 by omega),af,lt_eq,t64 n hn,m64];unfold kx;rw[if_neg h1,if_pos h2];have a1:=sum 192 (n/64) (by decide) (by omega);have a2:=sum 128 (n%64) (by decide) (by omega);have a3:=A3 (192+n/64) (by omega);have a4:=A3 (128+n%64) (by omega);rw[show((192:Nat):Int)=192 from rfl]at a1;rw[show((128:Nat):Int)=128 from rfl]at a2;rw[a1,a2,a3,a4]
        · rw[bV (show¬(n:Int)<2048 by omega),ae];have a2:=sum 128 (n%64) (by decide) (by omega);have a4:=A3 (128+n%64) (by omega);have a5:=sum 128 (n/64%64) (by decide) (by omega);have a6:=A3 (128+n/64%64) (by omega);rw[show((128:Nat):Int)=128 from rfl]at a2 a5;by_cases h3:n<65536
          · rw[bC (show(n:Int)<65536 by omega),af,lt_eq,lt_eq,lt_eq,a0p,t64 n hn,m64,m64];unfold kx;rw[if_neg h1,if_neg h2,if_pos (by omega)];have a1:=sum 224 (n/4096) (by decide) (by omega);have a3:=A3 (224+n/4096) (by omega);rw[show((224:Nat):Int)=224 from rfl]at a1;rw[a1,a2,a3,a4,a5,a6]
          · rw[bV (show¬(n:Int)<65536 by omega),ae,lt_eq,lt_eq,lt_eq,lt_eq,adW,a0p,t64 n hn,m64,m64,m64];unfold kx;rw[if_neg h1,if_neg h2,if_neg (by omega),if_pos (by omega)];have a1:=sum 240 (n/262144) (by decide) (by omega);have a3:=A3 (240+n/262144) (by omega);have a7:=sum 128 (n/4096%64) (by decide) (by omega);have a8:=A3 (128+n/4096%64) (by omega);rw[show((240:Nat):Int)=240 from rfl]at a1;rw[show((128:Nat):Int)=128 from rfl]at a7;rw[a1,a2,a3,a4,a5,a6,a7,a8]
def oO(s:J):Nat→Nat→Nat→Nat×Nat
  |0,n,a=>(n,a)
  |c+1,n,a=>if fj s a<0 then(n,a)else oO s c (16*n+(fj s a).toNat) (a+1)
theorem Tw(s:J):∀(c n a:Nat),a≤s.length→(n+1)*16^c≤16777216→(oO s c n a).1<16777216∧a≤(oO s c n a).2∧(oO s c n a).2≤s.length
  |0,n,a,ha,hn=>by
    rw[Nat.pow_zero,Nat.mul_one]at hn;exact⟨by show n<_;omega,cF _,ha⟩
  |c+1,n,a,ha,hn=>by
    unfold oO;have hp:0<16^(c+1):=Nat.pow_pos (by decide);split
    · have:=Nat.le_mul_of_pos_right (n+1) hp;exact⟨by show n<_;omega,cF _,ha⟩
    · rename_i h;have aM:a<s.length:=by
        rcases Nat.lt_or_ge a s.length with h1|h1
        · exact h1
        · rw[Nu h1]at h;omega
      have hb:=Tu s a;have h2:(16*n+(fj s a).toNat+1)*16^c≤16777216:=by
        rw[Nat.pow_succ,Nat.mul_comm (16^c) 16,←Nat.mul_assoc]at hn;exact Nat.le_trans (Nat.mul_le_mul_right _ (by omega)) hn
      have:=Tw s c _ (a+1) aM h2;exact⟨this.1,by omega,this.2.2⟩
theorem a0q(m:Nat)(s:J)(hs:s.length<100000):∀(c kk n a:Nat),c≤6→c<kk→a≤s.length→(n+1)*16^c≤16777216→
    E8 m s kk (n:Int) ((6-c:Nat):Int) (a:Int)=some (((oO s c n a).1:Int),((oO s c n a).2:Int))
  |0,kk,n,a,hc,hk,ha,hn=>by
    obtain⟨k,rfl⟩:∃k,kk=k+1:=⟨kk-1,by omega⟩;rw[E8];rfl
  |c+1,kk,n,a,hc,hk,ha,hn=>by
    obtain⟨k,rfl⟩:∃k,kk=k+1:=⟨kk-1,by omega⟩;have vV:=jW s a 0 (by omega);rw[show((0:Nat):Int)=0 from rfl,Nat.add_zero]at vV;have hb:=Tu s a;have hp:0<16^(c+1):=Nat.pow_pos (by decide);have hnn:=Nat.le_mul_of_pos_right (n+1) hp;rw[E8,bC (show((6-(c+1):Nat):Int)<6 by omega),af,vV,ai,show jJ (pk s a (-1))=fj s a from rfl,oO];by_cases h:fj s a<0
    · rw[bC h,if_pos h,af]
    · have aM:a<s.length:=by
        rcases Nat.lt_or_ge a s.length with h1|h1
        · exact h1
        · rw[Nu h1]at h;omega
      rw[bV h,if_neg h,ae,lt_eq];have e1:aa ((n:Int)*2^4)=((2^4*n:Nat):Int):=by rw[cT (by omega) (by omega)];omega
      have e2:fj s a=(((fj s a).toNat:Nat):Int):=by omega
      have e3:aa (((6-(c+1):Nat):Int)+1)=((6-c:Nat):Int):=by rw[cT (by omega) (by omega)];omega
      have h2:(16*n+(fj s a).toNat+1)*16^c≤16777216:=by
        rw[Nat.pow_succ,Nat.mul_comm (16^c) 16,←Nat.mul_assoc]at hn;exact Nat.le_trans (Nat.mul_le_mul_right _ (by omega)) hn
      rw[e1]
      conv=>lhs;rw[e2]
      rw[adF n (fj s a).toNat 4 (by omega) (by omega),e3,br (by omega)];have:=a0q m s hs c k (16*n+(fj s a).toNat) (a+1) (by omega) (by omega) aM h2;exact this
theorem a0r(m:Nat)(s:J)(i:Nat)(hs:s.length<100000):∀(c kk n a:Nat),c≤6→c<kk→a≤s.length→a+c=i+7→(n+1)*16^c≤16777216→
    Ci m s (i:Int) kk (n:Int) (a:Int)=some (((oO s c n a).1:Int),((oO s c n a).2:Int)):=by
  have e0:∀a:Nat,i<1000000→aa (aa ((i:Int)+1)+6)=((i+7:Nat):Int):=λa hi=>by rw[br (by omega),cT (by omega) (by omega)];omega
  intro c
  induction c with
  |zero=>
    intro kk n a hc hk ha PT hn;obtain⟨k,rfl⟩:∃k,kk=k+1:=⟨kk-1,by omega⟩;rw[Ci,e0 a (by omega),bV (show¬(a:Int)<((i+7:Nat):Int) by omega),lt_eq];have:(cond (decide ((a:Int)<ln s)) false false)=false:=by cases decide ((a:Int)<ln s)<;>rfl
    rw[this,aL (λh=>by cases h),lt_eq,ae,ae];rfl
  |succ c ih=>
    intro kk n a hc hk ha PT hn;obtain⟨k,rfl⟩:∃k,kk=k+1:=⟨kk-1,by omega⟩;have hb:=Tu s a;rw[Ci,e0 a (by omega),bC (show(a:Int)<((i+7:Nat):Int) by omega),lt_eq,oO];by_cases aM:a<s.length
    · rw[dM aM,af,aL (λ_=>⟨by omega,by unfold ln;omega⟩),lt_eq,af,Nt aM];by_cases h:fj s a<0
      · rw[bV (show¬0≤fj s a by omega),if_pos h,ae]
      · have h2:(16*n+(fj s a).toNat+1)*16^c≤16777216:=by
          rw[Nat.pow_succ,Nat.mul_comm (16^c) 16,←Nat.mul_assoc]at hn;exact Nat.le_trans (Nat.mul_le_mul_right _ (by omega)) hn
        have hp:0<16^(c+1):=Nat.pow_pos (by decide);have hnn:=Nat.le_mul_of_pos_right (n+1) hp;rw[bC (show 0≤fj s a by omega),if_neg h,af,dN aM,lt_eq,cT (x:=16*(n:Int)) (by omega) (by omega),cT (x:=16*(n:Int)+fj s a) (by omega) (by omega),br (by omega)];have:=ih k (16*n+(fj s a).toNat) (a+1) (by omega) (by omega) aM (by omega) h2;rw[←this];congr 1;omega
    · rw[eS (by omega),ae,aL (λh=>by cases h),lt_eq,ae,ae,if_pos (by rw[Nu (by omega)];omega)]
theorem tY{s:J}{i:Nat}(h:i<s.length):sub s (i:Int) ((i+1:Nat):Int)=[s[i]]:=by
  unfold sub;rw[Int.toNat_natCast,Int.toNat_natCast,show i+1-i=1 from by omega,oM h];rfl
theorem A4{s:J}{i:Nat}(h:i<s.length)(d:Int):pk s i d=(s[i].toNat:Int):=by
  unfold pk;rw[List.getElem?_eq_getElem h]
theorem FE(m:Nat)(s:J)(i:Nat)(b:J)(hs:s.length<100000)(hm:10<m)(hi:i<s.length)(hb:b.length<10000000):
    ∃(E:J)(j:Nat),uG m s (i:Int) (ax b)=some (ax (b++E),(j:Int))∧sw m s (i:Int)=some (E,(j:Int))∧i<j∧j≤s.length∧E.length≤4∧E≠[]:=by
  unfold uG sw;have vV:=jW s (i+1) 0 (by omega);rw[show((0:Nat):Int)=0 from rfl,Nat.add_zero]at vV;rw[br (by omega),vV,ai];by_cases h1:i+1<s.length
  · have sA:=A4 h1 (-1);have iN:=(s[i+1]).toNat_lt;rw[show(pk s (i+1) (-1)==(-1))=false from bE.2 (by rw[sA];omega),ae];rw[show decide (ln s≤((i+1:Nat):Int))=false from bV (by unfold ln;omega),ae,dN h1,lt_eq,Nt h1,show jJ (pk s (i+1) (-1))=fj s (i+1)from rfl];by_cases h2:fj s (i+1)<0
    · rw[bC h2,af,lt_eq,af,br (i:=i+1) (by omega),sA,rH (by omega) (by omega),aL (by unfold ln;rw[mS];simp only[aZ,bW];omega),lt_eq,
        aL (by unfold ln;omega),tY h1]
      refine⟨[s[i+1]],i+2,?_,rfl,by omega,by omega,by simp,by simp⟩;rw[jn];rfl
    · rw[bV h2,ae,lt_eq,ae];have FF:(0+1)*16^6≤16777216:=by decide
      have l1:=a0q m s hs 6 m 0 (i+1) (by decide) (by omega) (by omega) FF;have l2:=a0r m s i hs 6 m 0 (i+1) (by decide) (by omega) (by omega) (by omega) FF;have bQ:=Tw s 6 0 (i+1) (by omega) FF;rw[show((6-6:Nat):Int)=0 from rfl]at l1;rw[show((0:Nat):Int)=0 from rfl]at l2;rw[l1,l2];generalize oO s 6 0 (i+1)=R at bQ;obtain⟨n,a⟩:=R;obtain⟨hn,lY,uq⟩:=bQ;dsimp only at hn lY uq⊢;simp only[ai];have a0s:=jW s a 0 (by omega);rw[show((0:Nat):Int)=0 from rfl,Nat.add_zero]at a0s;rw[a0s,eE];simp only[ai];rw[Jq,nV,br (by omega)];have hz:(cond ((n:Int)==0) (some (65533:Int)) (some (n:Int)))=some ((pM n:Nat):Int):=by
        unfold pM;by_cases DB:n=0
        · rw[if_pos DB,DB];rfl
        · rw[if_neg DB,show((n:Int)==0)=false from bE.2 (by omega),ae]
      rw[hz];have Jr:pM n<16777216:=by unfold pM;split<;>omega
      have yL:Bh (ax b) (Kv ((pM n:Nat):Int))=some (ax (b++bD (kx (pM n)))):=by
        rw[adE (by omega) (by omega),a0o _ _ Jr (by rw[mS];omega),jn,a0i _ (adJ _)]
      have hrl:=adK (pM n);have hlB:(bD (kx (pM n))).length=(kx (pM n)).length:=List.length_map ..;have cQ:bD (kx (pM n))≠[]:=by intro e;rw[e]at hlB;simp at hlB;omega
      rw[adV n hn];cases ht:aD bw s a
      · simp only[ae,ai];rw[yL];exact⟨_,a,rfl,rfl,by omega,uq,by omega,cQ⟩
      · have aM:=iv ht;simp only[af,ai];rw[yL];exact⟨_,a+1,rfl,rfl,by omega,aM,by omega,cQ⟩
  · have he:i+1=s.length:=by omega
    have Tx:pk s (i+1) (-1)=-1:=by unfold pk;rw[List.getElem?_eq_none (by omega)]
    rw[Tx,show((-1:Int)==(-1))=true from rfl,af,show decide (ln s≤((i+1:Nat):Int))=true from bC (by unfold ln;omega),af];have h3:=a0o (ax b) 65533 (by decide) (by rw[mS];omega);rw[show((65533:Nat):Int)=65533 from rfl]at h3;rw[h3];refine⟨Cf,i+1,?_,rfl,by omega,by omega,by decide,by decide⟩;rw[jn];rfl
theorem Tz(m:Nat)(s:J)(hs:s.length<100000)(hm:10<m):∀(kk i:Nat)(v:J),s.length-i<kk→i≤s.length→v.length≤4*i→
    ∃(w:J)(j:Nat),zk m s kk (ax v) (i:Int)=some (w,(j:Int))∧pJ m s kk (i:Int) v=some (w,(j:Int))∧i≤j∧j≤s.length∧w.length≤4*j:=by
  intro kk
  induction kk with
  |zero=>intro i v h;omega
  |succ kk ih=>
    intro i v hk hi hv;have vV:=jW s i 0 (by omega);rw[show((0:Nat):Int)=0 from rfl,Nat.add_zero]at vV;have tZ:=Cw s i 0 (by omega);rw[show((0:Nat):Int)=0 from rfl,Nat.add_zero]at tZ;rw[zk,pJ,vV,ai,Tt,tZ,tX s i (by omega)];by_cases aM:i<s.length
    · have TA:mR (aI s (i:Int))=aD dc s i:=by rw[jV s i 0 aM,FC]
      have sA:=A4 aM (-1);have iN:=(s[i]).toNat_lt;rw[dM aM,aL (λ_=>⟨by omega,by unfold ln;omega⟩),lt_eq,af,TA];cases hl:aD dc s i
      · rw[ae,lt_eq,ae,show(pk s i (-1) !=(-1))=true from by rw[sA];exact bne_iff_ne.2 (by omega)];simp only[af,ai];cases he:mr s i
        · exact⟨v,i,by rw[ae,ll],by rw[ae],cF _,hi,hv⟩
        · obtain⟨E,j,e1,e2,e3,e4,e5,e6⟩:=FE m s i v hs hm aM (by omega);rw[af,af,e1,e2,ai,ai];dsimp only;rw[aL (by unfold ln;omega)];obtain⟨w,j',f1,f2,f3,f4,f5⟩:=ih j (v++E) (by omega) e4 (by rw[bB];omega);exact⟨w,j',f1,f2,by omega,f4,f5⟩
      · rw[af,lt_eq,af,sA,rH (by omega) (by omega),br (by omega),aL (by unfold ln;rw[mS];simp only[aZ,bW];omega),
          aL (by unfold ln;omega),tY aM,aL (by unfold ln;simp only[aZ,bW];omega)]
        obtain⟨w,j',f1,f2,f3,f4,f5⟩:=ih (i+1) (v++[s[i]]) (by omega) aM (by rw[bB,aZ,bW];omega);refine⟨w,j',?_,f2,by omega,f4,f5⟩;rw[←f1,jn];rfl
    · have Tx:pk s i (-1)=-1:=by unfold pk;rw[List.getElem?_eq_none (by omega)]
      have hl:aD dc s i=false:=by unfold aD;rw[List.getElem?_eq_none (by omega)]
      rw[eS (by omega),aL (λh=>by cases h),lt_eq,ae,hl,ae,Tx,show((-1:Int) !=(-1))=false from rfl];exact⟨v,i,by simp only[ae,ai,ll],by simp only[lt_eq,ae,ai],cF _,hi,hv⟩
end Go.Proofs.YtpobihiejncdgaaGreatDoor
namespace Go.V
open Go
def jc(cap:Nat)(l:J)(v:Nat):Nat:=l.foldl (λv b=>min cap (10*v+(b.toNat-48))) v
theorem Cx(cap:Nat)(b:UInt8)(l:J)(v:Nat):jc cap (b::l) v=jc cap l (min cap (10*v+(b.toNat-48))):=rfl
theorem xP(cap:Nat):∀(l:J)(v:Nat),v≤cap→jc cap l v≤cap
  |[],_,h=>h
  |b::l,v,_=>xP cap l _ (Nat.min_le_left _ _)
theorem a0t(c1 c2:Nat)(h:c1≤c2):∀(l:J)(v w:Nat),v=min c1 w→jc c1 l v=min c1 (jc c2 l w)
  |[],_,_,e=>e
  |b::l,v,w,e=>by
    rw[Cx,Cx];refine a0t c1 c2 h l _ _ ?_;subst e;omega
def jX(c:Int)(v:Nat):Nat:=if c≤0∨v=0 then v else min 1000000000000 (v*10^c.toNat)
theorem adX(c:Int)(v:Nat)(hc:0<c)(hv:0<v)(hv2:v<1000000000000):jX (c-1) (min 1000000000000 (10*v))=jX c v:=by
  unfold jX;rw[if_neg (show¬(c≤0∨v=0) by omega)];obtain⟨k,rfl⟩:∃k:Nat,c=((k+1:Nat):Int):=⟨c.toNat-1,by omega⟩;have e1:(((k+1:Nat):Int)).toNat=k+1:=by omega
  have e2:(((k+1:Nat):Int)-1).toNat=k:=by omega
  rw[e1,e2];have hp:0<10^k:=Nat.pow_pos (by decide);rw[Nat.pow_succ];cases k with
  |zero=>
    rw[if_pos (Or.inl (by omega))];omega
  |succ k=>
    rw[if_neg (by omega)];generalize 10^(k+1)=p at hp;rcases Nat.lt_or_ge (10*v) 1000000000000 with h|h
    · rw[Nat.min_eq_right (by omega:10*v≤1000000000000)];congr 1;rw[Nat.mul_comm 10 v,Nat.mul_assoc,Nat.mul_comm 10 p]
    · rw[Nat.min_eq_left (by omega:1000000000000≤10*v)];have h1:1000000000000≤1000000000000*p:=Nat.le_mul_of_pos_right _ hp;have h2:10*v≤v*(p*10):=by
        rw[Nat.mul_comm p 10,←Nat.mul_assoc,Nat.mul_comm v 10];exact Nat.le_mul_of_pos_right _ hp
      omega
theorem a0u(c:Int)(v:Nat)(hv:v≤1000000000000)(hc:12≤c):jX c v=if v=0 then 0 else 1000000000000:=by
  unfold jX;by_cases h:v=0
  · rw[if_pos (Or.inr h),if_pos h,h]
  · rw[if_neg (by omega),if_neg h];have h1:(10:Nat)^12≤10^c.toNat:=Nat.pow_le_pow_right (by decide) (by omega);have h2:10^c.toNat≤v*10^c.toNat:=Nat.le_mul_of_pos_left _ (by omega);have h3:(10:Nat)^12=1000000000000:=by decide
    omega
theorem adY{b:UInt8}(h:aK b=true):bj ((b.toNat:Int)-48)=((b.toNat-48:Nat):Int):=by
  unfold aK at h;rw[Bool.and_eq_true]at h;have h1:=gS h.1;have h2:=gS h.2;rw[rH (by omega) (by omega)];omega
theorem sub_one{s:J}{i:Nat}(h:i<s.length):sub s (i:Int) ((i+1:Nat):Int)=[s[i]]:=by
  unfold sub;rw[show(((i+1:Nat):Int)).toNat=i+1 from by omega,show((i:Int)).toNat=i from by omega];rw[Nat.add_sub_cancel_left,oM h];rfl
end Go.V
namespace Go.Proofs.YtpobihiejncdgaaGreatDoor
open Go Go.V
theorem a0v(m:Nat):∀(kk:Nat)(c:Int)(v:Nat),-9000000000<c→c<9000000000→v≤1000000000000→0<kk→(v=0∨1000000000000≤v*10^(kk-1))→zo m kk c (v:Int)=some ((jX c v:Nat):Int):=by
  intro kk
  induction kk with
  |zero=>intro c v _ _ _ h;omega
  |succ kk ih=>
    intro c v iZ oe hv _ hp;rw[zo];simp only[lt_eq];by_cases h1:0<c
    · by_cases h2:v=0
      · subst h2;have:jX c 0=0:=by unfold jX;rw[if_pos (Or.inr rfl)]
        rw[this,bC h1];rfl
      · have h3:(0:Int)<(v:Int):=by omega
        by_cases h4:v<1000000000000
        · have h5:(v:Int)<1000000000000:=by omega
          rw[bC h1,bC h3,bC h5];simp only[af];rw[cT (x:=10*(v:Int)) (by omega) (by omega),cT (x:=c-1) (by omega) (by omega)];have e:(if(1000000000000:Int)<10*(v:Int)then 1000000000000 else 10*(v:Int))=((min 1000000000000 (10*v):Nat):Int):=by
            split<;>omega
          have hk:0<kk:=by
            rcases Nat.eq_zero_or_pos kk with h0|h0
            · subst h0;simp at hp;omega
            · exact h0
          rw[e,ih (c-1) (min 1000000000000 (10*v)) (by omega) (by omega) (by omega) hk (Or.inr ?_),adX c v h1 (by omega) h4];obtain⟨k,rfl⟩:∃k,kk=k+1:=⟨kk-1,by omega⟩;have Js:=hp.resolve_left h2;simp only[Nat.add_sub_cancel]at Js⊢;rw[Nat.pow_succ]at Js;have hq:0<10^k:=Nat.pow_pos (by decide);generalize 10^k=p at Js hq;rcases Nat.lt_or_ge (10*v) 1000000000000 with h|h
          · rw[Nat.min_eq_right (by omega:10*v≤1000000000000)];rw[Nat.mul_comm p 10,←Nat.mul_assoc,Nat.mul_comm v 10]at Js;exact Js
          · rw[Nat.min_eq_left (by omega:1000000000000≤10*v)];exact Nat.le_mul_of_pos_right _ hq
        · have h5:¬(v:Int)<1000000000000:=by omega
          rw[bC h1,bC h3,bV h5];simp only[af,ae];have:v=1000000000000:=by omega
          subst this;unfold jX;rw[if_neg (by omega)];have h6:1000000000000≤1000000000000*10^c.toNat:=Nat.le_mul_of_pos_right _ (Nat.pow_pos (by decide));rw[Nat.min_eq_left h6]
    · rw[bV h1];unfold jX;rw[if_pos (Or.inl (by omega))];rfl
theorem adZ(m:Nat):∀(kk:Nat)(c v:Int),Ft m kk c v=zo m kk c v:=by
  intro kk
  induction kk with
  |zero=>intro c v;rfl
  |succ kk ih=>
    intro c v;rw[Ft,zo];simp only[lt_eq];have e:(if aa (10*v)<1000000000000 then aa (10*v)else 1000000000000)=(if 1000000000000<aa (10*v)then 1000000000000 else aa (10*v)):=by
      split<;>split<;>omega
    rw[e,ih]
theorem TB(z:J)(i:Nat)(h:i<z.length):gi (ax z) (i:Int)=(z[i].toNat:Int):=by
  rw[iq _ _ (by simpa[ax]using h)];simp[ax]
theorem kP(z:J):ln (ax z)=(z.length:Int):=by simp[ln,ax]
theorem Nv(b:UInt8)(h:aK b=true)(v:Nat)(hv:v≤1000000000000):aa (aa (10*(v:Int))+aa (bj ((b.toNat:Int)-48)))=((10*v+(b.toNat-48):Nat):Int):=by
  rw[adY h];have:=b.toNat_lt;rw[cT (x:=10*(v:Int)) (by omega) (by omega),cT (x:=((b.toNat-48:Nat):Int)) (by omega) (by omega),cT (by omega) (by omega)];omega
theorem ae0(m:Nat)(z:J)(hz:∀b∈z,aK b=true)(hl:z.length<1000000):∀(kk i v:Nat),z.length-i<kk→i≤z.length→v≤1048576→
    Ec m z kk (v:Int) (i:Int)=some ((jc 1048576 (z.drop i) v:Nat):Int):=by
  intro kk
  induction kk with
  |zero=>intro i v h;omega
  |succ kk ih=>
    intro i v h hi hv;rw[Ec];rcases Nat.lt_or_ge i z.length with aM|nW
    · rw[kP,show decide ((i:Int)<(z.length:Int))=true from bC (by omega),aL (by omega)];simp only[af,lt_eq];rw[TB z i aM,Nv z[i] (hz _ (List.getElem_mem aM)) v (by omega),br (by omega)];have e:(if(1048576:Int)<((10*v+(z[i].toNat-48):Nat):Int)then 1048576 else((10*v+(z[i].toNat-48):Nat):Int))=((min 1048576 (10*v+(z[i].toNat-48)):Nat):Int):=by
        split<;>omega
      rw[e,ih (i+1) _ (by omega) (by omega) (Nat.min_le_left _ _),oM aM,Cx]
    · rw[kP,show decide ((i:Int)<(z.length:Int))=false from bV (by omega),fF nW];rfl
theorem ae1(m:Nat)(z:J)(hz:∀b∈z,aK b=true)(hl:z.length<1000000):∀(kk i v:Nat),z.length-i<kk→i≤z.length→v≤1000000000000→
    Ed m z kk (v:Int) (i:Int)=some ((jc 1000000000000 (z.drop i) v:Nat):Int):=by
  intro kk
  induction kk with
  |zero=>intro i v h;omega
  |succ kk ih=>
    intro i v h hi hv;rw[Ed];rcases Nat.lt_or_ge i z.length with aM|nW
    · rw[kP,show decide ((i:Int)<(z.length:Int))=true from bC (by omega),aL (by omega)];simp only[af,lt_eq];rw[TB z i aM,Nv z[i] (hz _ (List.getElem_mem aM)) v hv,br (by omega)];have e:(if(1000000000000:Int)<((10*v+(z[i].toNat-48):Nat):Int)then 1000000000000 else((10*v+(z[i].toNat-48):Nat):Int))=((min 1000000000000 (10*v+(z[i].toNat-48)):Nat):Int):=by
        split<;>omega
      rw[e,ih (i+1) _ (by omega) (by omega) (Nat.min_le_left _ _),oM aM,Cx]
    · rw[kP,show decide ((i:Int)<(z.length:Int))=false from bV (by omega),fF nW];rfl
theorem ae2(m:Nat)(s:J)(hl:s.length<1000000):∀(kk i v:Nat),(∀b∈s.drop i,aK b=true)→s.length-i<kk→i≤s.length→v≤10000→
    Fp m s kk (i:Int) (v:Int)=some ((jc 10000 (s.drop i) v:Nat):Int):=by
  intro kk
  induction kk with
  |zero=>intro i v _ h;omega
  |succ kk ih=>
    intro i v hz h hi hv;rw[Fp];rcases Nat.lt_or_ge i s.length with aM|nW
    · rw[dM aM,dN aM];simp only[af,lt_eq];have hd:=oM aM;rw[wT s i aM,Nv s[i] (hz _ (by rw[hd];exact List.mem_cons_self)) v (by omega),br (by omega)];have e:(if((10*v+(s[i].toNat-48):Nat):Int)<10000 then((10*v+(s[i].toNat-48):Nat):Int)else 10000)=((min 10000 (10*v+(s[i].toNat-48)):Nat):Int):=by
        split<;>omega
      rw[e,ih (i+1) _ (λb hb=>hz b (by rw[hd];exact List.mem_cons_of_mem _ hb)) (by omega) (by omega) (Nat.min_le_left _ _),hd,Cx]
    · rw[eS nW,fF nW];rfl
theorem ae3(m:Nat)(z:J×Int×Int)(c:Int)(hz:∀b∈z.1,aK b=true)(hl:z.1.length<1000000)(hc:-9000000<c∧c<9000000):∀(kk i v:Nat),z.1.length-i<kk→v≤1000000000000→
    Fq m z c kk (v:Int) (i:Int)=some ((jc 1000000000000 ((z.1.take ((z.1.length:Int)+c).toNat).drop i) v:Nat):Int):=by
  intro kk
  induction kk with
  |zero=>intro i v h;omega
  |succ kk ih=>
    intro i v h hv;rw[Fq];simp only[lt_eq];have hw:aa (ln z.1+c)=(z.1.length:Int)+c:=by rw[cT (by unfold ln;omega) (by unfold ln;omega)];rfl
    rw[hw];have hlen:(z.1.take ((z.1.length:Int)+c).toNat).length=min ((z.1.length:Int)+c).toNat z.1.length:=List.length_take;by_cases h1:(i:Int)<(z.1.length:Int)+c∧i<z.1.length
    · rw[bC h1.1,dM h1.2,dN h1.2];simp only[af];rw[wT z.1 i h1.2,Nv z.1[i] (hz _ (List.getElem_mem h1.2)) v hv,br (by omega)];have e:(if((10*v+(z.1[i].toNat-48):Nat):Int)<1000000000000 then((10*v+(z.1[i].toNat-48):Nat):Int)else 1000000000000)=((min 1000000000000 (10*v+(z.1[i].toNat-48)):Nat):Int):=by
        split<;>omega
      have aM:i<(z.1.take ((z.1.length:Int)+c).toNat).length:=by rw[hlen];omega
      rw[e,ih (i+1) _ (by omega) (Nat.min_le_left _ _),oM aM,Cx,List.getElem_take]
    · have hf:cond (decide ((i:Int)<(z.1.length:Int)+c)) (decide ((i:Int)<ln z.1)) false=false:=by
        by_cases h2:(i:Int)<(z.1.length:Int)+c
        · rw[bC h2,eS (by omega)];rfl
        · rw[bV h2];rfl
      rw[hf,fF (by rw[hlen];omega)];rfl
theorem ae4(m:Nat)(s:J)(hs:s.length<1000000):∀(kk i:Nat)(v:J),s.length-i<kk→i≤s.length→v.length≤i→
    Jf m s kk v (i:Int)=some (v++cv s i,((i+(cv s i).length:Nat):Int)):=by
  intro kk
  induction kk with
  |zero=>intro i v h;omega
  |succ kk ih=>
    intro i v h hi hv;rw[Jf,eE];simp only[ai];rw[vM];cases ht:aD aK s i with
    |false=>rw[vH ht];simp
    |true=>
      obtain⟨hl,h2⟩:=Cr ht;rw[h2,br (by omega),sub_one hl];simp only[af];rw[aL (by unfold ln;omega),aL (by simp[ln];omega),ih (i+1) _ (by omega) (by omega) (by simp;omega)];simp;omega
theorem ae5(m:Nat)(s:J)(hs:s.length<1000000):∀(kk i:Nat)(v:J)(c:Int),s.length-i<kk→i≤s.length→v.length≤i→-9000000<c-(s.length-i:Nat)→c<9000000→
    Fm m s kk v c (i:Int)=some (v++cv s i,c-(cv s i).length,((i+(cv s i).length:Nat):Int)):=by
  intro kk
  induction kk with
  |zero=>intro i v c h;omega
  |succ kk ih=>
    intro i v c h hi hv hc oe;rw[Fm,eE];simp only[ai];rw[vM];cases ht:aD aK s i with
    |false=>rw[vH ht];simp
    |true=>
      obtain⟨hl,h2⟩:=Cr ht;rw[h2,br (by omega),sub_one hl,cT (x:=c-1) (by omega) (by omega)];simp only[af];rw[aL (by unfold ln;omega),aL (by simp[ln];omega),ih (i+1) _ _ (by omega) (by omega) (by simp;omega) (by omega) (by omega)];simp;omega
def dA(s:J):J:=cv s (bK s 0)
def yA(s:J):Nat:=bK s 0+(dA s).length
def jx(s:J)(e:Nat):Nat:=cond (aD bp s (e+1)) (e+2) (e+1)
structure oQ(s:J)(D2:J)(e:Nat):Prop where
  dot:(aD (ag 46) s (yA s)=true∧D2=cv s (yA s+1)∧e=yA s+1+D2.length∧D2≠[])∨(aD (ag 46) s (yA s)=false∧D2=[]∧e=yA s)
  ex:(aD cc s e=true∧(∀b∈s.drop (jx s e),aK b=true)∧jx s e<s.length)∨(aD cc s e=false∧e=s.length)
  nn:dA s++D2≠[]
  le:e≤s.length
theorem sB{p:UInt8→Bool}{s:J}{i:Nat}(h:aD p s i=true):∃hi:i<s.length,p s[i]=true:=by
  have hi:=iv h;refine⟨hi,?_⟩;unfold aD at h;rw[List.getElem?_eq_getElem hi]at h;exact h
theorem pN{p:UInt8→Bool}{s:J}{i:Nat}(hi:i<s.length):aD p s i=p s[i]:=by
  unfold aD;rw[List.getElem?_eq_getElem hi]
theorem Cy{s:J}{i:Nat}(h:aD aK s i=true):cv s i≠[]:=by
  obtain⟨_,h2⟩:=Cr h;rw[h2];exact List.cons_ne_nil _ _
theorem dec(s:J)(hn:jw s 0=true)(he:(iJ s).1=s.length):∃D2 e,oQ s D2 e:=by
  have hy:=Cv s (yA s) rfl;have hle:=Tq s;have gm:=tV s _ (Ct s 0 (dE _));unfold jw at hn;dsimp only at hn
  -- the exponent
  have hex:∀e wh,jy s=(e,wh)→(aD cc s e=true∧(∀b∈s.drop (jx s e),aK b=true)∧jx s e<s.length)∨(aD cc s e=false∧e=s.length):=by
    intro e wh hM;unfold iJ at he;rw[hM]at he;unfold mq at he;cases ht:aD cc s e with
    |false=>
      rw[ht]at he;exact Or.inr ⟨rfl,he⟩
    |true=>
      rw[ht]at he;have hl:=iv ht;simp only[af]at he;cases hd:aD aK s (cond (aD bp s (e+1)) (e+2) (e+1))with
      |false=>rw[hd]at he;simp only[ae]at he;omega
      |true=>
        rw[hd]at he;simp only[af]at he;refine Or.inl ⟨rfl,λb hb=>?_,iv hd⟩;have h1:s.drop (jx s e)=cv s (jx s e):=by
          rw[a0g s (jx s e),List.take_of_length_le];rw[List.length_drop];unfold jx;omega
        rw[h1]at hb;exact To s _ b hb
  cases xQ:aD (ag 46) s (yA s)with
  |false=>
    rw[xQ]at hy;simp only[ae]at hy;refine⟨[],yA s,⟨Or.inr ⟨xQ,rfl,rfl⟩,hex _ _ hy,?_,gm⟩⟩;rw[List.append_nil];have h1:aD (ag 46) s (bK s 0)=false:=by
      cases hq:aD (ag 46) s (bK s 0)with
      |false=>rfl
      |true=>
        have AQ:aD aK s (bK s 0)=false:=by
          obtain⟨hi,h2⟩:=sB hq;rw[pN hi];unfold ag at h2;unfold aK;have:s[bK s 0].toNat=46:=by simpa using h2
          rw[this];rfl
        have:yA s=bK s 0:=by unfold yA dA;rw[vH AQ];rfl
        rw[this,hq]at xQ;cases xQ
    rw[h1]at hn;exact Cy hn
  |true=>
    have hl:=iv xQ;have cQ:aD cc s (yA s)=false:=by
      obtain⟨hi,h2⟩:=sB xQ;rw[pN hi];unfold ag at h2;have:s[yA s].toNat=46:=by simpa using h2
      unfold cc ag;rw[this];rfl
    cases hd:aD aK s (yA s+1)with
    |false=>
      rw[xQ,hd]at hy;rcases hex _ _ hy with⟨h1,_⟩|⟨_,h2⟩
      · rw[cQ]at h1;cases h1
      · omega
    |true=>
      rw[xQ,hd]at hy;have hq:=Cy hd;refine⟨cv s (yA s+1),yA s+1+(cv s (yA s+1)).length,⟨Or.inl ⟨xQ,rfl,rfl,hq⟩,hex _ _ hy,λh=>hq (List.append_eq_nil_iff.1 h).2,tV s _ hl⟩⟩
def kz(s:J)(e cap:Nat):Int:=cond (aD cc s e) (cond (aD (ag 45) s (e+1)) (-((jc cap (s.drop (jx s e)) 0:Nat):Int)) ((jc cap (s.drop (jx s e)) 0:Nat):Int)) 0
def worth(s D:J)(c:Int):Int:=cond (aD (ag 45) s 0) (-((jX c (jc 1000000000000 (D.take ((D.length:Int)+c).toNat) 0):Nat):Int)) ((jX c (jc 1000000000000 (D.take ((D.length:Int)+c).toNat) 0):Nat):Int)
theorem Jt{s:J}{i:Nat}(h:i<s.length)(c:Nat)(hc:c≠0):(aI s (i:Int)==(c:Int))=aD (ag c) s i:=by
  rw[jV s i 0 h,iI _ _ _ _ (by omega)]
theorem TC(c:Int)(v:Nat)(h:v≤1000000000000):jX c v≤1000000000000:=by
  unfold jX;split
  · exact h
  · exact Nat.min_le_left _ _
theorem Nw{s D2:J}{e:Nat}(h:oQ s D2 e):∀b∈dA s++D2,aK b=true:=by
  intro b hb;rcases List.mem_append.1 hb with hb|hb
  · exact To s _ b hb
  · rcases h.dot with⟨_,h2,_⟩|⟨_,h2,_⟩
    · rw[h2]at hb;exact To s _ b hb
    · rw[h2]at hb;cases hb
theorem TD{s D2:J}{e:Nat}(h:oQ s D2 e):(dA s++D2).length≤e:=by
  rw[bB];rcases h.dot with⟨_,_,h3,_⟩|⟨_,h2,h3⟩
  · unfold yA at h3;omega
  · unfold yA at h3;rw[h2];simp;omega
theorem ae6(m:Nat)(s D:J)(c:Int)(e:Int)(hm:14<m)(hD:D.length<m)(hd:∀b∈D,aK b=true)(hl:D.length<1000000)(hc:-9000000<c∧c<9000000)(hs:0<s.length)(z2:Int×Int):
    (Option.bind (Fq m (D,z2) c m 0 0) λz88=>Option.bind (Ft m m c z88) λFx=>cond (aI s 0==45) (some (aa (0-Fx))) (some Fx))=some (worth s D c):=by
  have h4:=ae3 m (D,z2) c hd hl hc m 0 0 (by simp;omega) (by omega);simp only[Int.natCast_zero,fG]at h4;rw[h4];simp only[ai];have hv:=xP 1000000000000 (D.take ((D.length:Int)+c).toNat) 0 (by omega);rw[adZ,a0v m m c _ (by omega) (by omega) hv (by omega) ?_]
  · simp only[ai];have hb:(aI s 0==45)=aD (ag 45) s 0:=Jt hs 45 (by omega);rw[hb];unfold worth;have:=TC c _ hv;cases aD (ag 45) s 0
    · rfl
    · simp only[af];rw[cT (by omega) (by omega),Int.zero_sub]
  · by_cases h0:jc 1000000000000 (D.take ((D.length:Int)+c).toNat) 0=0
    · exact Or.inl h0
    · right;have h1:(10:Nat)^12≤10^(m-1):=Nat.pow_le_pow_right (by decide) (by omega);have h2:(10:Nat)^12=1000000000000:=by decide
      have h3:10^(m-1)≤jc 1000000000000 (D.take ((D.length:Int)+c).toNat) 0*10^(m-1):=Nat.le_mul_of_pos_left _ (by omega);omega
theorem TE(s:J)(e cap:Nat):-(cap:Int)≤kz s e cap∧kz s e cap≤cap:=by
  unfold kz;have:=xP cap (s.drop (jx s e)) 0 (dE _);cases aD cc s e<;>cases aD (ag 45) s (e+1)<;>simp only[af,ae]<;>omega
theorem TF(m:Nat)(s D2:J)(e:Nat)(h:oQ s D2 e)(hs:s.length<100000)(hm:s.length+20<m):
    tT m s=some (worth s (dA s++D2) (3-D2.length+kz s e 10000)):=by
  have oa:=TD h;have hle:=h.le;have FG:D2.length≤s.length:=by have hq:=oa;rw[bB]at hq;omega
  have h0:0<s.length:=by
    have:0<(dA s++D2).length:=List.length_pos_iff.2 h.nn;omega
  have Cz:=Ct s 0 (dE _);have gm:=tV s _ Cz;unfold tT;rw[aL (by unfold ln;omega)];have e0:(lt (cond (aI s 0==43) true (aI s 0==45)) λx9=>cond x9 (some (1:Int)) (some 0))=some ((bK s 0:Nat):Int):=by
    rw[lt_eq,show aI s 0=pk s 0 0 from jV s 0 0 h0,tW s 0 0 (by omega)];unfold bK;cases aD bp s 0<;>rfl
  rw[e0];simp only[ai];rw[ae4 m s (by omega) m (bK s 0) [] (by omega) Cz (by simp)];simp only[ai,List.nil_append];rw[show bK s 0+(cv s (bK s 0)).length=yA s from rfl,show cv s (bK s 0)=dA s from rfl];rw[show bK s 0+(cv s (bK s 0)).length=yA s from rfl]at gm;have e2:(Option.bind (eP s ((yA s:Nat):Int)) λfJ=>cond (fJ==46) (Fm m s m (dA s) 3 (aa (((yA s:Nat):Int)+1))) (some (dA s,3,((yA s:Nat):Int))))=some (dA s++D2,3-(D2.length:Int),(e:Int)):=by
    rw[eE];simp only[ai];rw[show(46:Int)=((46:Nat):Int)from rfl,iI _ _ _ _ (by omega)];rcases h.dot with⟨d1,d2,d3,_⟩|⟨d1,d2,d3⟩
    · have hl:=iv d1;rw[d1];simp only[af];rw[br (by omega),ae5 m s (by omega) m (yA s+1) (dA s) 3 (by omega) (by omega) (by unfold yA;omega) (by omega) (by omega),←d2,←d3]
    · rw[d1,d2,d3];simp
  rw[e2];simp only[ai];have e3:(Option.bind (cond (decide ((e:Int)<ln s)) (
      aB (0≤aa ((e:Int)+1)∧aa ((e:Int)+1)<ln s)<|
      Option.bind (lt (cond (aI s (aa ((e:Int)+1))==43) true (aI s (aa ((e:Int)+1))==45)) λBw=>cond Bw (some (aa (aa ((e:Int)+1)+1))) (some (aa ((e:Int)+1)))) λ(z56:Int)=>
      Option.bind (Fp m s m z56 0) λ(z64:Int)=>
      Option.bind (cond (aI s (aa ((e:Int)+1))==45) (some (aa (0-z64))) (some z64)) λ(z76:Int)=>
      some (aa ((3-(D2.length:Int))+z76))) (some (3-(D2.length:Int)))) λz=>some z)=some (3-(D2.length:Int)+kz s e 10000):=by
    have hx:=TE s e 10000;rcases h.ex with⟨x1,x2,x3⟩|⟨x1,x2⟩
    · have hl:=iv x1;have hj:e+1<s.length:=by
        unfold jx at x3;cases hg:aD bp s (e+1)with
        |true=>exact iv hg
        |false=>rw[hg]at x3;exact x3
      rw[dM hl,br (by omega),dN hj];simp only[af];have e4:(lt (cond (aI s ((e+1:Nat):Int)==43) true (aI s ((e+1:Nat):Int)==45)) λBw=>cond Bw (some (aa (((e+1:Nat):Int)+1))) (some ((e+1:Nat):Int)))=some ((jx s e:Nat):Int):=by
        rw[lt_eq,jV s (e+1) 0 hj,tW s (e+1) 0 (by omega)];unfold jx;cases hg:aD bp s (e+1)
        · rfl
        · simp only[af];rw[br (by omega)]
      rw[e4];simp only[ai];have h3:=ae2 m s (by omega) m (jx s e) 0 x2 (by omega) (by omega) (by omega);simp only[Int.natCast_zero]at h3;rw[h3];simp only[ai];rw[show(45:Int)=((45:Nat):Int)from rfl,Jt hj 45 (by omega)];have uo:=xP 10000 (s.drop (jx s e)) 0 (by omega);unfold kz at hx⊢;rw[x1]at hx⊢;cases hq:aD (ag 45) s (e+1)
      · rw[hq]at hx;simp only[af,ae,ai]at hx⊢;rw[cT (by omega) (by omega)]
      · rw[hq]at hx;simp only[af,ai]at hx⊢;rw[cT (x:=0-((jc 10000 (s.drop (jx s e)) 0:Nat):Int)) (by omega) (by omega),cT (by omega) (by omega),Int.zero_sub]
    · rw[x2,eS (cF _)];unfold kz;rw[←x2,x1];simp
  simp only[Option.bind_fun_some]at e3;rw[e3];simp only[ai];have hx:=TE s e 10000;exact ae6 m s (dA s++D2) _ (e:Int) (by omega) (by omega) (Nw h) (by omega) (by omega) h0 (3-(D2.length:Int),(e:Int))
theorem Ju(b:UInt8)(c:UInt8):(b==c)=ag c.toNat b:=by
  unfold ag;by_cases h:b=c
  · subst h;simp
  · rw[bE.2 h];exact(bE.2 λh1=>h (UInt8.toNat_inj.1 h1)).symm
theorem a0w(b:UInt8):([43,45]:List UInt8).contains b=bp b:=by
  simp only[List.contains_cons,List.contains_nil,Bool.or_false];rw[Ju,Ju];rfl
theorem a0x(b:UInt8):([101,69]:List UInt8).contains b=cc b:=by
  simp only[List.contains_cons,List.contains_nil,Bool.or_false];rw[Ju,Ju];rfl
theorem TG{s:J}{i:Nat}(h:aD bp s i=false):Lib.trimLeftS (s.drop i) [43,45]=s.drop i:=by
  unfold Lib.trimLeftS;rcases Nat.lt_or_ge i s.length with hi|hi
  · rw[oM hi,List.dropWhile_cons,a0w,←pN (p:=bp) hi,h];rfl
  · rw[fF hi];rfl
theorem a0y{s:J}{i:Nat}(h:aD bp s i=true):Lib.trimLeftS (s.drop i) [43,45]=Lib.trimLeftS (s.drop (i+1)) [43,45]:=by
  have hi:=iv h;unfold Lib.trimLeftS;rw[oM hi,List.dropWhile_cons,a0w,←pN (p:=bp) hi,h];rfl
theorem u5{b:UInt8}(h:aK b=true):bp b=false∧ag 46 b=false∧cc b=false∧b.toNat<128:=by
  unfold aK at h;rw[Bool.and_eq_true]at h;have h1:=gS h.1;have h2:=gS h.2;unfold bp cc ag;refine⟨?_,bE.2 (by omega),?_,by omega⟩
  · rw[bE.2 (show b.toNat≠43 by omega),bE.2 (show b.toNat≠45 by omega)];rfl
  · rw[bE.2 (show b.toNat≠101 by omega),bE.2 (show b.toNat≠69 by omega)];rfl
theorem Ny{b:UInt8}(h:ag 46 b=true):bp b=false∧aK b=false∧cc b=false∧b.toNat<128∧b=46:=by
  have h1:b.toNat=46:=by unfold ag at h;simpa using h
  have h2:b=46:=UInt8.toNat_inj.1 h1;subst h2;exact⟨rfl,rfl,rfl,by decide,rfl⟩
theorem a0z(s:J)(i:Nat):s.drop i=cv s i++s.drop (i+(cv s i).length):=by
  have h:=List.takeWhile_append_dropWhile (p:=aK) (l:=s.drop i);rw[←List.drop_drop]
  conv=>lhs;rw[←List.take_append_drop (cv s i).length (s.drop i)]
  rw[←a0g s i]
theorem ae7{s D2:J}{e:Nat}(h:oQ s D2 e):aD bp s (bK s 0)=false:=by
  cases hd:aD aK s (bK s 0)with
  |true=>
    obtain⟨hi,h2⟩:=sB hd;rw[pN hi];exact(u5 h2).1
  |false=>
    have hA:dA s=[]:=vH hd;have hy:yA s=bK s 0:=by unfold yA;rw[hA];rfl
    rcases h.dot with⟨d1,_⟩|⟨_,d2,_⟩
    · rw[hy]at d1;obtain⟨hi,h2⟩:=sB d1;rw[pN hi];exact(Ny h2).1
    · exact absurd (by rw[hA,d2];rfl) h.nn
def jd(s D2:J):J:=dA s++cond (aD (ag 46) s (yA s)) (46::D2) []
theorem TH{s D2:J}{e:Nat}(h:oQ s D2 e):s.drop (bK s 0)=jd s D2++s.drop e:=by
  rw[a0z s (bK s 0)];show dA s++s.drop (yA s)=_;unfold jd;rcases h.dot with⟨d1,d2,d3,_⟩|⟨d1,d2,d3⟩
  · obtain⟨hi,h2⟩:=sB d1;rw[oM hi,(Ny h2).2.2.2.2,d1,a0z s (yA s+1),←d2,←d3];simp
  · rw[d1,d3];simp
theorem a0A{s D2:J}{e:Nat}(h:oQ s D2 e):bK s 0+(jd s D2).length=e:=by
  unfold jd;rcases h.dot with⟨d1,d2,d3,_⟩|⟨d1,d2,d3⟩
  · rw[d1,d3];unfold yA;simp;omega
  · rw[d1,d3];unfold yA;simp
theorem a0B{s D2:J}{e:Nat}(h:oQ s D2 e):∀b∈jd s D2,bp b=false∧cc b=false∧b.toNat<128:=by
  intro b hb;have hd:=Nw h;unfold jd at hb;rcases List.mem_append.1 hb with hb|hb
  · have:=u5 (hd b (List.mem_append_left _ hb));exact⟨this.1,this.2.2.1,this.2.2.2⟩
  · cases hq:aD (ag 46) s (yA s)with
    |false=>rw[hq]at hb;cases hb
    |true=>
      rw[hq]at hb;rcases List.mem_cons.1 hb with rfl|hb
      · exact⟨rfl,rfl,by decide⟩
      · have:=u5 (hd b (List.mem_append_right _ hb));exact⟨this.1,this.2.2.1,this.2.2.2⟩
theorem a0C(cs:List UInt8):∀(A B:List UInt8),(∀b∈A,cs.contains b=false)→Lib.indexAny (A++B) cs=if Lib.indexAny B cs=-1 then-1 else(A.length:Int)+Lib.indexAny B cs
  |[],B,_=>by
    simp only[List.nil_append,bW];split<;>omega
  |a::A,B,h=>by
    have ih:=a0C cs A B λb hb=>h b (List.mem_cons_of_mem _ hb);rw[List.cons_append,Lib.indexAny,if_neg (by rw[h a List.mem_cons_self];exact Bool.false_ne_true),ih];have:=Lib.indexAny_ge cs B;by_cases hb:Lib.indexAny B cs=-1
    · rw[if_pos hb,if_pos hb];rfl
    · rw[if_neg hb,if_neg hb,if_neg (by simp;omega)];simp;omega
theorem a0D(c:UInt8):∀(A B:List UInt8),(∀b∈A,(b==c)=false)→Lib.indexByte (A++c::B) c=(A.length:Int)
  |[],B,_=>by
    rw[List.nil_append,Lib.indexByte,if_pos (beq_self_eq_true c)];rfl
  |a::A,B,h=>by
    have ih:=a0D c A B λb hb=>h b (List.mem_cons_of_mem _ hb);rw[List.cons_append,Lib.indexByte,if_neg (by rw[h a List.mem_cons_self];exact Bool.false_ne_true),ih,if_neg (by simp)];simp
theorem a0E(c:UInt8):∀(A:List UInt8),(∀b∈A,(b==c)=false)→Lib.indexByte A c=-1
  |[],_=>rfl
  |a::A,h=>by
    have ih:=a0E c A λb hb=>h b (List.mem_cons_of_mem _ hb);rw[Lib.indexByte,if_neg (by rw[h a List.mem_cons_self];exact Bool.false_ne_true),ih];rfl
theorem ae8{s D2:J}{e:Nat}(h:oQ s D2 e)(hl:s.length<1000000):∃b,strings_Cut (jd s D2) [46]=some (dA s,D2,b):=by
  have A5:=a0A h;have hle:=h.le;have iO:∀b∈dA s,(b==(46:UInt8))=false:=λb hb=>by
    rw[Ju];exact(u5 (Nw h b (List.mem_append_left _ hb))).2.1
  have cQ:(([46]:J)==jd s D2)=false:=by
    refine bE.2 λh1=>?_;have h2:dA s++cond (aD (ag 46) s (yA s)) (46::D2) []=[46]:=h1.symm;cases hA:dA s with
    |nil=>
      rw[hA]at h2;have hD:D2≠[]:=λh3=>h.nn (by rw[hA,h3];rfl);cases hq:aD (ag 46) s (yA s)with
      |false=>rw[hq]at h2;cases h2
      |true=>rw[hq]at h2;exact hD (by simpa using h2)
    |cons x r=>
      rw[hA]at h2;have h3:x=46:=by simpa using congrArg List.head? h2
      have h4:=iO x (by rw[hA];exact List.mem_cons_self);rw[h3]at h4;cases h4
  have n1:ln ([46]:J)=1:=rfl;unfold strings_Cut stringslite_Cut stringslite_Index;simp only[lt_eq];rw[n1,cQ];simp only[show((1:Int)==0)=false from rfl,show((1:Int)==1)=true from rfl,af,ae];rw[aL (by decide)];simp only[ai];have hb:stringslite_IndexByte (jd s D2) (aI [46] 0)=Lib.indexByte (jd s D2) 46:=rfl;rw[hb];generalize hq:Lib.indexByte (jd s D2) 46=q;unfold jd at A5 hq⊢;rcases h.dot with⟨d1,d2,d3,_⟩|⟨d1,d2,d3⟩
  · rw[d1]at A5 hq⊢;simp only[af]at A5 hq⊢;rw[a0D 46 _ _ iO]at hq;subst hq;rw[bC (show(0:Int)≤((dA s).length:Int)from by omega)];simp only[af];have hlen:(dA s++46::D2).length=(dA s).length+(D2.length+1):=by simp
    rw[hlen]at A5;rw[aL (by unfold ln;rw[hlen];omega),br (by omega),aL (by unfold ln;rw[hlen];omega)];simp only[ai];refine⟨true,?_⟩;have e1:sub (dA s++46::D2) 0 ((dA s).length:Int)=dA s:=by simp[sub]
    have e2:sub (dA s++46::D2) (((dA s).length+1:Nat):Int) (ln (dA s++46::D2))=D2:=by
      unfold sub ln;rw[show((((dA s).length+1:Nat):Int)).toNat=(dA s).length+1 from by omega,show(((dA s++46::D2).length:Int)).toNat=(dA s).length+1+D2.length from by rw[hlen];omega];rw[Nat.add_sub_cancel_left,←List.drop_drop,List.drop_left];simp
    rw[e1,e2]
  · rw[d1,d2]at hq⊢;simp only[ae,List.append_nil]at hq⊢;rw[a0E 46 _ iO]at hq;subst hq;exact⟨false,rfl⟩
theorem ae9(m:Nat)(s D1 D2:J)(k c:Int)(hm:14<m)(hD:(D1++D2).length<m)(hd:∀b∈D1++D2,aK b=true)(hl:(D1++D2).length<1000000)(hk:c=k-(D2.length:Int))(hc:-9000000<c∧c<9000000)(hs:0<s.length):
    (aB (ln D1+ln D2≤9223372036854775807)<|
      Option.bind (lt (decide (aa (k-ln D2)<0)) λx63=>cond x63 (
        lt (aa (ln (D1++D2)+aa (k-ln D2))) λxb=>
        aB (0≤(if 0<xb then xb else 0)∧(if 0<xb then xb else 0)≤ln (D1++D2))<|
        lt (sub (D1++D2) 0 (if 0<xb then xb else 0)) λx68=>some x68) (some (D1++D2))) λ(z62:J)=>
      Option.bind (Ed m z62 m 0 0) λ(Jk:Int)=>
      Option.bind (zo m m (aa (k-ln D2)) Jk) λ(Fu:Int)=>
      Option.bind (cond (aI s 0==45) (some (aa (0-Fu))) (some Fu)) λ(C4:Int)=>some C4)=some (worth s (D1++D2) c):=by
  have ajW:(D1++D2).length=D1.length+D2.length:=bB;have hw:aa (k-ln D2)=c:=by rw[cT (by unfold ln;omega) (by unfold ln;omega)];unfold ln;omega
  rw[aL (by unfold ln;omega),hw];simp only[lt_eq];have e1:(cond (decide (c<0)) (
        aB (0≤(if 0<aa (ln (D1++D2)+c)then aa (ln (D1++D2)+c)else 0)∧(if 0<aa (ln (D1++D2)+c)then aa (ln (D1++D2)+c)else 0)≤ln (D1++D2))<|
        some (sub (D1++D2) 0 (if 0<aa (ln (D1++D2)+c)then aa (ln (D1++D2)+c)else 0))) (some (D1++D2)))=some ((D1++D2).take (((D1++D2).length:Int)+c).toNat):=by
    by_cases h0:c<0
    · rw[bC h0];simp only[af];have TI:aa (ln (D1++D2)+c)=((D1++D2).length:Int)+c:=by rw[cT (by unfold ln;omega) (by unfold ln;omega)];rfl
      rw[TI];have hx:(if 0<((D1++D2).length:Int)+c then((D1++D2).length:Int)+c else 0)=(((((D1++D2).length:Int)+c).toNat:Nat):Int):=by split<;>omega
      rw[hx,aL (by unfold ln;omega)];congr 1
    · rw[bV h0];simp only[ae];rw[List.take_of_length_le (by omega)]
  rw[e1];simp only[ai];generalize hz:(D1++D2).take (((D1++D2).length:Int)+c).toNat=z;have TJ:z.length≤(D1++D2).length:=by rw[←hz,List.length_take];omega
  have hzd:∀b∈z,aK b=true:=λb hb=>hd b (by rw[←hz]at hb;exact List.mem_of_mem_take hb);have h2:=ae1 m z hzd (by omega) m 0 0 (by omega) (by omega) (by omega);simp only[Int.natCast_zero,fG]at h2;rw[h2];simp only[ai];have hv:=xP 1000000000000 z 0 (by omega);rw[a0v m m c _ (by omega) (by omega) hv (by omega) ?_]
  · simp only[ai];have hb:(aI s 0==45)=aD (ag 45) s 0:=Jt hs 45 (by omega);rw[hb];unfold worth;rw[hz];have:=TC c _ hv;cases aD (ag 45) s 0
    · rfl
    · simp only[af,ai];rw[cT (by omega) (by omega),Int.zero_sub]
  · by_cases h0:jc 1000000000000 z 0=0
    · exact Or.inl h0
    · right;have h1:(10:Nat)^12≤10^(m-1):=Nat.pow_le_pow_right (by decide) (by omega);have h2:(10:Nat)^12=1000000000000:=by decide
      have h3:10^(m-1)≤jc 1000000000000 z 0*10^(m-1):=Nat.le_mul_of_pos_left _ (by omega);omega
theorem aea{s D2:J}{e:Nat}(h:oQ s D2 e):yW (s.drop (bK s 0))=true:=by
  rw[TH h];unfold yW;rw[List.all_append,Bool.and_eq_true];refine⟨List.all_eq_true.2 λb hb=>bC (a0B h b hb).2.2,?_⟩;rcases h.ex with⟨x1,x2,x3⟩|⟨_,x2⟩
  · obtain⟨hi,h2⟩:=sB x1;rw[oM hi,List.all_cons,Bool.and_eq_true];refine⟨bC ?_,?_⟩
    · unfold cc ag at h2;rw[Bool.or_eq_true]at h2;rcases h2 with h2|h2
      · have:s[e].toNat=101:=by simpa using h2
        omega
      · have:s[e].toNat=69:=by simpa using h2
        omega
    · have hj:(s.drop (jx s e)).all (λb=>decide (b.toNat<128))=true:=List.all_eq_true.2 λb hb=>bC (u5 (x2 b hb)).2.2.2;unfold jx at hj;cases hg:aD bp s (e+1)with
      |false=>rw[hg]at hj;exact hj
      |true=>
        rw[hg]at hj;obtain⟨kf,h3⟩:=sB hg;rw[oM kf,List.all_cons,Bool.and_eq_true];refine⟨bC ?_,hj⟩;unfold bp ag at h3;rw[Bool.or_eq_true]at h3;rcases h3 with h3|h3
        · have:s[e+1].toNat=43:=by simpa using h3
          omega
        · have:s[e+1].toNat=45:=by simpa using h3
          omega
  · rw[x2,List.drop_length];rfl
theorem a0F(m:Nat)(s D2:J)(e:Nat)(h:oQ s D2 e)(hs:s.length<100000)(hm:s.length+20<m):
    Bs m s=some (worth s (dA s++D2) (3-D2.length+kz s e 1048576)):=by
  have oa:=TD h;have hle:=h.le;have FG:D2.length≤s.length:=by have hq:=oa;rw[bB]at hq;omega
  have h0:0<s.length:=by
    have:0<(dA s++D2).length:=List.length_pos_iff.2 h.nn;omega
  have A5:=a0A h;have hx:=TE s e 1048576;unfold Bs;rw[aL (by unfold ln;omega)];have htr:Lib.trimLeftS s [43,45]=s.drop (bK s 0):=by
    have h1:Lib.trimLeftS (s.drop 0) [43,45]=Lib.trimLeftS (s.drop (bK s 0)) [43,45]:=by
      unfold bK;cases ht:aD bp s 0 with
      |false=>rfl
      |true=>exact a0y ht
    rw[fG]at h1;rw[h1,TG (ae7 h)]
  have hyl:(s.drop (bK s 0)).length≤s.length:=by rw[List.length_drop];omega
  unfold M3 QY;rw[htr,aL ⟨by decide,by decide⟩];simp only[ai];rw[aL ⟨aea h,by decide,by omega,by decide⟩];simp only[ai];have yR:∀b∈jd s D2,([101,69]:List UInt8).contains b=false:=λb hb=>by rw[a0x];exact(a0B h b hb).2.1
  have Jv:=a0C [101,69] (jd s D2) (s.drop e) yR;rw[←TH h]at Jv;have iT:=TH h;obtain⟨bb,mT⟩:=ae8 h (by omega);have PZ:=λk hk=>ae9 m s (dA s) D2 k (3-(D2.length:Int)+kz s e 1048576) (by omega) (by omega) (Nw h) (by omega) hk (by omega) h0;generalize hY:s.drop (bK s 0)=y6 at*;generalize hI:Lib.indexAny y6 [101,69]=q at*;have ajX:y6.length=(jd s D2).length+(s.length-e):=by rw[iT,bB,List.length_drop]
  have e2:(Option.bind (cond (decide (0≤q)) (
      Option.bind (
      aB (0≤aa (q+1)∧aa (q+1)≤ln y6)<|
      Option.bind (aB (yW [43,45]=true∧([43,45]:J).length<4294967281) (some (Lib.trimLeftS (sub y6 (aa (q+1)) (ln y6)) [43,45]))) λeC=>
      Ec m eC m 0 0) λ(ir:Int)=>
      Option.bind (
      aB (0≤aa (q+1)∧aa (q+1)<ln y6)<|
      cond (aI y6 (aa (q+1))==45) (
      some (aa (0-ir))) (
      some ir)) λ(z43:Int)=>
      aB (0≤q∧q≤ln y6)<|
      some (sub y6 0 q,aa (3+z43))) (
      some (y6,3))) λz=>some z)=some (jd s D2,3+kz s e 1048576):=by
    rcases h.ex with⟨x1,x2,x3⟩|⟨x1,x2⟩
    · have hl:=iv x1;have hj:e+1<s.length:=by
        unfold jx at x3;cases hg:aD bp s (e+1)with
        |true=>exact iv hg
        |false=>rw[hg]at x3;exact x3
      have hB:Lib.indexAny (s.drop e) [101,69]=0:=by
        rw[oM hl,Lib.indexAny,a0x,←pN (p:=cc) hl,x1];rfl
      rw[hB,if_neg (by decide),Int.add_zero]at Jv;subst Jv;have hy1:y6.drop ((jd s D2).length+1)=s.drop (e+1):=by
        rw[iT,←List.drop_drop,List.drop_left,List.drop_drop]
      have nx:sub y6 (((jd s D2).length+1:Nat):Int) (ln y6)=s.drop (e+1):=by
        unfold sub ln;rw[Int.toNat_natCast,Int.toNat_natCast,hy1,List.take_of_length_le (by rw[List.length_drop];omega)]
      have aeb:Lib.trimLeftS (s.drop (e+1)) [43,45]=s.drop (jx s e):=by
        have CA:aD bp s (jx s e)=false:=by
          rw[pN x3];exact(u5 (x2 _ (by rw[oM x3];exact List.mem_cons_self))).1
        unfold jx at CA⊢;cases hg:aD bp s (e+1)with
        |false=>rw[hg]at CA;exact TG CA
        |true=>rw[hg]at CA;rw[a0y hg];exact TG CA
      have TA:aI y6 (((jd s D2).length+1:Nat):Int)=aI s ((e+1:Nat):Int):=by
        rw[wT y6 _ (by omega),wT s _ hj];have h1:y6[(jd s D2).length+1]?=s[e+1]?:=by
          have h2:=congrArg (·[0]?) hy1;simpa using h2
        rw[List.getElem?_eq_getElem (by omega),List.getElem?_eq_getElem hj]at h1;rw[Option.some.inj h1]
      rw[bC (show(0:Int)≤((jd s D2).length:Int)from by omega),br (by omega),nx,TA];simp only[af];rw[aL (by unfold ln;omega),aL ⟨by decide,by decide⟩,aeb];simp only[ai];have h3:=ae0 m (s.drop (jx s e)) x2 (by rw[List.length_drop];omega) m 0 0 (by rw[List.length_drop];omega) (by omega) (by omega);simp only[Int.natCast_zero,fG]at h3;rw[h3];simp only[ai];rw[aL (by unfold ln;omega),show(45:Int)=((45:Nat):Int)from rfl,Jt hj 45 (by omega)];have uo:=xP 1048576 (s.drop (jx s e)) 0 (by omega);have TK:sub y6 0 ((jd s D2).length:Int)=jd s D2:=by
        unfold sub;rw[Int.toNat_natCast];show(y6.drop 0).take ((jd s D2).length-0)=_;rw[fG,Nat.sub_zero,iT,List.take_left]
      unfold kz;rw[x1,TK];cases hq:aD (ag 45) s (e+1)
      · simp only[af,ae,ai];rw[aL (by unfold ln;omega),cT (by omega) (by omega)];rfl
      · simp only[af,ai];rw[aL (by unfold ln;omega),cT (x:=0-((jc 1048576 (s.drop (jx s e)) 0:Nat):Int)) (by omega) (by omega),cT (by omega) (by omega),Int.zero_sub];rfl
    · have hB:s.drop e=[]:=by rw[x2,List.drop_length]
      rw[hB]at Jv;have hq:q=-1:=Jv;subst hq;have hm6:y6=jd s D2:=by rw[iT,hB,List.append_nil]
      unfold kz;rw[x1,hm6];rfl
  simp only[Option.bind_fun_some]at e2;rw[e2];simp only[ai];rw[mT];simp only[ai];exact PZ _ (by omega)
theorem aec{s D2:J}{e:Nat}(h:oQ s D2 e)(hs:s.length≤4000):worth s (dA s++D2) (3-D2.length+kz s e 1048576)=worth s (dA s++D2) (3-D2.length+kz s e 10000):=by
  have oa:=TD h;have hle:=h.le;have FG:D2.length≤s.length:=by have hq:=oa;rw[bB]at hq;omega
  have hc:=a0t 10000 1048576 (by decide) (s.drop (jx s e)) 0 0 rfl;have oe:=xP 1048576 (s.drop (jx s e)) 0 (by omega);unfold kz;cases aD cc s e
  · rfl
  · simp only[af];generalize jc 1048576 (s.drop (jx s e)) 0=E at hc oe;rw[hc];rcases Nat.lt_or_ge E 10001 with h1|h1
    · rw[Nat.min_eq_right (by omega:E≤10000)]
    · rw[Nat.min_eq_left (by omega:10000≤E)];cases aD (ag 45) s (e+1)
      · simp only[ae];unfold worth;rw[List.take_of_length_le (by omega),List.take_of_length_le (by omega)];have hv:=xP 1000000000000 (dA s++D2) 0 (by omega);rw[a0u _ _ hv (by omega),a0u _ _ hv (by omega)]
      · simp only[af];unfold worth;have z1:(((dA s++D2).length:Int)+(3-(D2.length:Int)+-(E:Int))).toNat=0:=by omega
        have z2:(((dA s++D2).length:Int)+(3-(D2.length:Int)+-((10000:Nat):Int))).toNat=0:=by omega
        rw[z1,z2,List.take_zero];have z3:∀c,jX c (jc 1000000000000 [] 0)=0:=λc=>by
          show jX c 0=0;unfold jX;rw[if_pos (Or.inr rfl)]
        rw[z3,z3]
theorem a0G(s:J):(iJ s).1≤s.length:=by
  have h1:=Tq s;unfold iJ mq;cases ht:aD cc s (jy s).1 with
  |false=>exact h1
  |true=>
    simp only[af];cases hd:aD aK s (cond (aD bp s ((jy s).1+1)) ((jy s).1+2) ((jy s).1+1))with
    |false=>exact h1
    |true=>exact tV s _ (Nat.le_of_lt (iv hd))
theorem aed(s:J)(hs:s.length<1000000)(a:Nat)(ha:a≤s.length):zm s (a:Int)=some (jw s a):=by
  unfold zm jw bK;have h0:=jW s a 0 (by omega);have h1:=jW s a 1 (by omega);have h2:=jW s a 2 (by omega);simp only[Nat.add_zero,Int.natCast_zero,Int.natCast_one,show((2:Nat):Int)=2 from rfl]at h0 h1 h2;rw[h0];simp only[ai];rw[tW s a (-1) (by omega)];cases aD bp s a
  · simp only[ae,ai];rw[h0];simp only[ai];rw[show(46:Int)=((46:Nat):Int)from rfl,iI _ _ _ _ (by omega)];cases aD (ag 46) s a
    · simp only[ae,ai];rw[h0];simp only[ai,oN]
    · simp only[af,ai,show aa ((0:Int)+1)=1 from by decide];rw[h1];simp only[ai,oN]
  · simp only[af,ai];rw[h1];simp only[ai];rw[show(46:Int)=((46:Nat):Int)from rfl,iI _ _ _ _ (by omega)];cases aD (ag 46) s (a+1)
    · simp only[ae,ai];rw[h1];simp only[ai,oN]
    · simp only[af,ai,show aa ((1:Int)+1)=2 from by decide];rw[h2];simp only[ai,oN]
theorem a0H(s:J)(hs:s.length<1000000)(a:Nat)(ha:a≤s.length):Jd s (a:Int)=some (jw s a):=by
  unfold Jd jw bK;rw[eE];simp only[ai];rw[tW s a 0 (by omega)];cases aD bp s a
  · simp only[ae,ai];rw[eE];simp only[ai];rw[show(46:Int)=((46:Nat):Int)from rfl,iI _ _ _ _ (by omega)];cases aD (ag 46) s a
    · simp only[ae,ai];rw[eE];simp only[ai,vM]
    · simp only[af,ai];rw[br (by omega),eE];simp only[ai,vM]
  · simp only[af,ai];rw[br (by omega),eE];simp only[ai];rw[show(46:Int)=((46:Nat):Int)from rfl,iI _ _ _ _ (by omega)];cases aD (ag 46) s (a+1)
    · simp only[ae,ai];rw[eE];simp only[ai,vM]
    · simp only[af,ai];rw[br (by omega),eE];simp only[ai,vM]
def sC(s:J)(a:Nat):Nat×Bool:=
  let y:=bK s a+(cv s (bK s a)).length
  cond (cond (aD (ag 46) s y) (aD aK s (y+1)) false) (y+1+(cv s (y+1)).length,false) (y,true)
theorem a0I(s:J)(a:Nat)(ha:a≤s.length):(sC s a).1≤s.length:=by
  unfold sC;have h1:=Ct s a ha;have h2:=tV s _ h1;dsimp only;cases ht:aD (ag 46) s (bK s a+(cv s (bK s a)).length)with
  |false=>exact h2
  |true=>
    cases ht2:aD aK s (bK s a+(cv s (bK s a)).length+1)with
    |false=>exact h2
    |true=>exact tV s _ (iv ht)
def pO(s:J)(a:Nat):Nat×Bool:=mq s (sC s a).1 (sC s a).2
theorem TL(s:J)(a y:Nat)(hy:y=bK s a+(cv s (bK s a)).length):sC s a=cond (cond (aD (ag 46) s y) (aD aK s (y+1)) false) (y+1+(cv s (y+1)).length,false) (y,true):=by rw[hy];rfl
theorem a0J(m:Nat)(s:J)(hs:s.length<1000000)(hm:s.length<m)(a:Nat)(ha:a≤s.length):Je m s (a:Int)=some (((pO s a).1:Int),(pO s a).2):=by
  unfold Je;have h0:=eE s a;rw[h0];simp only[ai];rw[tW s a 0 (by omega)];have e1:(cond (aD bp s a) (some (aa ((a:Int)+1))) (some (a:Int)):Option Int)=some ((bK s a:Nat):Int):=by
    unfold bK;cases aD bp s a
    · rfl
    · rw[br (by omega)];rfl
  rw[e1];simp only[ai];have h1:=Ct s a ha;have h2:=tV s _ h1;unfold Fl;rw[Ns m s hs m _ (by omega) h1];simp only[ai];unfold pO;obtain⟨y,hy⟩:∃y,y=bK s a+(cv s (bK s a)).length:=⟨_,rfl⟩;have eM:=TL s a y hy;rw[←hy]at h2⊢;have hM:(Option.bind (eP s (y:Int)) λml=>Option.bind (cond (ml==46) (eP s (aa ((y:Int)+1))) (some default)) λdT=>
      cond (cond (ml==46) (ju dT) false) (Option.bind (Option.bind (Fk m s m (aa ((y:Int)+1))) λz3=>some z3) λdY=>some (dY,false)) (some ((y:Int),true)))=some (((sC s a).1:Int),(sC s a).2):=by
    rw[eE,eM];simp only[ai];rw[show(46:Int)=((46:Nat):Int)from rfl,iI _ _ _ _ (by omega)];cases ht:aD (ag 46) s y with
    |false=>rfl
    |true=>
      have hl:=iv ht;simp only[af];rw[br (by omega),eE];simp only[ai];rw[vM,Ns m s hs m (y+1) (by omega) (by omega)];cases aD aK s (y+1)<;>rfl
  rw[hM];simp only[ai];have hle:=a0I s a ha;generalize sC s a=q at hle;obtain⟨e,wh⟩:=q;simp only at hle⊢;rw[eE];simp only[ai];rw[Tr s e 0 (by omega)];unfold mq;cases ht:aD cc s e with
  |false=>rfl
  |true=>
    have hl:=iv ht;simp only[af];rw[br (by omega),eE];simp only[ai];rw[tW s (e+1) 0 (by omega),br (by omega)];cases hg:aD bp s (e+1)with
    |false=>
      simp only[ae,ai];rw[eE,Ns m s hs m (e+1) (by omega) (by omega)];simp only[ai];rw[vM];cases aD aK s (e+1)<;>rfl
    |true=>
      have ma:=iv hg;simp only[af,ai];rw[eE,Ns m s hs m (e+1+1) (by omega) (by omega)];simp only[ai];rw[vM];cases aD aK s (e+1+1)<;>rfl

theorem aee(m:Nat)(s:J)(hs:s.length<1000000)(hm:s.length<m)(a:Nat)(ha:a≤s.length):zn m s (a:Int)=some ((pO s a).2,((pO s a).1:Int)):=by
  unfold zn;have lP:∀i:Nat,i<2000000→dG s (i:Int) 0=some (pk s i (-1)):=λi hi=>jW s i 0 (by omega);have vR:∀i:Nat,i<2000000→dG s (i:Int) 1=some (pk s (i+1) (-1)):=λi hi=>jW s i 1 (by omega);have Ts:∀i:Nat,i<2000000→dG s (i:Int) 2=some (pk s (i+2) (-1)):=λi hi=>jW s i 2 (by omega);have h0:dG s (a:Int) 0=some (pk s a (-1)):=lP a (by omega);rw[h0];simp only[ai];rw[tW s a (-1) (by omega)];have e1:(cond (aD bp s a) (some (aa ((a:Int)+1))) (some (a:Int)):Option Int)=some ((bK s a:Nat):Int):=by
    unfold bK;cases aD bp s a
    · rfl
    · rw[br (by omega)];rfl
  rw[e1];simp only[ai];have h1:=Ct s a ha;have h2:=tV s _ h1;unfold Bp;rw[A1 m s hs m _ (by omega) h1];simp only[ai];unfold pO;obtain⟨y,hy⟩:∃y,y=bK s a+(cv s (bK s a)).length:=⟨_,rfl⟩;have eM:=TL s a y hy;rw[←hy]at h2⊢;have hM:(Option.bind (dG s (y:Int) 0) λeC=>Option.bind (cond (eC==46) (dG s (y:Int) 1) (some default)) λnJ=>
      cond (cond (eC==46) (mG nJ) false) (Option.bind (Bo m s m (aa ((y:Int)+1))) λwX=>some (false,wX)) (some (true,(y:Int))))=some ((sC s a).2,((sC s a).1:Int)):=by
    rw[lP y (by omega),eM];simp only[ai];rw[show(46:Int)=((46:Nat):Int)from rfl,iI _ _ _ _ (by omega)];cases ht:aD (ag 46) s y with
    |false=>rfl
    |true=>
      have hl:=iv ht;simp only[af];rw[br (by omega),vR y (by omega)];simp only[ai];rw[oN,A1 m s hs m (y+1) (by omega) (by omega)];cases aD aK s (y+1)<;>rfl
  rw[hM];simp only[ai];have hle:=a0I s a ha;generalize sC s a=q at hle;obtain⟨e,wh⟩:=q;simp only at hle⊢;rw[lP e (by omega),vR e (by omega)];simp only[ai];have FA:=Tr s e (-1) (by omega);unfold mq;have r8:(cond (pk s e (-1)==101) (some default) (some (pk s e (-1))):Option Int)=some (cond (pk s e (-1)==101) default (pk s e (-1))):=by cases(pk s e (-1)==101)<;>rfl
  rw[r8];simp only[ai];have oe:cond (pk s e (-1)==101) true (cond (pk s e (-1)==101) default (pk s e (-1))==69)=aD cc s e:=by
    rw[←FA];cases(pk s e (-1)==101)<;>rfl
  rw[oe];cases ht:aD cc s e with
  |false=>rfl
  |true=>
    have hl:=iv ht;simp only[af];rw[tW s (e+1) (-1) (by omega)];cases hg:aD bp s (e+1)with
    |false=>
      simp only[ae,ai];rw[vR e (by omega),br (by omega),A1 m s hs m (e+1) (by omega) (by omega)];simp only[ai];rw[oN];cases aD aK s (e+1)<;>rfl
    |true=>
      have ma:=iv hg;simp only[af,ai];rw[Ts e (by omega),show aa ((e:Int)+2)=((e+2:Nat):Int)from r7 (n:=2) (by omega),A1 m s hs m (e+2) (by omega) (by omega)];simp only[ai];rw[oN];cases aD aK s (e+2)<;>rfl

theorem xR(p:UInt8→Bool)(s:J)(a k:Nat):aD p s (a+k)=aD p (s.drop a) k:=by
  unfold aD;rw[List.getElem?_drop]
theorem TM(s:J)(a k:Nat):cv s (a+k)=cv (s.drop a) k:=by
  unfold cv;rw[List.drop_drop]
theorem a0K(s:J)(a:Nat):bK s a=a+bK (s.drop a) 0:=by
  unfold bK;rw[show aD bp s a=aD bp (s.drop a) 0 from xR bp s a 0];cases aD bp (s.drop a) 0<;>rfl
theorem aef(s:J)(a:Nat):jw s a=jw (s.drop a) 0:=by
  unfold jw;dsimp only;rw[a0K,xR];cases aD (ag 46) (s.drop a) (bK (s.drop a) 0)with
  |false=>exact xR _ _ _ _
  |true=>exact xR aK s a (bK (s.drop a) 0+1)
theorem aeg(s:J)(a:Nat):sC s a=(a+(jy (s.drop a)).1,(jy (s.drop a)).2):=by
  obtain⟨y,hy⟩:∃y,y=bK (s.drop a) 0+(cv (s.drop a) (bK (s.drop a) 0)).length:=⟨_,rfl⟩;have gm:a+y=bK s a+(cv s (bK s a)).length:=by rw[a0K,TM,hy];omega
  rw[TL s a (a+y) gm,Cv _ y hy,xR,show a+y+1=a+(y+1)from rfl,xR,TM];cases cond (aD (ag 46) (s.drop a) y) (aD aK (s.drop a) (y+1)) false
  · rfl
  · simp only[af];rw[show a+(y+1)+(cv (s.drop a) (y+1)).length=a+(y+1+(cv (s.drop a) (y+1)).length)from by omega]
theorem aeh(s:J)(a e:Nat)(wh:Bool):mq s (a+e) wh=(a+(mq (s.drop a) e wh).1,(mq (s.drop a) e wh).2):=by
  unfold mq;dsimp only;rw[xR,show a+e+1=a+(e+1)from rfl,xR,show a+e+2=a+(e+2)from rfl];have hj:cond (aD bp (s.drop a) (e+1)) (a+(e+2)) (a+(e+1))=a+cond (aD bp (s.drop a) (e+1)) (e+2) (e+1):=by cases aD bp (s.drop a) (e+1)<;>rfl
  rw[hj];generalize cond (aD bp (s.drop a) (e+1)) (e+2) (e+1)=j;rw[xR,TM];cases aD cc (s.drop a) e
  · rfl
  · cases aD aK (s.drop a) j
    · rfl
    · simp only[af];rw[show a+j+(cv (s.drop a) j).length=a+(j+(cv (s.drop a) j).length)from by omega]
theorem a0L(s:J)(a:Nat):pO s a=(a+(iJ (s.drop a)).1,(iJ (s.drop a)).2):=by
  unfold pO iJ;rw[aeg,aeh]
structure FH(u t:J):Prop where
  at_:∀k,k<u.length→u[k]?=t[k]?
theorem FH.lo{u t:J}(h:FH u t)(p:UInt8→Bool){k:Nat}(hk:k<u.length):aD p u k=aD p t k:=by
  unfold aD;rw[h.at_ k hk]
theorem Nz(p:UInt8→Bool){u:J}{k:Nat}(hk:u.length≤k):aD p u k=false:=by
  unfold aD;rw[List.getElem?_eq_none hk]
theorem FH.CB{u t:J}(h:FH u t):∀(n k:Nat),(cv t k).length=n→k+n≤u.length→cv u k=cv t k:=by
  intro n
  induction n with
  |zero=>
    intro k hn hk;have h0:cv t k=[]:=a7P hn;rw[h0];apply vH;rcases Nat.lt_or_ge k u.length with hl|hl
    · rw[h.lo aK hl];cases ht:aD aK t k with
      |false=>rfl
      |true=>exact absurd h0 (Cy ht)
    · exact Nz aK hl
  |succ n ih=>
    intro k hn hk;have ht:aD aK t k=true:=by
      cases ht:aD aK t k with
      |true=>rfl
      |false=>rw[vH ht]at hn;simp at hn
    have hu:aD aK u k=true:=by rw[h.lo aK (by omega)];exact ht
    obtain⟨hi,h1⟩:=Cr ht;obtain⟨hj,h2⟩:=Cr hu;rw[h1]at hn;have jD:(cv t (k+1)).length=n:=by simpa using hn
    rw[h1,h2,ih (k+1) jD (by omega)];congr 1;have:=h.at_ k hj;rw[List.getElem?_eq_getElem hj,List.getElem?_eq_getElem hi]at this;exact Option.some.inj this
theorem a0M{t:J}(hn:jw t 0=true):bK t 0<(jy t).1∧bK t 0+(cv t (bK t 0)).length≤(jy t).1:=by
  obtain⟨y,hy⟩:∃y,y=bK t 0+(cv t (bK t 0)).length:=⟨_,rfl⟩;rw[Cv t y hy,←hy];cases hc:cond (aD (ag 46) t y) (aD aK t (y+1)) false with
  |true=>exact⟨by simp only[af];omega,by simp only[af];omega⟩
  |false=>
    refine⟨?_,cF _⟩;simp only[ae];cases hd:aD aK t (bK t 0)with
    |true=>
      have h1:=Cy hd;have h2:0<(cv t (bK t 0)).length:=List.length_pos_iff.2 h1;omega
    |false=>
      rw[vH hd]at hy;have TN:y=bK t 0:=hy;unfold jw at hn;dsimp only at hn;rw[TN]at hc;cases fL:aD (ag 46) t (bK t 0)with
      |true=>rw[fL]at hc hn;simp only[af]at hc hn;rw[hn]at hc;cases hc
      |false=>rw[fL]at hn;simp only[ae]at hn;rw[hn]at hd;cases hd
theorem a0N(t:J)(e:Nat)(wh:Bool):e≤(mq t e wh).1:=by
  unfold mq;dsimp only;cases aD cc t e
  · exact cF _
  · simp only[af];cases aD bp t (e+1)<;>simp only[af,ae]
    · cases aD aK t (e+1)<;>simp only[af,ae]<;>omega
    · cases aD aK t (e+2)<;>simp only[af,ae]<;>omega
theorem aei{u t:J}(h:FH u t)(hn:jw t 0=true)(hl:u.length=(iJ t).1):jw u 0=true∧(iJ u).1=u.length:=by
  obtain⟨rm,o6⟩:=a0M hn;have nW:(jy t).1≤u.length:=by rw[hl];exact a0N _ _ _
  have u6:bK u 0=bK t 0:=by unfold bK;rw[h.lo bp (by omega)]
  have vX:cv u (bK t 0)=cv t (bK t 0):=h.CB _ _ rfl (by omega);obtain⟨y,hy⟩:∃y,y=bK t 0+(cv t (bK t 0)).length:=⟨_,rfl⟩;have gm:y=bK u 0+(cv u (bK u 0)).length:=by rw[u6,vX,hy]
  rw[←hy]at o6;have xS:=Cv t y hy;have hMu:=Cv u y gm;have hM:jy u=jy t:=by
    rw[hMu,xS];cases hc:cond (aD (ag 46) t y) (aD aK t (y+1)) false with
    |true=>
      rw[hc]at xS;simp only[af]at xS;have hq:y+1+(cv t (y+1)).length≤u.length:=by rw[xS]at nW;exact nW
      have fL:aD (ag 46) t y=true:=by cases fL:aD (ag 46) t y with
        |true=>rfl
        |false=>rw[fL]at hc;cases hc
      have hd:aD aK t (y+1)=true:=by rw[fL]at hc;exact hc
      have hp:0<(cv t (y+1)).length:=List.length_pos_iff.2 (Cy hd);rw[h.lo _ (by omega),h.lo _ (by omega),fL,hd,h.CB _ (y+1) rfl hq];rfl
    |false=>
      rw[hc]at xS;simp only[ae]at xS;have hf:cond (aD (ag 46) u y) (aD aK u (y+1)) false=false:=by
        cases fL:aD (ag 46) u y with
        |false=>rfl
        |true=>
          have aM:=iv fL;rw[h.lo _ aM]at fL;rw[fL]at hc;simp only[af]at hc⊢;rcases Nat.lt_or_ge (y+1) u.length with h1|h1
          · rw[h.lo _ h1];exact hc
          · exact Nz _ h1
      rw[hf];rfl
  refine⟨?_,?_⟩
  · unfold jw at hn⊢;dsimp only at hn⊢;rw[u6,h.lo (ag 46) (k:=bK t 0) (by omega)];cases fL:aD (ag 46) t (bK t 0)with
    |false=>rw[fL]at hn;simp only[ae]at hn⊢;rw[h.lo _ (by omega)];exact hn
    |true=>
      rw[fL]at hn;simp only[af]at hn⊢;have Jw:aD aK t (bK t 0)=false:=by
        cases hq:aD aK t (bK t 0)with
        |false=>rfl
        |true=>
          obtain⟨hi,h1⟩:=sB fL;obtain⟨_,h2⟩:=sB hq;have:t[bK t 0].toNat=46:=by simpa[ag]using h1
          unfold aK at h2;rw[this]at h2;cases h2
      rw[vH Jw]at hy;have TN:y=bK t 0:=hy;rw[←TN]at fL hn⊢;rw[fL,hn]at xS;simp only[af]at xS;rw[xS]at nW;have hp:0<(cv t (y+1)).length:=List.length_pos_iff.2 (Cy hn);simp only at nW;rw[h.lo _ (by omega)];exact hn
  · unfold iJ at hl⊢;rw[hM];generalize jy t=q at hl nW;obtain⟨e,wh⟩:=q;simp only at hl nW⊢;unfold mq at hl⊢;dsimp only at hl⊢;cases he:aD cc t e with
    |false=>
      rw[he]at hl;simp only[ae]at hl;rw[Nz cc (by omega)];exact hl.symm
    |true=>
      rw[he]at hl;simp only[af]at hl;generalize hj:cond (aD bp t (e+1)) (e+2) (e+1)=j at hl;have hj1:e+1≤j:=by rw[←hj];cases aD bp t (e+1)<;>simp
      cases hd:aD aK t j with
      |false=>
        rw[hd]at hl;simp only[ae]at hl;rw[Nz cc (by omega)];exact hl.symm
      |true=>
        rw[hd]at hl;simp only[af]at hl;have hp:0<(cv t j).length:=List.length_pos_iff.2 (Cy hd);have lB:cond (aD bp u (e+1)) (e+2) (e+1)=j:=by rw[h.lo bp (by omega)];exact hj
        rw[h.lo cc (by omega),he,lB,h.lo aK (by omega),hd,h.CB _ j rfl (by omega)];exact hl.symm
theorem aej(s:J)(a:Nat)(ha:a≤s.length)(hn:jw s a=true):
    a<(pO s a).1∧(pO s a).1≤s.length∧∃D2 e,oQ (sub s (a:Int) ((pO s a).1:Int)) D2 e:=by
  rw[aef]at hn;have hle:=a0G (s.drop a);rw[List.length_drop]at hle;obtain⟨h1,h2⟩:=a0M hn;have h3:(jy (s.drop a)).1≤(iJ (s.drop a)).1:=a0N _ _ _;rw[a0L];refine⟨by show a<a+_;omega,by show a+_≤_;omega,?_⟩;have hu:sub s (a:Int) ((a+(iJ (s.drop a)).1:Nat):Int)=(s.drop a).take (iJ (s.drop a)).1:=by
    unfold sub;rw[Int.toNat_natCast,Int.toNat_natCast,Nat.add_sub_cancel_left]
  show∃D2 e,oQ (sub s (a:Int) ((a+(iJ (s.drop a)).1:Nat):Int)) D2 e;rw[hu];have hlen:((s.drop a).take (iJ (s.drop a)).1).length=(iJ (s.drop a)).1:=by
    rw[List.length_take,List.length_drop];omega
  have hp:FH ((s.drop a).take (iJ (s.drop a)).1) (s.drop a):=⟨λk hk=>by
    rw[hlen]at hk;rw[List.getElem?_take,if_pos hk]⟩
  obtain⟨q1,q2⟩:=aei hp hn hlen;exact dec _ q1 q2
theorem lP(s:J)(i:Nat)(h:i<1000000):dG s (i:Int) 0=some (pk s i (-1)):=jW s i 0 (by omega)
theorem vR(s:J)(i:Nat)(h:i<1000000):dG s (i:Int) 1=some (pk s (i+1) (-1)):=jW s i 1 (by omega)
theorem Jx{s:J}{i:Nat}(h:s.length≤i)(d:Int):pk s i d=d:=by unfold pk;rw[List.getElem?_eq_none h]
theorem Jy(p:UInt8→Bool){s:J}{i:Nat}(h:s.length≤i):aD p s i=false:=by unfold aD;rw[List.getElem?_eq_none h]
theorem TO{s:J}{i:Nat}(h:i<s.length):(pk s i (-1)==-1)=false:=by
  rw[A4 h];exact bE.2 (by omega)
theorem aek{s:J}{i:Nat}(h:mr s i=true):∃hi:i<s.length,s[i].toNat=92:=by
  unfold mr at h;cases h2:aD (ag 92) s i with
  |false=>rw[h2]at h;cases h
  |true=>obtain⟨hi,h3⟩:=sB h2;exact⟨hi,by simpa[ag]using h3⟩
theorem Jz{s:J}{i:Nat}(h:i<s.length):aI s (i:Int)=((s[i].toNat:Nat):Int):=wT s i h
theorem ael(m:Nat)(s:J)(hs:s.length<100000):∀(kk i:Nat),s.length-i<kk→i≤s.length→
    ∃j:Nat,Hk m s kk (i:Int)=some (j:Int)∧Jb m s kk (i:Int)=some (j:Int)∧i≤j∧j≤s.length∧aD bw s j=false∧(aD bw s i=true→i<j):=by
  intro kk
  induction kk with
  |zero=>intro i h;omega
  |succ kk ih=>
    intro i hk hi;rw[Hk,Jb,lP s i (by omega),eE,ai,ai,Jq,nV];cases ht:aD bw s i with
    |false=>exact⟨i,rfl,rfl,cF _,hi,ht,λh=>by cases h⟩
    |true=>
      have hl:=iv ht;rw[af,af,br (by omega)];obtain⟨j,h1,h2,h3,h4,h5,h6⟩:=ih (i+1) (by omega) hl;exact⟨j,h1,h2,by omega,h4,h5,λ_=>by omega⟩
theorem NA(m:Nat)(s:J)(hs:s.length<100000)(hm:s.length<m)(i:Nat)(hi:i≤s.length):
    ∃j:Nat,Bb m s (i:Int)=some (j:Int)∧jT m s (i:Int)=some (j:Int)∧i≤j∧j≤s.length∧aD bw s j=false∧(aD bw s i=true→i<j):=by
  obtain⟨j,h1,h2,h3⟩:=ael m s hs m i (by omega) hi;refine⟨j,h1,?_,h3⟩;unfold jT;rw[h2];rfl
def FI:aq:=aq.mk 8 [] 0 [] false
def Sm(e:Nat)(t:aq):Prop:=t.az.length+t.Unit.length≤4*e∧-1000000000000≤t.bu∧t.bu≤1000000000000
theorem lm{k:Int}{w:J}{e:Nat}{b:Bool}(h:w.length≤4*e):Sm e (aq.mk k w 0 [] b):=⟨by show w.length+0≤_;omega,(by decide:(-1000000000000:Int)≤0),(by decide:(0:Int)≤1000000000000)⟩
theorem aem(m:Nat)(s:J)(hs:s.length<100000)(hm:10<m):∀(kk i:Nat),s.length-i<kk→i≤s.length→
    ∃e z:Nat,Eh m s kk (i:Int)=some (FI,(e:Int))∧Fv m s kk (i:Int)=some (z:Int)∧z≤s.length∧e=min (z+1) s.length∧i≤z:=by
  intro kk
  induction kk with
  |zero=>intro i h;omega
  |succ kk ih=>
    intro i hk hi;have tZ:=Cw s i 0 (by omega);rw[show((0:Nat):Int)=0 from rfl,Nat.add_zero]at tZ;rw[Eh,Fv,lP s i (by omega),ai,tZ,tX s i (by omega),ai];by_cases aM:i<s.length
    · rw[TO aM,ae,dM aM,aL (λ_=>⟨by omega,by unfold ln;omega⟩),lt_eq,af];rw[show(aI s (i:Int) !=41)=!(aD (ag 41) s i)from by rw[jV s i 0 aM];exact lQ s i 0 41 (by omega)];cases he:mr s i with
      |true=>
        obtain⟨_,xT⟩:=aek he;have u7:aD (ag 41) s i=false:=by rw[pN aM];unfold ag;rw[xT];rfl
        obtain⟨E,j,e1,e2,e3,e4,e5,e6⟩:=FE m s i [] hs hm aM (by simp);rw[u7,af,show uG m s (i:Int) []=_ from e1,ai,j8,lt_eq,af,ai,af,e2,ai];obtain⟨e,z,f1,f2,f3,f4,f5⟩:=ih j (by omega) e4;exact⟨e,z,f1,f2,f3,f4,by omega⟩
      |false=>
        have hw:aa (aa ((i:Int)+1)-1)=(i:Int):=by rw[br (by omega),cT (by omega) (by omega)];omega
        rw[ae,hw,dN aM,lt_eq,br (by omega),show(aI s (i:Int)==41)=aD (ag 41) s i from by rw[jV s i 0 aM];exact iI s i 0 41 (by omega)];cases u7:aD (ag 41) s i with
        |true=>exact⟨i+1,i,rfl,rfl,hi,by omega,cF _⟩
        |false=>
          rw[ae,j8,af,ai,ae];obtain⟨e,z,f1,f2,f3,f4,f5⟩:=ih (i+1) (by omega) aM;exact⟨e,z,f1,f2,f3,f4,by omega⟩
    · have kQ:i=s.length:=by omega
      rw[Jx (by omega),show((-1:Int)==-1)=true from rfl,af,eS (by omega),aL (λh=>by cases h),lt_eq,ae,ae];exact⟨i,i,rfl,rfl,hi,by omega,cF _⟩
theorem TP{z:Nat}{s:J}(hz:z<1000000)(hs:s.length<1000000):(if aa ((z:Int)+1)<ln s then aa ((z:Int)+1)else ln s)=((min (z+1) s.length:Nat):Int):=by
  rw[br (by omega)];unfold ln;by_cases h:((z+1:Nat):Int)<(s.length:Int)
  · rw[if_pos h];omega
  · rw[if_neg h];omega
theorem bad_eq(m:Nat)(s:J)(hs:s.length<100000)(hm:10<m)(ny:s.length<m)(i:Nat)(hi:i≤s.length):
    ∃e:Nat,Ei m s (i:Int)=some (FI,(e:Int))∧zX m s (i:Int)=some (FI,(e:Int))∧i≤e∧e≤s.length:=by
  obtain⟨e,z,f1,f2,f3,f4,f5⟩:=aem m s hs hm m i (by omega) hi;refine⟨e,f1,?_,by omega,by omega⟩;unfold zX;rw[f2,ai,lt_eq,TP (by omega) (by omega),←f4];rfl
theorem JA{s:J}{i:Nat}(h:i<s.length)(c:Nat):(aI s (i:Int)==(c:Int))=ag c s[i]:=by
  rw[Jz h];unfold ag;by_cases hc:s[i].toNat=c
  · rw[hc];simp
  · rw[bE.2 hc];exact bE.2 (by omega)
theorem aen(m:Nat)(s:J)(hs:s.length<100000)(hm:10<m)(q:Nat)(hq:q<s.length):∀(kk i:Nat)(v:J),s.length-i<kk→i≤s.length→v.length≤4*i→
    ∃(t:aq)(e:Nat)(z:Sum (aq×Int) ((List Int)×Int))(z':Sum (aq×Int) (Int×J)),zj m s (pk s q (-1)) kk (ax v) (i:Int)=some z∧qV m s (q:Int) kk (i:Int) v=some z'∧
      eY z (λJB=>some (aq.mk 5 (bD JB.1) 0 [] false,JB.2))=some (t,(e:Int))∧eY z' (λJB=>some (aq.mk 5 JB.2 0 [] false,JB.1))=some (t,(e:Int))∧i≤e∧e≤s.length∧Sm e t:=by
  rw[←jV s q (-1) hq];intro kk
  induction kk with
  |zero=>intro i v h;omega
  |succ kk ih=>
    intro i v hk hi hv;rw[zj,qV,lP s i (by omega),ai];by_cases aM:i<s.length
    · have iN:=(s[i]).toNat_lt;rw[TO aM,ae,dM aM,af,dN aM,←jV s i (-1) aM];cases hqq:(aI s (i:Int)==aI s (q:Int))with
      |true=>
        rw[af,af,br (by omega)];exact⟨_,i+1,_,_,rfl,rfl,rfl,by rw[ll];rfl,by omega,aM,lm (by rw[ll];omega)⟩
      |false=>
        rw[ae,ae];have NB:=JA aM 10;have xT:=JA aM 92;rw[show((10:Nat):Int)=10 from rfl]at NB;rw[show((92:Nat):Int)=92 from rfl]at xT;rw[NB,xT];cases ag 10 s[i]with
        |true=>exact⟨_,i,_,_,rfl,rfl,rfl,rfl,cF _,hi,lm (dE _)⟩
        |false=>
          rw[ae,ae];cases h9:ag 92 s[i]with
          |true=>
            rw[af,vR s i (by omega),ai,af];by_cases h2:i+1<s.length
            · rw[TO h2];simp only[ae,af,ai];rw[br (by omega),show(((i+1:Nat):Int)==ln s)=false from bE.2 (by unfold ln;omega),lt_eq,lt_eq,lt_eq,ae,aL (λ_=>⟨by omega,by unfold ln;omega⟩),lt_eq];have g10:=JA h2 10;rw[show((10:Nat):Int)=10 from rfl]at g10;rw[←jV s (i+1) (-1) h2,g10];cases ag 10 s[i+1]with
              |true=>
                rw[af,af,show aa ((i:Int)+2)=((i+2:Nat):Int)from r7 (n:=2) (by omega)];have CC:(if ln s<((i+2:Nat):Int)then ln s else((i+2:Nat):Int))=((i+2:Nat):Int):=by rw[if_neg (by unfold ln;omega)]
                rw[CC];obtain⟨t,e,z,z',f1,f2,f3,f4,f5,f6⟩:=ih (i+2) v (by omega) (by omega) (by omega);exact⟨t,e,z,z',f1,f2,f3,f4,by omega,f6⟩
              |false=>
                obtain⟨E,j,e1,e2,e3,e4,e5,e6⟩:=FE m s i v hs hm aM (by omega);rw[ae,ae,e1,e2,ai,ai];dsimp only;rw[aL (by unfold ln;omega)];obtain⟨t,e,z,z',f1,f2,f3,f4,f5,f6⟩:=ih j (v++E) (by omega) e4 (by rw[bB];omega);exact⟨t,e,z,z',f1,f2,f3,f4,by omega,f6⟩
            · rw[Jx (by omega)];simp only[show((-1:Int)==-1)=true from rfl,af,ai];rw[br (by omega),show(((i+1:Nat):Int)==ln s)=true from beq_iff_eq.2 (by unfold ln;omega),lt_eq,lt_eq,lt_eq,af,show aa ((i:Int)+2)=((i+2:Nat):Int)from r7 (n:=2) (by omega)];have CC:(if ln s<((i+2:Nat):Int)then ln s else((i+2:Nat):Int))=((i+1:Nat):Int):=by rw[if_pos (by unfold ln;omega)];unfold ln;omega
              rw[CC];obtain⟨t,e,z,z',f1,f2,f3,f4,f5,f6⟩:=ih (i+1) v (by omega) (by omega) (by omega);exact⟨t,e,z,z',f1,f2,f3,f4,by omega,f6⟩
          |false=>
            rw[ae,ai,ae,ai,ae,lt_eq,ae,ae,lt_eq,lt_eq,ae];rw[Jz aM,rH (by omega) (by omega),br (by omega),aL (by unfold ln;rw[mS];simp only[aZ,bW];omega),aL (λh=>by cases h),
              aL (by unfold ln;omega),tY aM,aL (by unfold ln;simp only[aZ,bW];omega)]
            obtain⟨t,e,z,z',f1,f2,f3,f4,f5,f6⟩:=ih (i+1) (v++[s[i]]) (by omega) aM (by rw[bB,aZ,bW];omega);have e1:ax [s[i]]=[((s[i].toNat:Nat):Int)]:=rfl;rw[jn,e1]at f1;exact⟨t,e,z,z',f1,f2,f3,f4,by omega,f6⟩
    · rw[Jx (by omega),show((-1:Int)==-1)=true from rfl,af,eS (by omega),ae];exact⟨_,i,_,_,rfl,rfl,rfl,by rw[ll];rfl,cF _,hi,lm (by rw[ll];omega)⟩
theorem aeo(m:Nat)(s:J)(hs:s.length<100000)(hm:10<m)(ny:s.length<m)(i:Nat)(hi:i<s.length):
    ∃(t:aq)(e:Nat),Hu m s (i:Int)=some (t,(e:Int))∧zO m s (i:Int)=some (t,(e:Int))∧i<e∧e≤s.length∧Sm e t:=by
  obtain⟨t,e,z,z',f1,f2,f3,f4,f5,f6⟩:=aen m s hs hm i hi m (i+1) [] (by omega) hi (by simp);refine⟨t,e,?_,?_,by omega,f6⟩
  · unfold Hu;rw[lP s i (by omega),ai,br (by omega),show zj m s (pk s i (-1)) m [] ((i+1:Nat):Int)=_ from f1,ai];exact f3
  · unfold zO;rw[dN hi,br (by omega),f2,ai];exact f4
theorem NC(m:Nat)(s:J)(hs:s.length<100000)(hm:10<m)(ny:s.length<m)(i:Nat)(hi:i≤s.length):
    ∃(w:J)(j:Nat),wY m s (i:Int)=some (w,(j:Int))∧jU m s (i:Int)=some (w,(j:Int))∧i≤j∧j≤s.length∧w.length≤4*j:=
  Tz m s hs hm m i [] (by omega) hi (by simp)
theorem aep(m:Nat)(s:J)(hs:s.length<100000)(hm:10<m)(ny:s.length<m)(i:Nat)(hi:i<s.length)(h:aD dc s i=true∨mr s i=true){w:J}{j:Int}(hj:wY m s (i:Int)=some (w,j)):(i:Int)<j:=by
  obtain⟨k,rfl⟩:∃k,m=k+1:=⟨m-1,by omega⟩;have vV:=lP s i (by omega);have tZ:=Cw s i 0 (by omega);rw[show((0:Nat):Int)=0 from rfl,Nat.add_zero]at tZ;unfold wY at hj;rw[zk,vV,ai,Tt]at hj;have sA:=A4 hi (-1);have iN:=(s[i]).toNat_lt;cases hl:aD dc s i with
  |true=>
    rw[hl,af,sA,rH (by omega) (by omega),br (by omega)]at hj;obtain⟨hp,hj⟩:=bM hj;rw[lt_eq]at hj;obtain⟨w',j',f1,f2,f3,f4⟩:=Tz (k+1) s hs hm k (i+1) [s[i]] (by omega) hi (by simp;omega);have e:([]++[((s[i].toNat:Nat):Int)]:List Int)=ax [s[i]]:=rfl;rw[e,f1]at hj;injection hj with h1;injection h1 with h2 h3;omega
  |false=>
    rw[hl]at h hj;have he:mr s i=true:=by rcases h with h|h;cases h;exact h
    rw[ae,tZ,he,show(pk s i (-1) !=(-1))=true from by rw[sA];exact bne_iff_ne.2 (by omega),af,ai,af,af]at hj;obtain⟨E,j',e1,e2,e3,e4,e5,e6⟩:=FE (k+1) s i [] hs hm hi (by simp);rw[show uG (k+1) s (i:Int) []=_ from e1,ai]at hj;obtain⟨w',j2,f1,f2,f3,f4⟩:=Tz (k+1) s hs hm k j' ([]++E) (by omega) e4 (by simp;omega);rw[show zk (k+1) s k (ax ([]++E),(j':Int)).1 (ax ([]++E),(j':Int)).2=_ from f1]at hj;injection hj with h1;injection h1 with h2 h3;omega
theorem aeq:lH ((45:Nat):Int)=true:=by kernel_rfl
theorem aer{s:J}{i:Nat}(h:pL s i=true):aD dc s i=true∨mr s i=true:=by
  unfold pL at h;cases u9:aD (ag 45) s i with
  |true=>
    left;obtain⟨hi,h1⟩:=sB u9;rw[pN hi];have:s[i].toNat=45:=by simpa[ag]using h1
    unfold dc;rw[this];exact aeq
  |false=>
    rw[u9,ae]at h;cases hf:aD cB s i with
    |true=>
      left;obtain⟨hi,h1⟩:=sB hf;rw[pN hi];unfold cB at h1;unfold dc lH;rw[h1];rfl
    |false=>rw[hf,ae]at h;exact Or.inr h
theorem a0O(s:J)(i:Nat)(h:i<900000):uX s (i:Int) 0=some (pL s i):=by
  have:=a0m s i 0 (by omega);rw[Nat.add_zero]at this;exact this
theorem aes(s D:J)(c:Int):-1000000000000≤worth s D c∧worth s D c≤1000000000000:=by
  have h1:=xP 1000000000000 (D.take ((D.length:Int)+c).toNat) 0 (by omega);have h2:=TC c _ h1;unfold worth;cases aD (ag 45) s 0
  · rw[ae];omega
  · rw[af];omega
theorem TQ{k W:Int}{u:J}{e:Nat}{b:Bool}(h:u.length≤4*e)(hb:-1000000000000≤W∧W≤1000000000000):Sm e (aq.mk k [] W u b):=⟨by show 0+u.length≤_;omega,hb.1,hb.2⟩
theorem aet(m:Nat)(s:J)(hs:s.length≤4000)(hm:4020<m)(a:Nat)(ha:a≤s.length)(hn:jw s a=true):
    ∃(t:aq)(e:Nat),HL m s (a:Int)=some (t,(e:Int))∧mo m s (a:Int)=some (t,(e:Int))∧a<e∧e≤s.length∧Sm e t:=by
  obtain⟨h1,h2,D2,x,hN⟩:=aej s a ha hn;unfold HL mo;rw[aee m s (by omega) (by omega) a ha,a0J m s (by omega) (by omega) a ha,ai,ai];generalize hE:(pO s a).1=E at h1 h2 hN;generalize(pO s a).2=wh;have hls:(sub s (a:Int) (E:Int)).length≤4000:=by
    unfold sub;rw[List.length_take,List.length_drop];omega
  dsimp only;rw[aL ⟨by omega,by omega,by unfold ln;omega⟩,aL ⟨by omega,by omega,by unfold ln;omega⟩,a0F m _ D2 x hN (by omega) (by omega),TF m _ D2 x hN (by omega) (by omega),aec hN hls,ai,ai];have NE:=aes (sub s (a:Int) (E:Int)) (dA (sub s (a:Int) (E:Int))++D2) (3-D2.length+kz (sub s (a:Int) (E:Int)) x 10000);generalize worth (sub s (a:Int) (E:Int)) _ _=W at NE⊢;rw[a0O s E (by omega),A2 s E (by omega),ai,ai];cases pL s E with
  |true=>
    obtain⟨w,j,f1,f2,f3,f4,f5⟩:=NC m s (by omega) (by omega) (by omega) E h2;rw[af,af,f1,f2];exact⟨_,j,rfl,rfl,by omega,f4,TQ f5 NE⟩
  |false=>
    rw[ae,ae,lP s E (by omega),eE,ai,ai,show(37:Int)=((37:Nat):Int)from rfl,iI s E (-1) 37 (by omega),iI s E 0 37 (by omega)];cases h37:aD (ag 37) s E with
    |true=>
      rw[af,af,br (by omega)];exact⟨_,E+1,rfl,rfl,by omega,iv h37,TQ (dE _) NE⟩
    |false=>exact⟨_,E,rfl,rfl,h1,h2,TQ (dE _) NE⟩
theorem aeu:((List.range 256).all λn=>lN (n:Int)==cond (cond (decide (65≤(n:Int))) (decide ((n:Int)≤90)) false) (cD .or .u8 (n:Int) 32) (n:Int)&&(decide (0≤lN (n:Int))&&decide (lN (n:Int)<256)))=true:=by kernel_rfl
theorem aev{x:Int}(h:0≤x∧x<256):lN x=cond (cond (decide (65≤x)) (decide (x≤90)) false) (cD .or .u8 x 32) x∧0≤lN x∧lN x<256:=by
  obtain⟨n,rfl⟩:∃n:Nat,x=(n:Int):=⟨x.toNat,by omega⟩;have h1:=lj aeu (n:=n) (by omega);rw[Bool.and_eq_true,Bool.and_eq_true]at h1;exact⟨eq_of_beq h1.1,gS h1.2.1,gS h1.2.2⟩
theorem aew(l:List Int)(i:Nat)(h:i<l.length):aW l (i:Int) (gi l (i:Int))=l:=by
  rw[LK,iq l i h,List.set_getElem_self]
theorem a0P(m:Nat)(s:J)(hs:s.length<100000):∀(kk i:Nat)(l:List Int),s.length-i<kk→i≤s.length→l.length=s.length→(∀x∈l,0≤x∧x<256)→
    ∃l',xd m s kk (i:Int) l=some l'∧Ck m s kk (i:Int) l=some l':=by
  intro kk
  induction kk with
  |zero=>intro i l h;omega
  |succ kk ih=>
    intro i l hk hi hl hb;rw[xd,Ck];by_cases aM:i<s.length
    · have hd:decide ((i:Int)<ln (ax s))=true:=bC (by unfold ln;rw[mS];omega);have hc:0≤(i:Int)∧(i:Int)<ln (ax s):=⟨by omega,gS hd⟩;have hx:0≤gi l (i:Int)∧gi l (i:Int)<256:=by rw[iq l i (by omega)];exact hb _ (List.getElem_mem _)
      obtain⟨h1,h2⟩:=aev hx;rw[hd,af,af,aL hc,aL hc,lt_eq,lt_eq,br (by omega)];have NF:(cond (cond (decide (65≤gi l (i:Int))) (decide (gi l (i:Int)≤90)) false) (some (aW l (i:Int) (cD .or .u8 (gi l (i:Int)) 32))) (some l):Option (List Int))=some (aW l (i:Int) (lN (gi l (i:Int)))):=by
        rw[h1];cases cond (decide (65≤gi l (i:Int))) (decide (gi l (i:Int)≤90)) false
        · rw[ae,ae,aew l i (by omega)]
        · rfl
      rw[NF,ai,lt_eq];apply ih (i+1) _ (by omega) aM
      · rw[LK,List.length_set];exact hl
      · intro x ol;rw[LK]at ol;rcases List.mem_or_eq_of_mem_set ol with h|h
        · exact hb x h
        · rw[h];exact h2
    · have hd:decide ((i:Int)<ln (ax s))=false:=bV (by unfold ln;rw[mS];omega);rw[hd];exact⟨l,rfl,rfl⟩
theorem a0Q(s:J):∀x∈ax s,0≤x∧x<256:=by
  intro x hx;obtain⟨b,_,rfl⟩:=List.mem_map.1 hx;have:=b.toNat_lt;omega
theorem a0R(m:Nat)(s:J)(hs:s.length<100000)(hm:s.length<m):∃r,qG m s=some r∧xO m s=some r:=by
  obtain⟨l,h1,h2⟩:=a0P m s hs m 0 (ax s) (by omega) (by omega) (mS s) (a0Q s);unfold qG xO;rw[show xd m s m 0 (ax s)=_ from h1,show Ck m s m 0 (ax s)=_ from h2];exact⟨_,rfl,rfl⟩
theorem a0S(m:Nat)(a b:J)(ha:a.length<100000)(hb:b.length<100000)(hm:a.length<m)(ny:b.length<m):∃r,rS m a b=some r∧tU m a b=some r:=by
  obtain⟨x,h1,h2⟩:=a0R m a ha hm;obtain⟨y,h3,h4⟩:=a0R m b hb ny;unfold rS tU;rw[h1,h2,h3,h4];exact⟨_,rfl,rfl⟩
theorem aex:((List.range 256).all λn=>cond (decide (0≤strings_IndexByte [58,59,44,91,93,40,41,123,125] (bj (n:Int)))) (ia (n:Int) !=0&&bj (16+bj (strings_IndexByte [58,59,44,91,93,40,41,123,125] (bj (n:Int))))==ia (n:Int)) (ia (n:Int)==0))=true:=by kernel_rfl
theorem aey{n:Nat}(hn:n<256):
    (decide (0≤strings_IndexByte [58,59,44,91,93,40,41,123,125] (bj (n:Int)))=true∧(ia (n:Int) !=0)=true∧bj (16+bj (strings_IndexByte [58,59,44,91,93,40,41,123,125] (bj (n:Int))))=ia (n:Int))∨
    (decide (0≤strings_IndexByte [58,59,44,91,93,40,41,123,125] (bj (n:Int)))=false∧(ia (n:Int) !=0)=false):=by
  have h:=lj aex hn
  revert h
  generalize decide (0≤strings_IndexByte [58,59,44,91,93,40,41,123,125] (bj (n:Int)))=c;cases c with
  |true=>
    rw[af];intro h;rw[Bool.and_eq_true]at h;exact Or.inl ⟨rfl,h.1,eq_of_beq h.2⟩
  |false=>
    rw[ae];intro h;exact Or.inr ⟨rfl,by rw[eq_of_beq h];rfl⟩
def NG(c:Int):Bool:=cond (cond (cond (c==34) true (c==39)) true (c==40)) true (sx c)
theorem aez:((List.range 256).all λn=>cond (cond (cond (cond (cond (cond ((n:Int)==34) true ((n:Int)==39)) true ((n:Int)==40)) true (decide ((n:Int)≤8))) true ((n:Int)==11)) true (rM (n:Int) 14 31)) true ((n:Int)==127)==NG (n:Int))=true:=by kernel_rfl
theorem aeA{n:Nat}(h:n<256):cond (cond (cond (cond (cond (cond ((n:Int)==34) true ((n:Int)==39)) true ((n:Int)==40)) true (decide ((n:Int)≤8))) true ((n:Int)==11)) true (rM (n:Int) 14 31)) true ((n:Int)==127)=NG (n:Int):=eq_of_beq (lj aez h)
theorem mU{α β:Type}(x:β)(k:β→Option α):eY (Sum.inr x) k=k x:=rfl
theorem NH(s:J)(hs:s.length<100000)(v:J)(i:Nat)(hi:i≤s.length):
    (eY (Sum.inr ((i:Int),v)) (λgf:Int×J=>lt (if aa (gf.1+1)<ln s then aa (gf.1+1)else ln s) λtO=>some (aq.mk 7 gf.2 0 [] false,tO)):Option (aq×Int))=some (aq.mk 7 v 0 [] false,((min (i+1) s.length:Nat):Int)):=by
  unfold eY
  try dsimp only
  rw[TP (by omega) (by omega),lt_eq]
theorem TR(m:Nat)(s:J)(hs:s.length<100000)(kk j:Nat)(v:J)(h:j≤s.length)(u7:aD (ag 41) s j=true∨s.length≤j):oJ m s (kk+1) (j:Int) v=some (.inr ((j:Int),v)):=by
  rw[oJ];by_cases aM:j<s.length
  · have u7:aD (ag 41) s j=true:=by rcases u7 with h|h;exact h;omega
    rw[dM aM,aL (λ_=>⟨by omega,by unfold ln;omega⟩),lt_eq,af,show(aI s (j:Int) !=41)=!(aD (ag 41) s j)from by rw[jV s j 0 aM];exact lQ s j 0 41 (by omega),u7];rfl
  · rw[eS (by omega),aL (λh=>by cases h),lt_eq,ae,ae]
theorem aeB:((List.range 256).all λn=>cond (rJ (n:Int)) (!(n==41)) true)=true:=by kernel_rfl
theorem aeC{b:UInt8}(h:bw b=true):ag 41 b=false:=by
  have h1:=lj aeB b.toNat_lt;unfold bw at h;rw[h,af]at h1;unfold ag;cases h2:b.toNat==41 with
  |false=>rfl
  |true=>rw[h2]at h1;cases h1
theorem aeD(m:Nat)(s:J)(hs:s.length<100000)(hm:10<m)(ny:s.length<m):∀(kk i:Nat)(v:J),s.length-i+1<kk→i≤s.length→v.length≤4*i→
    ∃(t:aq)(e:Nat)(z:Sum (aq×Int) (Int×J)),Ej m s kk (ax v) (i:Int)=some (t,(e:Int))∧oJ m s kk (i:Int) v=some z∧
      eY z (λgf=>lt (if aa (gf.1+1)<ln s then aa (gf.1+1)else ln s) λtO=>some (aq.mk 7 gf.2 0 [] false,tO))=some (t,(e:Int))∧i≤e∧e≤s.length∧Sm e t:=by
  intro kk
  induction kk with
  |zero=>intro i v h;omega
  |succ kk ih=>
    intro i v hk hi hv;rw[Ej,oJ,lP s i (by omega),ai];by_cases aM:i<s.length
    · have iN:=(s[i]).toNat_lt;have u7:=JA aM 41;have xT:=JA aM 92;rw[show((41:Nat):Int)=41 from rfl]at u7;rw[show((92:Nat):Int)=92 from rfl]at xT;rw[Jq,dM aM,aL (λ_=>⟨by omega,by unfold ln;omega⟩),lt_eq,af,dN aM];have iK:oI (aI s (i:Int))=aD bw s i:=by rw[jV s i 0 aM,nV]
      rw[iK,show(aI s (i:Int) !=41)=!(ag 41 s[i])from by rw[←u7];rfl];cases jE:aD bw s i with
      |true=>
        have h0:ag 41 s[i]=false:=aeC (by rw[pN aM]at jE;exact jE);obtain⟨j,w1,w2,w3,w4,w5,w6⟩:=NA m s hs ny i hi;have w7:=w6 jE;rw[h0,j8,af,af,af,w1,w2,ai,ai,lP s j (by omega),ai];by_cases hj:j<s.length
        · have hjb:=(s[j]).toNat_lt;have vY:(pk s j (-1) !=(-1))=true:=by rw[A4 hj];exact bne_iff_ne.2 (by omega)
          have rX:(pk s j (-1) !=41)=!(aD (ag 41) s j):=lQ s j (-1) 41 (by omega);rw[dM hj,aL (λ_=>⟨by omega,by unfold ln;omega⟩),lt_eq,af,show(aI s (j:Int) !=41)=!(aD (ag 41) s j)from by rw[jV s j 0 hj];exact lQ s j 0 41 (by omega),rX,vY];cases h4:aD (ag 41) s j with
          |true=>
            obtain⟨k,rfl⟩:∃k,kk=k+1:=⟨kk-1,by omega⟩;rw[dK,ae,ae,ae,TR m s hs k j v w4 (Or.inl h4)];have e41:pk s j (-1)=41:=by
              have:=iI s j (-1) 41 (by omega);rw[h4]at this;exact eq_of_beq this
            rw[e41,ai];refine⟨aq.mk 7 v 0 [] false,j+1,_,?_,rfl,?_,by omega,hj,lm (by omega)⟩
            · rw[mU]
              try dsimp only
              rw[show((41:Int)==-1)=false from rfl,ae,show((41:Int)==41)=true from rfl,af,ll]
              try dsimp only
              rw[br (by omega)]
            · rw[NH s hs v j w4,show min (j+1) s.length=j+1 from by omega]
          |false=>
            obtain⟨e,b1,b2,b3,b4⟩:=bad_eq m s hs hm ny j w4;rw[j8,af,af,af,b1,b2,ai,ai,ai];exact⟨FI,e,_,rfl,rfl,rfl,by omega,b4,lm (dE _)⟩
        · obtain⟨k,rfl⟩:∃k,kk=k+1:=⟨kk-1,by omega⟩;rw[eS (by omega),aL (λh=>by cases h),lt_eq,ae,ae,TR m s hs k j v w4 (Or.inr (by omega)),Jx (by omega),show((-1:Int) !=-1)=false from rfl,show((-1:Int) !=41)=true from rfl,af,ae,ai];refine⟨aq.mk 7 v 0 [] false,j,_,?_,rfl,?_,by omega,w4,lm (by omega)⟩
          · rw[mU]
            try dsimp only
            rw[show((-1:Int)==-1)=true from rfl,af,ll]
          · rw[NH s hs v j w4,show min (j+1) s.length=j from by omega]
      |false=>
        have sA:=A4 aM (-1);rw[ae,ai,mU]
        try dsimp only
        rw[sA,show(((s[i].toNat:Nat):Int)==-1)=false from bE.2 (by omega),ae];rw[Jz aM]at u7 xT⊢;rw[u7];cases h4:ag 41 s[i]with
        |true=>
          rw[af,dK,ae];refine⟨aq.mk 7 v 0 [] false,i+1,_,?_,rfl,?_,by omega,aM,lm (by omega)⟩
          · rw[ll,br (by omega)]
          · rw[NH s hs v i hi,show min (i+1) s.length=i+1 from by omega]
        |false=>
          rw[ae,j8,af,ae];have hU:=aeA (n:=s[i].toNat) s[i].toNat_lt;rw[lt_eq,lt_eq,lt_eq,lt_eq,lt_eq,hU];rw[show cond (cond (cond (((s[i].toNat:Nat):Int)==34) true (((s[i].toNat:Nat):Int)==39)) true (((s[i].toNat:Nat):Int)==40)) true (sx ((s[i].toNat:Nat):Int))=NG ((s[i].toNat:Nat):Int)from rfl];cases hu:NG ((s[i].toNat:Nat):Int)with
          |true=>
            obtain⟨e,b1,b2,b3,b4⟩:=bad_eq m s hs hm ny i hi;rw[af,lt_eq,af,ai,lt_eq]
            repeat rw[af]
            rw[b1,b2,ai,ai];exact⟨FI,e,_,rfl,rfl,rfl,b3,b4,lm (dE _)⟩
          |false=>
            rw[ae,lt_eq,ae,show(((s[i].toNat:Nat):Int) !=92)=!(ag 92 s[i])from by rw[←xT];rfl,xT];have tZ:=Cw s i 0 (by omega);rw[show((0:Nat):Int)=0 from rfl,Nat.add_zero]at tZ;cases h9:ag 92 s[i]with
            |false=>
              rw[j8,af,ae,ai,lt_eq]
              repeat rw[ae]
              rw[rH (by omega) (by omega),br (by omega),aL (by unfold ln;rw[mS];simp only[aZ,bW];omega),aL (by unfold ln;omega),tY aM,aL (by unfold ln;simp only[aZ,bW];omega)];obtain⟨t,e,z,f1,f2,f3,f4,f5⟩:=ih (i+1) (v++[s[i]]) (by omega) aM (by rw[bB,aZ,bW];omega);have e1:ax [s[i]]=[((s[i].toNat:Nat):Int)]:=rfl;rw[jn,e1]at f1;exact⟨t,e,z,f1,f2,f3,by omega,f5⟩
            |true=>
              rw[dK,ae,af,tZ,tX s i (by omega),ai,ai,lt_eq]
              repeat rw[ae]
              repeat rw[af]
              cases mr s i with
              |true=>
                obtain⟨E,j,e1,e2,e3,e4,e5,e6⟩:=FE m s i v hs hm aM (by omega);rw[af,dK,ae,e1,e2,ai,ai]
                try dsimp only
                rw[aL (by unfold ln;omega)];obtain⟨t,e,z,f1,f2,f3,f4,f5⟩:=ih j (v++E) (by omega) e4 (by rw[bB];omega);exact⟨t,e,z,f1,f2,f3,by omega,f5⟩
              |false=>
                obtain⟨e,b1,b2,b3,b4⟩:=bad_eq m s hs hm ny i hi;rw[ae,j8,af,b1,b2,ai,ai];exact⟨FI,e,_,rfl,rfl,rfl,b3,b4,lm (dE _)⟩
    · have kQ:i=s.length:=by omega
      rw[Jq,Jy _ (by omega),ae,ai,Jx (by omega),eS (by omega),aL (λh=>by cases h),lt_eq,ae,ae];refine⟨_,i,_,rfl,rfl,?_,cF _,hi,lm (by rw[ll];omega)⟩;rw[NH s hs v i hi,ll,show min (i+1) s.length=i from by omega]
theorem aeE(m:Nat)(s:J)(hs:s.length<100000)(hm:10<m)(ny:s.length+1<m)(i:Nat)(hi:i≤s.length):
    ∃(t:aq)(e:Nat),HQ m s (i:Int)=some (t,(e:Int))∧zY m s (i:Int)=some (t,(e:Int))∧i≤e∧e≤s.length∧Sm e t:=by
  obtain⟨j,w1,w2,w3,w4,w5,w6⟩:=NA m s hs (by omega) i hi;obtain⟨t,e,z,f1,f2,f3,f4,f5⟩:=aeD m s hs hm (by omega) m j [] (by omega) w4 (by simp);refine⟨t,e,?_,?_,by omega,f5⟩
  · unfold HQ;rw[w1,ai];exact f1
  · unfold zY;rw[w2,ai,f2,ai];exact f3
theorem aeF(m:Nat)(s:J)(hs:s.length≤4000)(hm:20100<m)(i:Nat)(hi:i<s.length)(hn:pL s i=true):
    ∃(t:aq)(e:Nat),HV m s (i:Int)=some (t,(e:Int))∧pK m s (i:Int)=some (t,(e:Int))∧i<e∧e≤s.length∧Sm e t:=by
  obtain⟨w,j,f1,f2,f3,f4,TS⟩:=NC m s (by omega) (by omega) (by omega) i (by omega);have hgt:=aep m s (by omega) (by omega) (by omega) i hi (aer hn) f1;unfold HV pK;rw[f1,f2,ai,ai];dsimp only;rw[lP s j (by omega),eE,ai,ai,show(pk s j (-1) !=40)=!(aD (ag 40) s j)from lQ s j (-1) 40 (by omega),show(pk s j 0 !=40)=!(aD (ag 40) s j)from lQ s j 0 40 (by omega)];cases FJ:aD (ag 40) s j with
  |false=>
    rw[j8,af,af];exact⟨_,j,rfl,rfl,by omega,f4,lm TS⟩
  |true=>
    have hj:=iv FJ;obtain⟨r,a1,a2⟩:=a0S m w [117,114,108] (by omega) (by simp) (by omega) (by simp;omega);rw[dK,ae,ae,a1,a2,ai,ai,br (by omega)];cases r with
    |false=>
      rw[ae,ae,ai,mU];exact⟨_,j+1,rfl,rfl,by omega,hj,lm (by omega)⟩
    |true=>
      obtain⟨k,w1,w2,w3,w4,w5,w6⟩:=NA m s (by omega) (by omega) (j+1) hj;rw[af,af,w1,w2,ai,ai,lP s k (by omega),eE,ai,ai,
        show(pk s k (-1) !=34)=!(aD (ag 34) s k)from lQ s k (-1) 34 (by omega),show(pk s k 0 !=34)=!(aD (ag 34) s k)from lQ s k 0 34 (by omega),
        show(pk s k (-1) !=39)=!(aD (ag 39) s k)from lQ s k (-1) 39 (by omega),show(pk s k 0 !=39)=!(aD (ag 39) s k)from lQ s k 0 39 (by omega)]
      cases cond (!(aD (ag 34) s k)) (!(aD (ag 39) s k)) false with
      |true=>
        obtain⟨t,e,u1,u2,u3,u4⟩:=aeE m s (by omega) (by omega) (by omega) (j+1) hj;rw[af,af,u1,u2];exact⟨t,e,rfl,rfl,by omega,u4⟩
      |false=>
        rw[ae,ae,ai,mU];exact⟨_,j+1,rfl,rfl,by omega,hj,lm (by omega)⟩
theorem has_eq(s:J)(i:Nat)(p:J)(hs:s.length<100000)(hi:i≤s.length)(hp:p.length<100):
    ∃b,strings_HasPrefix (sub s (i:Int) (ln s)) p=some b∧zW s (i:Int) p=some b∧(b=true→i+p.length≤s.length):=by
  have nx:sub s (i:Int) (ln s)=s.drop i:=by
    unfold sub ln;rw[Int.toNat_natCast,Int.toNat_natCast,List.take_of_length_le (by rw[List.length_drop];omega)]
  have hl:ln (s.drop i)=((s.length-i:Nat):Int):=by unfold ln;rw[List.length_drop]
  have hw:aa (ln s-(i:Int))=((s.length-i:Nat):Int):=by unfold ln;rw[cT (by omega) (by omega)];omega
  have wG:ln p=(p.length:Int):=rfl;unfold strings_HasPrefix stringslite_HasPrefix zW;rw[nx,hl,hw,wG,show aa ((i:Int)+(p.length:Int))=((i+p.length:Nat):Int)from r7 (by omega)];by_cases h:p.length≤s.length-i
  · have hd:decide ((p.length:Int)≤((s.length-i:Nat):Int))=true:=bC (by omega);rw[hd,aL (λ_=>⟨by omega,by omega⟩),aL (λ_=>⟨by omega,by omega,by unfold ln;omega⟩),lt_eq,lt_eq,af,af];have e1:sub (s.drop i) 0 (p.length:Int)=(s.drop i).take p.length:=by unfold sub;simp
    have e2:sub s (i:Int) ((i+p.length:Nat):Int)=(s.drop i).take p.length:=by unfold sub;rw[Int.toNat_natCast,Int.toNat_natCast,Nat.add_sub_cancel_left]
    rw[e1,e2];exact⟨_,rfl,rfl,λ_=>by omega⟩
  · have hd:decide ((p.length:Int)≤((s.length-i:Nat):Int))=false:=bV (by omega);rw[hd,aL (λh=>by cases h),aL (λh=>by cases h),lt_eq,lt_eq,ae,ae];exact⟨false,rfl,rfl,λh=>by cases h⟩
theorem aeG{α:Type}(b l e:Bool)(p:Int)(A B:Option α)(hp:lH p=l):
    (Option.bind (cond b (some p) (some default)) λfJ=>Option.bind (cond b (cond (lH fJ) (some default) (some e)) (some default)) λgA=>lt (cond b (cond (lH fJ) true gA) false) λov=>cond ov A B)=cond (cond b (cond l true e) false) A B:=by
  subst hp;cases b with
  |false=>rfl
  |true=>
    rw[af,ai,af,af];cases lH p<;>rfl
theorem a0T{α:Type}(b l e:Bool)(A B:Option α):
    (Option.bind (cond b (cond l (some default) (some e)) (some default)) λgA=>lt (cond b (cond l true gA) false) λov=>cond ov A B)=cond (cond b (cond l true e) false) A B:=by
  cases b<;>cases l<;>rfl
theorem TT{α:Type}(b n:Bool)(A B:Option α):(Option.bind (cond b (some n) (some default)) λy=>cond (cond b y false) A B)=cond (cond b n false) A B:=by
  cases b<;>rfl
theorem a0U(m:Nat)(s:J)(hs:s.length≤4000)(hm:20100<m)(i:Nat)(hi:i<s.length):
    ∃(t:aq)(e:Nat),vc m s (i:Int)=some (t,(e:Int))∧fh m s (i:Int)=some (t,(e:Int))∧i<e∧e≤s.length∧Sm e t:=by
  have iN:=(s[i]).toNat_lt;have sA:=A4 hi (-1);unfold vc fh;rw[lP s i (by omega),ai,aL ⟨by omega,by unfold ln;omega⟩,dN hi,Jq,show oI (aI s (i:Int))=aD bw s i from by rw[jV s i 0 hi,nV]];cases jE:aD bw s i with
  |true=>
    obtain⟨j,w1,w2,w3,w4,w5,w6⟩:=NA m s (by omega) (by omega) i (by omega);have w7:=w6 jE;rw[af,af,w1,w2];exact⟨_,j,rfl,rfl,w7,w4,lm (dE _)⟩
  |false=>
    rw[ae,ae,sA,Jz hi,lt_eq (cond (((s[i].toNat:Nat):Int)==34) true (((s[i].toNat:Nat):Int)==39))];cases hq:cond (((s[i].toNat:Nat):Int)==34) true (((s[i].toNat:Nat):Int)==39)with
    |true=>
      obtain⟨t,e,f1,f2,f3,f4⟩:=aeo m s (by omega) (by omega) (by omega) i hi;rw[af,af,f1,f2];exact⟨t,e,rfl,rfl,f3,f4⟩
    |false=>
      have TU:(cond (decide (aa ((i:Int)+1)<ln s)) (mR (aI s (aa ((i:Int)+1)))) false)=aD dc s (i+1):=by
        rw[br (by omega)];by_cases h:i+1<s.length
        · rw[dM h,af,jV s (i+1) 0 h,FC]
        · rw[eS (by omega),ae,Jy _ (by omega)]
      have aeH:tu s (i:Int) 1=some (mr s (i+1)):=Cw s i 1 (by omega);have a0V:uX s (i:Int) 1=some (pL s (i+1)):=a0m s i 1 (by omega);rw[ae,ae,TU,vR s i (by omega),aeH,aL (λh _=>⟨by rw[br (by omega)];omega,gS h⟩),br (by omega),tX s (i+1) (by omega),a0T,aeG _ _ _ _ _ _ (Tt s (i+1))];cases cond (((s[i].toNat:Nat):Int)==35) (cond (aD dc s (i+1)) true (mr s (i+1))) false with
      |true=>
        obtain⟨w,j,f1,f2,f3,f4,f5⟩:=NC m s (by omega) (by omega) (by omega) (i+1) hi;rw[af,af,a0V,ai,f1,f2,ai,ai,A2 s (i+1) (by omega),ai];exact⟨_,j,rfl,rfl,by omega,f4,lm f5⟩
      |false=>
        rw[ae,ae,aed s (by omega) i (by omega),a0H s (by omega) i (by omega),ai,ai];cases hn:jw s i with
        |true=>
          obtain⟨t,e,f1,f2,f3,f4⟩:=aet m s hs (by omega) i (by omega) hn;rw[af,af,f1,f2];exact⟨t,e,rfl,rfl,f3,f4⟩
        |false=>
          obtain⟨b1,g1,g2,g3⟩:=has_eq s i [45,45,62] (by omega) (by omega) (by simp);rw[ae,ae,g1,g2,ai,ai];cases b1 with
          |true=>
            have g4:i+3≤s.length:=g3 rfl;rw[af,af,show aa ((i:Int)+3)=((i+3:Nat):Int)from r7 (n:=3) (by omega)];exact⟨_,i+3,rfl,rfl,by omega,g4,lm (dE _)⟩
          |false=>
            obtain⟨b2,k1,k2,k3⟩:=has_eq s i [60,33,45,45] (by omega) (by omega) (by simp);rw[ae,ae,k1,k2,ai,ai];cases b2 with
            |true=>
              have g4:i+4≤s.length:=k3 rfl;rw[af,af,show aa ((i:Int)+4)=((i+4:Nat):Int)from r7 (n:=4) (by omega)];exact⟨_,i+4,rfl,rfl,by omega,g4,lm (dE _)⟩
            |false=>
              rw[ae,ae,a0V,A2 s (i+1) (by omega),TT,TT];cases cond (((s[i].toNat:Nat):Int)==64) (pL s (i+1)) false with
              |true=>
                obtain⟨w,j,f1,f2,f3,f4,f5⟩:=NC m s (by omega) (by omega) (by omega) (i+1) hi;rw[af,af,f1,f2];exact⟨_,j,rfl,rfl,by omega,f4,lm f5⟩
              |false=>
                rw[ae,ae,a0O s i (by omega),A2 s i (by omega),ai,ai];cases CD:pL s i with
                |true=>
                  obtain⟨t,e,f1,f2,f3,f4⟩:=aeF m s hs hm i hi CD;rw[af,af,f1,f2];exact⟨t,e,rfl,rfl,f3,f4⟩
                |false=>
                  have Gn:sub (sub s (i:Int) (ln s)) 0 1=[s[i]]:=by
                    unfold sub ln;rw[Int.toNat_natCast,Int.toNat_natCast,gp hi];obtain⟨k,hk⟩:∃k,s.length-i=k+1:=⟨s.length-i-1,by omega⟩;rw[hk];rfl
                  have iX:ln (sub s (i:Int) (ln s))=((s.length-i:Nat):Int):=by
                    unfold sub ln;rw[Int.toNat_natCast,Int.toNat_natCast,List.length_take,List.length_drop];omega
                  rw[ae,ae,lt_eq,aL ⟨by omega,by rw[iX];omega⟩,aL ⟨by omega,by omega,by unfold ln;omega⟩,Gn,tY hi];rcases aey iN with⟨m1,m2,m3⟩|⟨m1,m2⟩
                  · rw[m1,m2,af,af,m3];exact⟨_,i+1,rfl,rfl,by omega,hi,lm (dE _)⟩
                  · rw[m1,m2,ae,ae];exact⟨_,i+1,rfl,rfl,by omega,hi,lm (by simp;omega)⟩
theorem NI(m:Nat)(s:J)(hs:s.length≤4000)(hm:20100<m)(i:Nat)(hi:i<s.length):
    ∃(t:aq)(e:Nat),vc m s (i:Int)=some (t,(e:Int))∧fh m s (i:Int)=some (t,(e:Int))∧i<e∧e≤s.length:=by
  obtain⟨t,e,h1,h2,h3,h4,_⟩:=a0U m s hs hm i hi;exact⟨t,e,h1,h2,h3,h4⟩
end Go.Proofs.YtpobihiejncdgaaGreatDoor
