/-
 strings.Builder: what lies in memory, and what its methods do to it (the numbers of this program filled in by a program). Nothing here is a statement of this claim.
-/
import Derived.Test.YtpobihiejncdgaaGreatDoorRows
import Derived.Test.YtpobihiejncdgaaGreatDoorA2
import Derived.WalkKit
import Derived.Lib.Builder
import Derived.Lib.UnsafeStr
import Derived.Lib.MakeNoZero
import Derived.Laws.IdiomCopy
import Derived.Shelf.RegionOpenPlain
import Derived.Test.YtpobihiejncdgaaGreatDoorSh
import Derived.Lib.ItoaLen
set_option linter.unusedVariables false
set_option maxRecDepth 20000
set_option maxHeartbeats 4000000
namespace Go.V
open Go Go.RowKit
theorem qm{w:World}{b:Nat}{o:Obj}(h:w.heap[b]?=some o):b<w.heap.size:=by
 rcases Nat.lt_or_ge b w.heap.size with h'|h'
 ·exact h'
 ·rw[Array.getElem?_eq_none h']at h;cases h
def aj.gD(T e:TypeId)(b:Nat)(s:J)(g:Gh):aj where
 fp:=b::cR g.a
 p:=λM w=>(w.heap[b]?=some (.cells ⟨[.pointer Option.none,.slice Option.none 0 0]⟩ T (0,0))∧s=[]∧g=.nil)∨
  (dh w b [.pointer (some ⟨b,0,Option.none⟩),.slice g.a (ax s).length g.c]∧gN e (tI .u8) M w (ax s) g∧b∉cR g.a)
 kp:=λh k hM hX=>by
  rcases h with⟨h1,h2,h3⟩|⟨h1,h2,h3⟩
  ·exact .inl ⟨(k.block _ (qm h1) (hX _ (by simp))).trans h1,h2,h3⟩
  ·exact .inr ⟨h1.kp k (hX _ (by simp)),h2.kp k hM (λy hy=>hX y (by simp[hy])),h3⟩
 dB:=λh hM=>by
  rcases h with h|⟨h1,h2,h3⟩
  ·exact .inl h
  ·exact .inr ⟨h1,h2.dB hM,h3⟩
 fresh:=λh=>by
  rcases h with h|⟨h1,h2,h3⟩
  ·exact .inl h
  ·exact .inr ⟨h1,h2.fresh,h3⟩
 lt:=λh b hb=>by
  rcases h with⟨h1,h2,h3⟩|⟨h1,h2,h3⟩
  ·subst h3;simp[Gh.a,cR]at hb;subst hb;exact qm h1
  ·rcases List.mem_cons.1 hb with rfl|hb
   ·exact h1.lt
   ·exact h2.ow.lt b hb
section
variable {T e:TypeId} {b:Nat} {s:J} {g:Gh} {M:Av} {X:List Nat} {w0 w:World} {L:List aj}
theorem SH.a5Q(h:SH M X w0 (.gD T e b s g::L) w)(h1:dh w b [.pointer (some ⟨b,0,none⟩),.slice g.a (ax s).length g.c])(h2:gN e (tI .u8) (eu M (.gD T e b s g::L)) w (ax s) g)(h3:b∉cR g.a):
  SH M X w0 (.cq b [.pointer (some ⟨b,0,none⟩),.slice g.a (ax s).length g.c]::.own e (tI .u8) (ax s) g::L) w:=
 ⟨h.kp,by
  have hn:=h.nd;rw[List.pairwise_cons]at hn;refine List.pairwise_cons.2 ⟨λf hf=>?_,List.pairwise_cons.2 ⟨λf hf=>?_,hn.2⟩⟩
  ·rcases List.mem_cons.1 hf with rfl|hf
   ·intro y hy gm;have hy:y∈[b]:=hy;simp at hy;subst hy;exact h3 gm
   ·intro y hy gm;have hy:y∈[b]:=hy;simp at hy;subst hy;exact hn.1 f hf _ (by simp[aj.gD]) gm
  ·intro y hy gm;exact hn.1 f hf y (List.mem_cons_of_mem _ hy) gm,h.lo,h.nm,h.mx,λf hf=>by
  rcases List.mem_cons.1 hf with rfl|hf
  ·exact h1
  ·rcases List.mem_cons.1 hf with rfl|hf
   ·exact h2
   ·exact h.ps f (List.mem_cons_of_mem _ hf)⟩
theorem SH.a5R{l:List Int}(hl:l=ax s)(h:SH M X w0 (.cq b [.pointer (some ⟨b,0,none⟩),.slice g.a l.length g.c]::.own e (tI .u8) l g::L) w):SH M X w0 (.gD T e b s g::L) w:=by
 subst hl;have hn:=h.nd;rw[List.pairwise_cons,List.pairwise_cons]at hn;have hb:b∉cR g.a:=λhb=>hn.1 (.own e (tI .u8) (ax s) g) (by simp) b (by simp[aj.cq]) hb;refine⟨h.kp,List.pairwise_cons.2 ⟨λf hf=>?_,hn.2.2⟩,h.lo,h.nm,h.mx,λf hf=>?_⟩
 ·intro y hy gm;rcases List.mem_cons.1 hy with rfl|hy
  ·exact hn.1 f (List.mem_cons_of_mem _ hf) _ (by simp[aj.cq]) gm
  ·exact hn.2.1 f hf y hy gm
 ·rcases List.mem_cons.1 hf with rfl|hf
  ·exact .inr ⟨h.bk 0 rfl,h.ow 1 rfl,hb⟩
  ·exact h.ps f (List.mem_cons_of_mem _ (List.mem_cons_of_mem _ hf))
end
theorem a5S{P:Program}{a:Act}{w:World}{M:Av}{d:Option Tmp}{E:TypeId}{ty:TypeId}{pos:String}{after:Array Edge}(e:TypeId){z:Value}(hS:S0 M [] w)(hz:(P.info? E).map (·.zero)=some (some z))(hc:z.cells.toList=[.pointer none,.slice none 0 0]):
  bc P ⟨d,.alloc E,ty,pos,after,none⟩ a w λu w'=>∃b:Nat,u=.pointer (some ⟨b,0,none⟩)∧SH M (aG []) w [.gD E e b [] .nil] w':=by
 have hv:z.cells=⟨[.pointer none,.slice none 0 0]⟩:=by rw[←hc]
 have hN:=yF w [.pointer none,.slice none 0 0] E;have yC:(zeroValue E).run P w=.ok z w:=by
  cases hi:P.info? E with
  |none=>simp[hi]at hz
  |some inf=>
   simp[hi]at hz;simp[zeroValue,typeInfo,hi,hz]
 refine bc.pa (v:=.pointer (some ⟨w.heap.size,0,none⟩)) (w':=w.alloc (.cells ⟨[.pointer none,.slice none 0 0]⟩ E)) ?_ ⟨w.heap.size,rfl,SH.step hS hN.1 (by simp) (by simp[aG,aj.gD,Gh.a,cR]) ?_⟩
 ·simp[execOp,Instr.alloc,yC,newVar,newRow,hv]
 ·intro f hf;rw[List.mem_singleton]at hf;subst hf;exact .inl ⟨heap_alloc_new w _,rfl,rfl⟩
theorem jn(a c:J):ax (a++c)=ax a++ax c:=by simp[ax]
end Go.V
namespace Go.Proofs.YtpobihiejncdgaaGreatDoor
open Go.V Go.RowKit
set_option maxHeartbeats 1000000 in
set_option maxRecDepth 100000 in
theorem Xu(b:Nat)(w:World)(h0:w.cell? ⟨b,0,none⟩=some (.pointer (some ⟨b,0,none⟩))):
  Calls Tryz.prog 104 #[.pointer (some ⟨b,0,none⟩)] w λe w'=>e=.returned (.tuple #[])∧w'=w:=by
 obtain⟨j,hj,_⟩:=Option.map_eq_some_iff.1 (show(Tryz.prog.info? 112).map (·.size)=some 2 from by kernel_rfl)
 go_enter Tryz.func104,Tryz.ntmps104
 go_wp2
 rw[Lib.run_neq_ptr_same w _ Tryz.underlying110 hj]
 go_wp2
 go_end0
 exact⟨rfl,rfl⟩
set_option maxHeartbeats 1000000 in
set_option maxRecDepth 100000 in
theorem Xv(b:Nat)(w:World)(h0:w.cell? ⟨b,0,none⟩=some (.pointer none))(uu:w.shape? b=some (112,2))(W2:w.frozen? ⟨b,0,none⟩=false):
  Calls Tryz.prog 104 #[.pointer (some ⟨b,0,none⟩)] w λe w'=>e=.returned (.tuple #[])∧w'=w.setCell ⟨b,0,none⟩ (.pointer (some ⟨b,0,none⟩)):=by
 obtain⟨j,hj,hjs⟩:=Option.map_eq_some_iff.1 (show(Tryz.prog.info? 112).map (·.size)=some 2 from by kernel_rfl)
 go_enter Tryz.func104,Tryz.ntmps104
 go_wp2
 rw[Lib.run_to_unsafe w ⟨b,0,none⟩ Tryz.underlying110 Tryz.underlying172 hj (by rw[hjs];decide) uu (Nat.zero_lt_succ 1)];simp only[Result.andThen];rw[Oper.upon_value]
 go_wp2
 rw[run_callFunc_extern Tryz.func134 (by kernel_rfl) (by kernel_rfl) (by kernel_rfl) (e:=Extern.AbiNoEscape.same) (by kernel_rfl)];rw[Lib.run_noEscape];simp only[Result.andThen];rw[Oper.upon_value]
 go_wp2
 rw[Lib.run_from_unsafe w ⟨b,0,none⟩ Tryz.underlying172 Tryz.underlying110 hj uu (by kernel_rfl)];simp only[Result.andThen];rw[Oper.upon_value]
 go_wp2
 go_end0
 exact⟨rfl,rfl⟩
theorem a5T{M:Av}{b:Nat}{s:J}{g:Gh}{w:World}(hS:S0 M [aj.gD 112 5 b s g] w):
  kW Tryz.prog 104 ⟨[.pointer (some ⟨b,0,none⟩)]⟩ w λv w'=>v=.tuple ⟨[]⟩∧SH M (aG [aj.gD 112 5 b s g]) w [aj.cq b [.pointer (some ⟨b,0,none⟩),.slice g.a (ax s).length g.c],aj.own 5 (tI .u8) (ax s) g] w':=by
 refine⟨Tryz.call104 _,?_⟩;rcases hS.at 0 rfl with⟨h1,h2,h3⟩|⟨h1,h2,h3⟩
 ·subst h2 h3;refine(Xv b w (by simp[World.cell?,h1]) (by simp[World.shape?,h1]) (by simp[World.frozen?,h1])).mono ?_;rintro e w' ⟨rfl,rfl⟩;refine⟨_,rfl,rfl,?_⟩;have hk:Kp [b] w (w.setCell ⟨b,0,none⟩ (.pointer (some ⟨b,0,none⟩))):=qc w ⟨b,0,none⟩ _;have gw:dh (w.setCell ⟨b,0,none⟩ (.pointer (some ⟨b,0,none⟩))) b [.pointer (some ⟨b,0,none⟩),.slice none 0 0]:=
   ⟨Nat.lt_of_lt_of_le (qm h1) hk.size,_,Az h1⟩
  refine SH.step hS (hk.wide (by simp[aG,aj.gD])) ?_ (by simp[aG,aj.gD,aj.cq,aj.own,Gh.a,cR]) ?_
  ·refine List.pairwise_cons.2 ⟨λf hf=>?_,by simp⟩;rw[List.mem_singleton]at hf;subst hf;intro y _ gm;simp[aj.own,Gh.a,cR]at gm
  ·intro f hf;rcases List.mem_cons.1 hf with rfl|hf
   ·exact gw
   ·rw[List.mem_singleton]at hf;subst hf;exact gN.nil
 ·refine(Xu b w (by rw[h1.cell];rfl)).mono ?_;rintro e w' ⟨rfl,rfl⟩;exact⟨_,rfl,rfl,hS.a5Q h1 h2 h3⟩
theorem PU{M:Av}{b:Nat}{s:J}{g:Gh}{w:World}(t:J)(hl:V.ln s+V.ln t≤1099511627776)(hS:S0 M [aj.gD 112 5 b s g] w):
  kW Tryz.prog 61 ⟨[.pointer (some ⟨b,0,none⟩),.string ⟨⟨t⟩⟩]⟩ w λv w'=>∃g':Gh,v=.tuple ⟨[.int .i64 (V.ln t),.nilIface]⟩∧SH M (aG [aj.gD 112 5 b s g]) w [aj.gD 112 5 b (s++t) g'] w':=by
 refine⟨Tryz.call61 _,?_⟩;have bL:SH M (aG [aj.gD 112 5 b s g]) w [aj.gD 112 5 b s g] w:=hS;generalize hX:aG [aj.gD 112 5 b s g]=X at bL⊢;clear hS hX;have hS:=bL;clear bL;refine lz Tryz.func61 rfl Tryz.ntmps61 rfl λ_ H=>?_;refine kT [] [0,1] [(0,[],.pointer (some ⟨b,0,none⟩)),(1,[],.string ⟨⟨t⟩⟩)] [] H (by kernel_rfl) trivial λ_ Xw H2 hb=>?_;clear H;replace hS:=hS.below hb;clear hb;refine p7 ?_;refine AA ?_;refine kV 0 1 [] [0,1,6] [(0,[],.pointer (some ⟨b,0,none⟩)),(1,[],.string ⟨⟨t⟩⟩),(6,[],.pointer (some ⟨b,0,none⟩))] [] H2 (by decide) (by kernel_rfl) trivial λ_ Xx H3 hb=>?_;clear H2;replace hS:=hS.below hb;clear hb;have hd:=hS.hand [0] [] rfl rfl;refine lA [7,0,1] [(0,[],.pointer (some ⟨b,0,none⟩)),(1,[],.string ⟨⟨t⟩⟩)] H3 rfl rfl rfl rfl (cN H3 rfl rfl (a5T hd)) (λ_=>rfl) λ_ PV v H4 hq=>?_;clear H3 hd;obtain⟨rfl,hq⟩:=hq;replace hS:SH M X w [aj.cq b [.pointer (some ⟨b,0,none⟩),.slice g.a (ax s).length g.c],aj.own 5 (tI .u8) (ax s) g] _:=hS.join [0] [] rfl rfl hq;clear hq;refine Dq rfl ?_;refine p7 ?_;refine AA ?_;refine kV 0 6 [.slice g.a (ax s).length g.c] [1,8,12,13] [(1,[],.string ⟨⟨t⟩⟩),(8,[],.pointer (some ⟨b,0,none⟩)),(12,[],.slice g.a (ax s).length g.c),(13,[],.string ⟨⟨t⟩⟩)] [λwz=>V.aQ ⟨b,1,none⟩ (.slice g.a (ax s).length g.c) wz] H4 (by decide) (by kernel_rfl) ⟨(hS.bk 0 rfl).aQ rfl,trivial⟩ λ_ Xy H7 hb=>?_;clear H4;replace hS:=hS.below hb;clear hb;obtain⟨q,L8⟩:∃q,q=ax s++ax t:=⟨_,rfl⟩;have hd:=hS.hand [1] [0] rfl rfl;refine lA [14,1,8] [(1,[],.string ⟨⟨t⟩⟩),(8,[],.pointer (some ⟨b,0,none⟩))] H7 rfl rfl rfl rfl (wI (g1:=g) (l1:=ax s) q L8.symm H7 hd rfl rfl rfl rfl rfl (by kernel_rfl) (by kernel_rfl) (by kernel_rfl) (by simpa[V.ln,ax]using hl)) (λ_=>rfl) λ_ ajh v qn hq=>?_;clear H7 hd;obtain⟨g12,rfl,hq⟩:=hq;replace hS:SH M X w [aj.own 5 (tI .u8) q g12,aj.cq b [.pointer (some ⟨b,0,none⟩),.slice g.a (ax s).length g.c]] _:=hS.join [1] [0] rfl rfl hq;clear hq;refine kV 7 9 [] [1,14,16] [(1,[],.string ⟨⟨t⟩⟩),(14,[],.slice g12.a q.length g12.c),(16,[],.pointer (some ⟨b,1,none⟩))] [] qn (by decide) (by kernel_rfl) trivial λ_ aji wO hb=>?_;clear qn;replace hS:=hS.below hb;clear hb;have hd:=hS.hand [1] [0] rfl rfl;refine nC [1] [(1,[],.string ⟨⟨t⟩⟩)] wO rfl rfl rfl (gn [.pointer (some ⟨b,0,none⟩),.slice g12.a q.length g12.c] wO hd rfl rfl (by kernel_rfl) rfl rfl rfl) rfl λ_ ajj AZ hq=>?_;clear wO hd;obtain⟨_,hq⟩:=hq;replace hS:SH M X w [aj.cq b [.pointer (some ⟨b,0,none⟩),.slice g12.a q.length g12.c],aj.own 5 (tI .u8) q g12] _:=hS.join [1] [0] rfl rfl hq;clear hq;refine Dq rfl ?_;refine kT [] [4,5] [(4,[],.int .i64 (V.ln t)),(5,[],.nilIface)] [] AZ (by kernel_rfl) trivial λ_ ajk sU hb=>?_;clear AZ;replace hS:=hS.below hb;clear hb;refine Ay ?_;exact Gx sU rfl rfl rfl ⟨_,rfl,g12,rfl,SH.a5R (by rw[L8,jn]) hS⟩
theorem SH.gone{M:Av}{L:List aj}{w w':World}(h:S0 M L w)(k:Kp (aG L) w w'):SH M (aG L) w [] w':=SH.step h k (by simp) (by simp[aG]) (by simp)
theorem a5U(w:World)(g n:Nat):Kp [g] w (w.freeze ⟨g,0,none⟩ n):=by
 unfold World.freeze;split
 ·exact Kp.refl _ _
 ·exact⟨rfl,rfl,rfl,by simp,λk _ hx=>by rw[Array.getElem?_modify,if_neg (λe=>hx (by simp;exact e.symm))]⟩
theorem B0(w:World)(X:List Nat):Kp X w w.drew:=⟨rfl,rfl,rfl,Nat.le_refl _,λ_ _ _=>rfl⟩
theorem PW(w:World)(o:Obj)(X:List Nat):Kp X w (w.alloc o):=⟨rfl,rfl,rfl,by simp,λk hk _=>Lib.alloc_old w o k hk⟩
set_option maxHeartbeats 2000000 in
set_option maxRecDepth 100000 in
theorem a5V(b g cap:Nat)(l:List UInt8)(w:World)(cs:List Value)(T2:TypeId)(h0:l≠[])(gw:w.heap[b]?=some (.cells ⟨[.pointer (some ⟨b,0,none⟩),.slice (some ⟨g,0,none⟩) l.length cap]⟩ T2 (0,0)))
  (fP:Array Value)(hg:w.heap[g]?=some (.cells fP 5 (0,0)))(hc:l.length≤cap)(wH:cap≤maxLen)(lr:fP.size=cap)(hx:∀j x,l[j]?=some x→w.cell? ((⟨g,0,none⟩:Addr).add j)=some (.int .u8 x.toNat)):
  Calls Tryz.prog 62 #[.pointer (some ⟨b,0,none⟩)] w λe w'=>e=.returned (.string ⟨l.toArray⟩)∧Kp [g] w w':=by
 have iF:l.length≠0:=by simpa using h0
 have c1:w.drew.cell? ⟨b,1,none⟩=some (.slice (some ⟨g,0,none⟩) l.length cap):=by
  have:w.drew.heap[b]?=some (.cells ⟨[.pointer (some ⟨b,0,none⟩),.slice (some ⟨g,0,none⟩) l.length cap]⟩ T2 (0,0)):=gw;rw[Lib.cell_of_heap this];rfl
 have PX:(Builtin.unsafeSliceData_ #[101] 144 #[.slice (some ⟨g,0,none⟩) l.length cap]).run Tryz.prog w.drew=.ok (.pointer (some ⟨g,0,none⟩)) w.drew:=
  Lib.run_unsafeSliceData_row _ _ _ _ _ _ (by omega)
 have PY:(Builtin.unsafeString_ #[144,3] 9 #[.pointer (some ⟨g,0,none⟩),.int .i64 l.length]).run Tryz.prog w.drew=.ok (.string ⟨l.toArray⟩) (w.drew.freeze ⟨g,0,none⟩ l.length):=by
  refine Lib.run_unsafeString_row w.drew 144 3 9 5 Tryz.underlying144 (by kernel_rfl) g fP.size (by have p9:w.drew.heap[g]?=some (.cells fP 5 (0,0)):=hg;simp[World.shape?,p9]) l h0 (by omega) (by unfold maxLen at wH;omega) ?_;intro j x ol;exact hx j x ol
 have mixed:Tryz.prog.follows Departure.mixedOrders=true:=by kernel_rfl
 go_enter Tryz.func62,Tryz.ntmps62
 go_wp2
 go_region_o
 all_goals (go_wp2;go_ret;exact⟨rfl,(B0 w [g]).trans (a5U w.drew g _) (by simp)⟩)
set_option maxHeartbeats 2000000 in
set_option maxRecDepth 100000 in
theorem Xz(b:Nat)(p:Value)(w:World)(T2:TypeId)(gw:w.heap[b]?=some (.cells ⟨[p,.slice none 0 0]⟩ T2 (0,0))):
  Calls Tryz.prog 62 #[.pointer (some ⟨b,0,none⟩)] w λe w'=>e=.returned (.string ⟨#[]⟩)∧Kp [] w w':=by
 have PY:∀(W:World)(q:Option Addr),(Builtin.unsafeString_ #[144,3] 9 #[.pointer q,.int .i64 0]).run Tryz.prog W=.ok (.string .empty) W:=λW q=>Lib.run_unsafeString_none W _ _ _ q;have c1:w.drew.cell? ⟨b,1,none⟩=some (.slice none 0 0):=by
  have:w.drew.heap[b]?=some (.cells ⟨[p,.slice none 0 0]⟩ T2 (0,0)):=gw;rw[Lib.cell_of_heap this];rfl
 have PX:(Builtin.unsafeSliceData_ #[101] 144 #[.slice none 0 0]).run Tryz.prog w.drew=.ok (.pointer none) w.drew:=rfl;have mixed:Tryz.prog.follows Departure.mixedOrders=true:=by kernel_rfl
 go_enter Tryz.func62,Tryz.ntmps62
 go_wp2
 go_region_o
 all_goals (go_wp2;go_ret;exact⟨rfl,B0 w _⟩)
set_option maxHeartbeats 2000000 in
set_option maxRecDepth 100000 in
theorem a5W(b g:Nat)(p:Value)(fP:Array Value)(w:World)(T2:TypeId)(gw:w.heap[b]?=some (.cells ⟨[p,.slice (some ⟨g,0,none⟩) 0 0]⟩ T2 (0,0)))(hg:w.heap[g]?=some (.cells fP 5 (0,0))):
  Calls Tryz.prog 62 #[.pointer (some ⟨b,0,none⟩)] w λe w'=>e=.returned (.string ⟨#[]⟩)∧Kp [] w w':=by
 have PY:∀(W:World)(q:Option Addr),(Builtin.unsafeString_ #[144,3] 9 #[.pointer q,.int .i64 0]).run Tryz.prog W=.ok (.string .empty) W:=λW q=>Lib.run_unsafeString_none W _ _ _ q;have aM:b<w.heap.size:=qm gw;have c1:w.drew.cell? ⟨b,1,none⟩=some (.slice (some ⟨g,0,none⟩) 0 0):=by
  have:w.drew.heap[b]?=some (.cells ⟨[p,.slice (some ⟨g,0,none⟩) 0 0]⟩ T2 (0,0)):=gw;rw[Lib.cell_of_heap this];rfl
 have PX:(Builtin.unsafeSliceData_ #[101] 144 #[.slice (some ⟨g,0,none⟩) 0 0]).run Tryz.prog w.drew=.ok (.pointer (some ⟨w.drew.heap.size,0,none⟩)) (w.drew.alloc (.view ⟨g,0,none⟩ 5)):=
  Lib.run_unsafeSliceData_zero w.drew _ _ 5 Tryz.underlying144 ⟨g,0,none⟩ 0 (5,fP.size) (by have p9:w.drew.heap[g]?=some (.cells fP 5 (0,0)):=hg;simp[World.shape?,p9])
 have c2:(w.drew.alloc (.view ⟨g,0,none⟩ 5)).cell? ⟨b,1,none⟩=some (.slice (some ⟨g,0,none⟩) 0 0):=by
  have:(w.drew.alloc (.view ⟨g,0,none⟩ 5)).heap[b]?=_:=(Lib.alloc_old w.drew _ b aM).trans gw;rw[Lib.cell_of_heap this];rfl
 have c3:(w.alloc (.view ⟨g,0,none⟩ 5)).drew.cell? ⟨b,1,none⟩=some (.slice (some ⟨g,0,none⟩) 0 0):=c2;have c0:w.cell? ⟨b,1,none⟩=some (.slice (some ⟨g,0,none⟩) 0 0):=c1;have mixed:Tryz.prog.follows Departure.mixedOrders=true:=by kernel_rfl
 go_enter Tryz.func62,Tryz.ntmps62
 go_wp2
 go_region_o
 all_goals (go_wp2;go_ret;exact⟨rfl,by first|exact(B0 w []).trans (PW _ _ []) (by simp)|exact(PW w _ []).trans (B0 _ []) (by simp)⟩)
set_option maxHeartbeats 2000000 in
set_option maxRecDepth 100000 in
theorem a5X(b g cap:Nat)(p:Value)(w:World)(T2:TypeId)(rD:cap≠0)(gw:w.heap[b]?=some (.cells ⟨[p,.slice (some ⟨g,0,none⟩) 0 cap]⟩ T2 (0,0))):
  Calls Tryz.prog 62 #[.pointer (some ⟨b,0,none⟩)] w λe w'=>e=.returned (.string ⟨#[]⟩)∧Kp [] w w':=by
 have PY:∀(W:World)(q:Option Addr),(Builtin.unsafeString_ #[144,3] 9 #[.pointer q,.int .i64 0]).run Tryz.prog W=.ok (.string .empty) W:=λW q=>Lib.run_unsafeString_none W _ _ _ q;have c1:w.drew.cell? ⟨b,1,none⟩=some (.slice (some ⟨g,0,none⟩) 0 cap):=by
  have:w.drew.heap[b]?=some (.cells ⟨[p,.slice (some ⟨g,0,none⟩) 0 cap]⟩ T2 (0,0)):=gw;rw[Lib.cell_of_heap this];rfl
 have PX:(Builtin.unsafeSliceData_ #[101] 144 #[.slice (some ⟨g,0,none⟩) 0 cap]).run Tryz.prog w.drew=.ok (.pointer (some ⟨g,0,none⟩)) w.drew:=
  Lib.run_unsafeSliceData_row _ _ _ _ _ _ rD
 clear rD;have mixed:Tryz.prog.follows Departure.mixedOrders=true:=by kernel_rfl
 go_enter Tryz.func62,Tryz.ntmps62
 go_wp2
 go_region_o
 all_goals (go_wp2;go_ret;exact⟨rfl,B0 w _⟩)
theorem a5Y{M:Av}{b:Nat}{s:J}{g:Gh}{w:World}(hS:S0 M [aj.gD 112 5 b s g] w):
  kW Tryz.prog 62 ⟨[.pointer (some ⟨b,0,none⟩)]⟩ w λv w'=>v=.string ⟨⟨s⟩⟩∧SH M (aG [aj.gD 112 5 b s g]) w [] w':=by
 refine⟨Tryz.call62 _,?_⟩;rcases hS.at 0 rfl with⟨h1,h2,h3⟩|⟨h1,h2,h3⟩
 ·subst h2 h3;refine(Xz b _ w _ h1).mono ?_;rintro e w' ⟨rfl,hk⟩;exact⟨_,rfl,rfl,SH.gone hS (hk.wide (by simp))⟩
 ·have uk:=h2.ow.row;rw[KP,er]at uk;obtain⟨T2,hT⟩:=h1.get;rcases uk.2 with⟨hv,hn⟩|⟨gb,cap,fP,hv,_,yH,hle,wH,lr,a4y⟩
  ·have hs:s=[]:=by simpa[ax]using hn
   subst hs;rw[hv]at hT;refine(Xz b _ w _ hT).mono ?_;rintro e w' ⟨rfl,hk⟩;exact⟨_,rfl,rfl,SH.gone hS (hk.wide (by simp))⟩
  ·have uo:=uk.cells (g:=gb) (by rw[hv];rfl);have pj:g.a=some ⟨gb,0,none⟩:=by simp only[Value.slice.injEq]at hv;exact hv.1
   rw[hv]at hT;by_cases hs:s=[]
   ·subst hs;by_cases rD:cap=0
    ·subst rD;refine(a5W b gb _ fP w _ hT yH).mono ?_;rintro e w' ⟨rfl,hk⟩;exact⟨_,rfl,rfl,SH.gone hS (hk.wide (by simp))⟩
    ·refine(a5X b gb cap _ w _ rD hT).mono ?_;rintro e w' ⟨rfl,hk⟩;exact⟨_,rfl,rfl,SH.gone hS (hk.wide (by simp))⟩
   ·have oa:(ax s).length=s.length:=by simp[ax]
    rw[oa]at hT hle;refine(a5V b gb cap s w [] T2 hs hT fP yH hle wH (by rw[show(tI .u8).z=1 from rfl]at lr;omega) (λj x hx=>?_)).mono ?_
    ·exact uo j _ (by simp[ax,hx])
    ·rintro e w' ⟨rfl,hk⟩;exact⟨_,rfl,rfl,SH.gone hS (hk.wide (by intro y hy;simp at hy;subst hy;simp[aG,aj.gD,pj,cR]))⟩
set_option maxHeartbeats 2000000 in
set_option maxRecDepth 1000000 in
theorem XB(b n:Nat)(w:World)(T2:TypeId)(gw:w.heap[b]?=some (.cells ⟨[.pointer (some ⟨b,0,none⟩),.slice none 0 0]⟩ T2 (0,0)))(hn:n≤281474976710656):
  Calls Tryz.prog 105 #[.pointer (some ⟨b,0,none⟩),.int .i64 n] w λe w'=>e=.returned (.tuple #[])∧∃cs:Array Value,cs.size≤maxLen∧w'=((w.alloc (.cells cs 5)).setCell ⟨b,1,none⟩ (.slice (some ⟨w.heap.size,0,none⟩) 0 cs.size)).drew.drew.drew:=by
 obtain⟨cs,yL,hle,a5Z⟩:=Lib.run_makeNoZero (P:=Tryz.prog) w.drew #[3] 101 5 Tryz.underlying101 n hn;have hw:IntKind.i64.wrap (IntKind.i64.wrap 0+(n:Int))=n:=by
  rw[IntKind.wrap_i64,IntKind.wrap_i64];omega
 have ajl:(callFunc 135 #[.int .i64 (IntKind.i64.wrap (IntKind.i64.wrap 0+(n:Int)))]).run Tryz.prog w.drew=.ok (.value (.slice (some ⟨w.drew.heap.size,0,none⟩) n cs.size)) (w.drew.drew.drew.alloc (.cells cs 5)):=by
  rw[hw,run_callFunc_extern Tryz.func135 (by kernel_rfl) (by kernel_rfl) (by kernel_rfl) (e:=Extern.BytealgMakeNoZero.makeNoZero #[3] #[101]) (by kernel_rfl),yL];rfl
 have c1:w.drew.cell? ⟨b,1,none⟩=some (.slice none 0 0):=by
  have:w.drew.heap[b]?=_:=gw;rw[Lib.cell_of_heap this];rfl
 have c2:(w.alloc (.cells cs 5)).cell? ⟨b,1,none⟩=some (.slice none 0 0):=by
  have:(w.alloc (.cells cs 5)).heap[b]?=_:=(Lib.alloc_old w _ b (qm gw)).trans gw;rw[Lib.cell_of_heap this];rfl
 have f2:(w.alloc (.cells cs 5)).frozen? ⟨b,1,none⟩=false:=Lib.frozen_of_heap ((Lib.alloc_old w _ b (qm gw)).trans gw) 1;have ajm:∀W:World,(Builtin.copy_ #[101,101] 3 #[.slice (some ⟨w.heap.size,0,none⟩) 0 cs.size,.slice none 0 0]).run Tryz.prog W=.ok (goInt 0) W:=
  λW=>run_copy_none W 101 101 3 5 _ _ 0 cs.size 0 0 Tryz.underlying101 (by kernel_rfl) rfl
 clear hw;have mixed:Tryz.prog.follows Departure.mixedOrders=true:=by kernel_rfl
 go_enter Tryz.func105,Tryz.ntmps105
 go_wp2
 have PZ:=a5Z (by unfold maxLen;omega)
 go_region_o
 all_goals (go_wp2;go_end0;exact⟨rfl,cs,PZ,rfl⟩)
def rE(b:Nat)(w w':World):Prop:=Kp [b] w w'∧∃v T,w'.heap[b]?=some (.cells ⟨[.pointer (some ⟨b,0,none⟩),v]⟩ T (0,0))∧
 (v=.slice none 0 0∨∃cs:Array Value,cs.size≤maxLen∧v=.slice (some ⟨w.heap.size,0,none⟩) 0 cs.size∧w'.heap[w.heap.size]?=some (.cells cs 5 (0,0)))
theorem rE.drew{b:Nat}{w w':World}(h:rE b w w'):rE b w w'.drew:=⟨⟨h.1.os,h.1.tape,h.1.output,h.1.size,h.1.block⟩,h.2⟩
theorem rE.of{b:Nat}{w:World}{T2:TypeId}(gw:w.heap[b]?=some (.cells ⟨[.pointer (some ⟨b,0,none⟩),.slice none 0 0]⟩ T2 (0,0))){cs:Array Value}(h:cs.size≤maxLen){N:Nat}(hN:w.heap.size=N):
  rE b w ((w.alloc (.cells cs 5)).setCell ⟨b,1,none⟩ (.slice (some ⟨N,0,none⟩) 0 cs.size)):=by
 subst hN;have hb:=(Lib.alloc_old w (.cells cs 5) b (qm gw)).trans gw;have L9:Kp [b] w ((w.alloc (.cells cs 5)).setCell ⟨b,1,none⟩ (.slice (some ⟨w.heap.size,0,none⟩) 0 cs.size)):=
  (PW w (.cells cs 5) [b]).trans (qc (w.alloc (.cells cs 5)) ⟨b,1,none⟩ (.slice (some ⟨w.heap.size,0,none⟩) 0 cs.size)) (by simp)
 refine⟨L9,_,T2,Az (off:=1) (v:=.slice (some ⟨w.heap.size,0,none⟩) 0 cs.size) hb,.inr ⟨cs,h,rfl,?_⟩⟩;have hk:=(qc (w.alloc (.cells cs 5)) ⟨b,1,none⟩ (.slice (some ⟨w.heap.size,0,none⟩) 0 cs.size)).block w.heap.size (by simp) (by have:=qm gw;simp;omega);exact hk.trans (heap_alloc_new w _)
set_option maxHeartbeats 2000000 in
set_option maxRecDepth 1000000 in
theorem a60(b n:Nat)(w:World)(T2:TypeId)(gw:w.heap[b]?=some (.cells ⟨[.pointer (some ⟨b,0,none⟩),.slice none 0 0]⟩ T2 (0,0)))(hn:n≤281474976710656):
  Calls Tryz.prog 60 #[.pointer (some ⟨b,0,none⟩),.int .i64 n] w λe w'=>e=.returned (.tuple #[])∧rE b w w':=by
 have c0:w.cell? ⟨b,0,none⟩=some (.pointer (some ⟨b,0,none⟩)):=by rw[Lib.cell_of_heap gw];rfl
 have c1:w.cell? ⟨b,1,none⟩=some (.slice none 0 0):=by rw[Lib.cell_of_heap gw];rfl
 have c1':w.drew.cell? ⟨b,1,none⟩=some (.slice none 0 0):=c1;have Q0:w.drew.heap[b]?=some (.cells ⟨[.pointer (some ⟨b,0,none⟩),.slice none 0 0]⟩ T2 (0,0)):=gw;have mixed:Tryz.prog.follows Departure.mixedOrders=true:=by kernel_rfl
 go_enter Tryz.func60,Tryz.ntmps60
 go_wp2_with (go_at_call 104;refine(Xu b w c0).mono ?_;rintro e w' ⟨rfl,rfl⟩)
 go_region_o
 all_goals go_wp2_with (go_at_call 105;refine(XB b n w'.drew T2 Q0 hn).mono ?_;rintro e w1 ⟨rfl,cs,lr,rfl⟩)
 all_goals first
  |(go_end0;exact⟨rfl,(rE.of gw lr rfl).drew.drew.drew.drew⟩)
  |(go_end0;exact⟨rfl,⟨B0 _ _,_,_,gw,.inl rfl⟩⟩)
set_option maxHeartbeats 2000000 in
set_option maxRecDepth 1000000 in
theorem a61(b n:Nat)(w:World)(gw:w.heap[b]?=some (.cells ⟨[.pointer none,.slice none 0 0]⟩ 112 (0,0)))(hn:n≤281474976710656):
  Calls Tryz.prog 60 #[.pointer (some ⟨b,0,none⟩),.int .i64 n] w λe w'=>e=.returned (.tuple #[])∧rE b w w':=by
 have Lb:(w.setCell ⟨b,0,none⟩ (.pointer (some ⟨b,0,none⟩))).heap[b]?=some (.cells ⟨[.pointer (some ⟨b,0,none⟩),.slice none 0 0]⟩ 112 (0,0)):=Az gw;have c1:(w.setCell ⟨b,0,none⟩ (.pointer (some ⟨b,0,none⟩))).cell? ⟨b,1,none⟩=some (.slice none 0 0):=by rw[Lib.cell_of_heap Lb];rfl
 have c1':(w.setCell ⟨b,0,none⟩ (.pointer (some ⟨b,0,none⟩))).drew.cell? ⟨b,1,none⟩=some (.slice none 0 0):=c1;have Q0:(w.setCell ⟨b,0,none⟩ (.pointer (some ⟨b,0,none⟩))).drew.heap[b]?=some (.cells ⟨[.pointer (some ⟨b,0,none⟩),.slice none 0 0]⟩ 112 (0,0)):=Lb;have hk:Kp [b] w (w.setCell ⟨b,0,none⟩ (.pointer (some ⟨b,0,none⟩))):=qc w ⟨b,0,none⟩ _;have gk:(w.setCell ⟨b,0,none⟩ (.pointer (some ⟨b,0,none⟩))).heap.size=w.heap.size:=by simp[World.setCell]
 have fin:∀w',rE b (w.setCell ⟨b,0,none⟩ (.pointer (some ⟨b,0,none⟩))) w'→rE b w w':=by
  rintro w' ⟨h1,v,T,h2,h3⟩;refine⟨hk.trans h1 (by simp),v,T,h2,?_⟩;rw[gk]at h3;exact h3
 have mixed:Tryz.prog.follows Departure.mixedOrders=true:=by kernel_rfl
 go_enter Tryz.func60,Tryz.ntmps60
 go_wp2_with (go_at_call 104;refine(Xv b w (by rw[Lib.cell_of_heap gw];rfl) (by simp[World.shape?,gw]) (Lib.frozen_of_heap gw 0)).mono ?_;rintro e w' ⟨rfl,rfl⟩)
 go_region_o
 all_goals go_wp2_with (go_at_call 105;refine(XB b n (w.setCell ⟨b,0,none⟩ (.pointer (some ⟨b,0,none⟩))).drew 112 Q0 hn).mono ?_;rintro e w1 ⟨rfl,cs,lr,rfl⟩)
 all_goals first
  |(go_end0;exact⟨rfl,fin _ (rE.of Lb lr gk).drew.drew.drew.drew⟩)
  |(go_end0;exact⟨rfl,fin _ ⟨B0 _ _,_,_,Lb,.inl rfl⟩⟩)
theorem a62{M:Av}{b:Nat}{w:World}(n:Int)(hn:0≤n∧n≤281474976710656)(hS:S0 M [aj.gD 112 5 b [] .nil] w):
  kW Tryz.prog 60 ⟨[.pointer (some ⟨b,0,none⟩),.int .i64 n]⟩ w λv w'=>∃g':Gh,v=.tuple ⟨[]⟩∧SH M (aG [aj.gD 112 5 b [] .nil]) w [aj.gD 112 5 b [] g'] w':=by
 refine⟨Tryz.call60 _,?_⟩;obtain⟨m,rfl⟩:=Int.eq_ofNat_of_zero_le hn.1;have DV:b<w.heap.size:=(aj.gD 112 5 b [] .nil).lt (hS.at 0 rfl) b (by simp[aj.gD]);have key:Calls Tryz.prog 60 #[.pointer (some ⟨b,0,none⟩),.int .i64 m] w λe w'=>e=.returned (.tuple #[])∧rE b w w':=by
  rcases hS.at 0 rfl with⟨h1,_,_⟩|⟨h1,_,_⟩
  ·exact a61 b m w h1 (by omega)
  ·obtain⟨T2,hT⟩:=h1.get;exact a60 b m w T2 hT (by omega)
 refine key.mono ?_;rintro e w' ⟨rfl,hk,v,T2,hb,hv⟩;have XC:Kp (aG [aj.gD 112 5 b [] .nil]) w w':=hk.wide (by simp[aG,aj.gD]);rcases hv with rfl|⟨cs,lr,rfl,hN⟩
 ·refine⟨_,rfl,.nil,rfl,SH.step hS XC (by simp) (by simp[aG,aj.gD,Gh.a,cR]) ?_⟩;intro f hf;rw[List.mem_singleton]at hf;subst hf;exact .inr ⟨⟨qm hb,T2,hb⟩,gN.nil,by simp[Gh.a,cR]⟩
 ·refine⟨_,rfl,.mk (some ⟨w.heap.size,0,none⟩) cs.size (λ_ _=>.nil),rfl,SH.step hS XC (by simp) ?_ ?_⟩
  ·intro y hy;simp[aG,aj.gD,Gh.a,cR]at hy;rcases hy with rfl|rfl
   ·exact .inr (by simp[aG,aj.gD])
   ·exact .inl (Nat.le_refl _)
  ·intro f hf;rw[List.mem_singleton]at hf;subst hf;refine .inr ⟨⟨qm hb,T2,hb⟩,⟨⟨⟨rfl,.inr ⟨w.heap.size,cs.size,cs,rfl,Nat.zero_le _,hN,Nat.zero_le _,lr,by show cs.size=cs.size*1;omega,by first|rfl|simp⟩⟩,?_,Nat.zero_le _⟩,λi hi=>by simp[ax]at hi⟩,?_⟩
   ·intro y hy;simp[Gh.a,cR]at hy;subst hy;exact qm hN
   ·simp[Gh.a,cR];omega
end Go.Proofs.YtpobihiejncdgaaGreatDoor
namespace Go.V
open Go Go.RowKit
def aj.mD(g:Nat)(cs:List Value):aj where
 fp:=[]
 p:=λM w=>(∃T fr,w.heap[g]?=some (.cells ⟨cs⟩ T fr))∧¬M g
 kp:=λh k hM _=>⟨by obtain⟨⟨T,fr,h1⟩,h2⟩:=h;exact⟨T,fr,(k.block _ (qm h1) (λhx=>h2 (hM _ hx))).trans h1⟩,h.2⟩
 dB:=λh hM=>⟨h.1,λhb=>h.2 (hM _ hb)⟩
 fresh:=λh=>⟨h.1,λhb=>by
  obtain⟨⟨T,fr,h1⟩,h2⟩:=h;rcases hb with hb|hb
  ·exact h2 hb
  ·have:=qm h1;omega⟩
 lt:=λ_ b hb=>by cases hb
def wP:Nat→Nat→J
 |0,_=>[]
 |k+1,u=>cond (Nat.blt u 10) [UInt8.ofNat (48+u)] (wP k (u/10)++[UInt8.ofNat (48+u%10)])
def B1(n:Int):J:=cond (decide (n<0)) (45::wP 20 n.natAbs) (wP 20 n.toNat)
theorem a63{u:Nat}(h:¬u<10):Nat.blt u 10=false:=by
 cases hb:Nat.blt u 10 with
 |false=>rfl
 |true=>exact absurd (by simpa[Nat.blt,Nat.lt_iff_add_one_le]using hb) h
theorem Q1:∀(k u:Nat),u<10^(k+1)→wP (k+1) u=Lib.decDigits u
 |0,u,h=>by
  have h:u<10:=by simpa using h
  rw[Lib.decDigits,dif_pos h,wP,show Nat.blt u 10=true from by simpa[Nat.blt,Nat.lt_iff_add_one_le]using h];rfl
 |k+1,u,h=>by
  by_cases hu:u<10
  ·rw[Lib.decDigits,dif_pos hu,wP,show Nat.blt u 10=true from by simpa[Nat.blt,Nat.lt_iff_add_one_le]using hu];rfl
  ·rw[Lib.decDigits,dif_neg hu,wP,a63 hu];rw[show(cond false [UInt8.ofNat (48+u)] (wP (k+1) (u/10)++[UInt8.ofNat (48+u%10)]))=wP (k+1) (u/10)++[UInt8.ofNat (48+u%10)]from rfl,
    Q1 k (u/10) (by rw[Nat.pow_succ]at h;omega)]
theorem Ld{n:Int}(h:-9223372036854775808≤n∧n≤9223372036854775807):B1 n=Lib.itoa n:=by
 unfold B1 Lib.itoa;by_cases hn:n<0
 ·rw[if_pos hn,show decide (n<0)=true from by simpa using hn,Q1 19 n.natAbs (by omega)];rfl
 ·rw[if_neg hn,show decide (n<0)=false from by simpa using hn,Q1 19 n.toNat (by omega)];rfl
theorem a64(w:World)(k:Nat)(os:Array Obj)(X:List Nat):Kp X w (Go.Sort.grow (w.drewN k) os):=
 ⟨rfl,rfl,rfl,by simp[Go.Sort.grow,World.drewN],λi hi _=>by
  show((w.drewN k).heap++os)[i]?=_;rw[Array.getElem?_append_left (by show i<w.heap.size;omega)];rfl⟩
theorem qo{w:World}{L:List aj}(h:S0 F0 L w∧aG L=[]){g:Nat}{cs:List Value}{M:Av}(hs:(aj.mD g cs).p M w):S0 F0 (.mD g cs::L) w∧aG (.mD g cs::L)=[]:=by
 have he:aG (.mD g cs::L)=[]:=by simp[aG,aj.mD,h.2]
 refine⟨?_,he⟩;have o6:SH F0 (aG L) w (.mD g cs::L) w:=h.1.add rfl ⟨hs.1,λhm=>by
  rcases hm with hm|hm
  ·exact hm
  ·rw[h.2]at hm;cases hm⟩
 rw[h.2]at o6;show SH F0 (aG (.mD g cs::L)) w _ w;rw[he];exact o6
end Go.V
namespace Go.Proofs.YtpobihiejncdgaaGreatDoor
open Go.V Go.RowKit
theorem XD{w:World}{M:Av}(h:(aj.mD 1 (Lib.pow10Tab.map λz=>Value.int .u64 z)).p M w):Lib.TabIs Tryz.prog w "internal/strconv.uint64pow10" .u64 Lib.pow10Tab:=by
 obtain⟨⟨T,fr,h1⟩,_⟩:=h;unfold Lib.TabIs World.var?;rw[show Tryz.prog.globalNamed "internal/strconv.uint64pow10" =some 1 from by kernel_rfl,Option.bind_some,h1]
end Go.Proofs.YtpobihiejncdgaaGreatDoor
namespace Go.Proofs.YtpobihiejncdgaaGreatDoor
open Go Go.V Go.RowKit
def GO(n:Int):Option J:=aB (-9223372036854775808≤n∧n≤9223372036854775807) (some (B1 n))
theorem a65(n:Int)(r:J)(hm:GO n=some r)(w:World)(hL:S0 F0 [aj.mD 1 (Lib.pow10Tab.map λz=>Value.int .u64 z)] w∧aG [aj.mD 1 (Lib.pow10Tab.map λz=>Value.int .u64 z)]=[]):
  dV Tryz.prog 131 ⟨[.int .i64 n,.int .i64 10]⟩ (.string ⟨⟨r⟩⟩) w:=by
 obtain⟨h,hm⟩:=bM hm;obtain rfl:=bO hm;refine sN (L:=[aj.mD 1 (Lib.pow10Tab.map λz=>Value.int .u64 z)]) hL (Tryz.call131 _) λw' hS=>?_;rw[Ld h];refine(Tryz.strconv_FormatInt_10 n h.1 h.2 w' (XD (hS.at 0 rfl))).mono ?_;rintro e w2 ⟨rfl,k,os,rfl⟩;refine⟨_,rfl,rfl,?_⟩;exact SH.gone hS (a64 w' k os _)
end Go.Proofs.YtpobihiejncdgaaGreatDoor
namespace Go.V
open Go Go.RowKit
section
variable {D:List Deferred}
theorem SH.tl{M:Av}{X:List Nat}{w0 w:World}{e:aj}{L:List aj}(h:SH M X w0 (e::L) w):SH M X w0 L w:=by
 have hn:=h.nd;rw[List.pairwise_cons]at hn;have fX:∀{b:Nat},b∈aG L→b∈aG (e::L):=λhb=>by simp only[aG,List.mem_append];exact .inr hb
 exact⟨h.kp,hn.2,λb hb=>h.lo b (fX hb),λb hb=>h.nm b (fX hb),h.mx,λf hf=>f.dB (h.ps f (List.mem_cons_of_mem _ hf)) λb hb=>by
  rcases hb with hb|hb
  ·exact .inl hb
  ·exact .inr (fX hb)⟩
theorem XE{α:Type}:∀(l:List α)(k:Nat),(l.eraseIdx k).take k=l.take k
 |[],_=>rfl
 |_::_,0=>by simp
 |x::r,k+1=>by simp only[List.eraseIdx_cons_succ,List.take_succ_cons,XE r k]
theorem SH.a66{α:Type}{E:TypeId}{T:Ty α}{M:Av}{X:List Nat}{w0 w:World}{L:List aj}{qs:List (Hd α)}(k:Nat)(h:SH M X w0 (.fm E T qs::L) w):SH M X w0 (.fm E T (qs.take k)::L) w:=by
 have h1:=SH.unpack h;have e:iQ E T qs++L=iQ E T (qs.take k)++(iQ E T (qs.drop k)++L):=by
  rw[←List.append_assoc];congr 1;simp only[iQ,←List.map_append,List.take_append_drop]
 rw[e]at h1;have drop:∀(A:List aj){B:List aj},SH M X w0 (A++B) w→SH M X w0 B w:=by
  intro A
  induction A with
  |nil=>exact λh=>h
  |cons x r ih=>exact λh=>ih (SH.tl h)
 have h2:SH M X w0 (iQ E T (qs.drop k)++(iQ E T (qs.take k)++L)) w:=h1.perm (by
  rw[←List.append_assoc,←List.append_assoc];exact List.perm_append_comm.append_right _)
 exact SH.pack (drop _ h2)
theorem XF{P:Program}{a:Act}{w:World}{n:Nat}{l:SF}{M:Av}{α:Type}{T:Ty α}{d:Nat}{t E ty:TypeId}{x hi:Operand}{pos:String}{after:Array Edge}{g:Gh}{q:List α}{n0 c0:Nat}{a0:Option Addr}{k:IntKind}(j:Int)(H:ay D n l a)(hS:S0 M [.own E T q g] w)
  (hx:ev l [] x=some (.slice a0 n0 c0))(ha:g.a=a0)(hc:g.c=c0)(hn:q.length=n0)(hh:ev l [] hi=some (.int k j))(hu:P.underlying t=some (.slice E))(hz:(P.info? E).map (·.size)=some T.z)(cY:0≤j∧j≤ln q):
  bc P ⟨some d,.slice t x none (some hi) none,ty,pos,after,none⟩ a w λv w'=>v=.slice g.a (q.take j.toNat).length g.c∧SH M (aG [.own E T q g]) w [.own E T (q.take j.toNat) g] w':=by
 subst ha hc hn;have ho:=hS.ow 0 rfl;have Gz:=ho.cp;have hj:j.toNat≤q.length:=by unfold ln at cY;omega
 have gk:(sizeOf E).run P w=.ok T.z w:=ke hz;have hb:(Instr.sliceBounds true q.length g.c none (some (.int k j)) none).run P w=.ok (0,j.toNat,g.c) w:=by
  have q2:j.toNat≤g.c:=by omega
  have q5:(j:Int)≤(g.c:Int):=by omega
  have q6:0≤j:=by omega
  simp[Instr.sliceBounds,Instr.sliceBound,asIntOf,q5,q6]
 have hm:(if g.c=0 then g.a else g.a.map (·.add 0))=g.a:=by
  cases pj:g.a with
  |none=>simp
  |some b=>simp only[Option.map_some];rw[add_zero'];exact ite_self _
 have hle:(q.take j.toNat).length=j.toNat:=by rw[List.length_take];omega
 refine bc.pa (v:=.slice g.a (q.take j.toNat).length g.c) (w':=w) ?_ ⟨rfl,SH.step hS (Kp.refl _ _) (by simp) (λb hb=>.inr hb) ?_⟩
 ·rw[hle];simp[execOp,H.ev (eZ a) hx,H.ev (eZ a) hh,Instr.sliceAt,run_underlying hu,Instr.slice,hb,gk,hm]
 ·intro f hf;rw[List.mem_singleton]at hf;subst hf;have XG:dC (q.take j.toNat) g.s 0=(dC q g.s 0).take j.toNat:=by
   have h1:=Gy (q.take j.toNat) (q.drop j.toNat) g.s 0;rw[List.take_append_drop]at h1;rw[h1,List.take_left' (by rw[er,hle])]
  refine⟨⟨?_,ho.ow.lt,?_⟩,λi hi=>?_⟩
  ·obtain⟨h1,h2⟩:=ho.ow.row;rw[er]at h1 h2;rw[er,hle];refine⟨?_,?_⟩
   ·rw[XG,yG (enc:=ic T) (z:=T.z) (λp=>T.len p.1 p.2),List.length_take,er];congr 1;omega
   ·rcases h2 with⟨h0,h3⟩|⟨gb,cap,fP,hv,h3,h4,h5,h6,h7,h8⟩
    ·have e1:j.toNat=0:=by omega
     rw[e1];simp only[Value.slice.injEq]at h0;exact .inl ⟨by rw[h0.1,h0.2.2],rfl⟩
    ·simp only[Value.slice.injEq]at hv;refine .inr ⟨gb,cap,fP,by rw[hv.1,hv.2.2],h3,h4,by omega,h6,h7,?_⟩;rw[XG,List.map_take];have h9:∀(A:List (List Value))(z m k:Nat),(∀x∈A,x.length=z)→(A.take m).flatten=(A.flatten).take (m*z):=by
      intro A
      induction A with
      |nil=>intro z m k _;simp
      |cons x r ih=>
       intro z m k hA;cases m with
       |zero=>simp
       |succ m=>
        have hx:=hA x (by simp);rw[List.take_succ_cons,List.flatten_cons,List.flatten_cons,ih z m k (λy hy=>hA y (List.mem_cons_of_mem _ hy)),show(m+1)*z=x.length+m*z from by rw[hx,Nat.add_mul];omega,List.take_length_add_append]
     rw[h9 _ T.z _ 0 (by intro x hx;obtain⟨p,_,rfl⟩:=List.mem_map.1 hx;exact T.len p.1 p.2),←h8,List.take_take,Nat.min_eq_left (Nat.mul_le_mul_right _ hj)]
  ·rw[er,hle];have:=ho.ow.ln;rw[er]at this;omega
  ·have h1:i<q.length:=by rw[hle]at hi;omega
   have h2:=ho.dW i h1;rw[List.getElem_take];refine T.dB h2 λb hb=>?_;exact hb
theorem XH{n:Nat}{M:Av}{X:List Nat}{w0:World}{l:SF}{N R:dx}{ES:List (Nat×dx)}{P:Program}{id d e:Nat}{E y0 y1 y2 y3:TypeId}{p0 p1 p2 p3:String}{a0 a1 a2 a3:Array Edge}{z:Code}{L:List aj}(ks:List Nat)(vs:List Value)
  (h:∀c:Bool,T D n M X w0 ((e,[],.bool c)::fz ks vs) L λa w=>z.wp P (Qs N ES R) a w)
  (hk:∀u v,aV (jC (jC l d [] u) e [] v) (e::ks)=some ((e,[],v)::fz ks vs):=by exact λ_ _=>rfl)
  (hd:Nat.blt d n=true:=by rfl)(he:Nat.blt e n=true:=by rfl)(hx:∀u,ev (jC l d [] u) [] (.tmp d)=some u:=by exact λ_=>rfl)(ht:∀u c,ev (jC l d [] u) [] (.const (.bool c))=some (.bool c):=by exact λ_ _=>rfl)
  (hz:(P.info? E).map (·.zero)=some (some (.bool false)):=by kernel_rfl)(gk:(P.info? E).map (·.size)=some 1:=by kernel_rfl)(hm:P.follows .mixedOrders=true:=by kernel_rfl)
  (hl:∀b c,At P (jC l d [] (.pointer (some ⟨b,0,none⟩))) [] (.load E (.tmp d)) [.bool c]=some ⟨.bool c,[],some (V.aQ ⟨b,0,none⟩ (.bool c))⟩:=by intros;kernel_rfl)
  (r0:Region.ready .any #[⟨some d,.alloc E,y0,p0,a0,none⟩,⟨none,.store E (.tmp d) (.const (.bool true)),y1,p1,a1,none⟩,⟨none,.store E (.tmp d) (.const (.bool false)),y2,p2,a2,none⟩,⟨some e,.load E (.tmp d),y3,p3,a3,none⟩] #[false,false,false,false]=[0]:=by kernel_rfl)
  (r1:Region.ready .any #[⟨some d,.alloc E,y0,p0,a0,none⟩,⟨none,.store E (.tmp d) (.const (.bool true)),y1,p1,a1,none⟩,⟨none,.store E (.tmp d) (.const (.bool false)),y2,p2,a2,none⟩,⟨some e,.load E (.tmp d),y3,p3,a3,none⟩] #[true,false,false,false]=[1,2]:=by kernel_rfl)
  (r2:Region.ready .any #[⟨some d,.alloc E,y0,p0,a0,none⟩,⟨none,.store E (.tmp d) (.const (.bool true)),y1,p1,a1,none⟩,⟨none,.store E (.tmp d) (.const (.bool false)),y2,p2,a2,none⟩,⟨some e,.load E (.tmp d),y3,p3,a3,none⟩] #[true,true,false,false]=[2]:=by kernel_rfl)
  (r3:Region.ready .any #[⟨some d,.alloc E,y0,p0,a0,none⟩,⟨none,.store E (.tmp d) (.const (.bool true)),y1,p1,a1,none⟩,⟨none,.store E (.tmp d) (.const (.bool false)),y2,p2,a2,none⟩,⟨some e,.load E (.tmp d),y3,p3,a3,none⟩] #[true,false,true,false]=[1]:=by kernel_rfl)
  (r4:Region.ready .any #[⟨some d,.alloc E,y0,p0,a0,none⟩,⟨none,.store E (.tmp d) (.const (.bool true)),y1,p1,a1,none⟩,⟨none,.store E (.tmp d) (.const (.bool false)),y2,p2,a2,none⟩,⟨some e,.load E (.tmp d),y3,p3,a3,none⟩] #[true,true,true,false]=[3]:=by kernel_rfl)
  (r5:Region.ready .any #[⟨some d,.alloc E,y0,p0,a0,none⟩,⟨none,.store E (.tmp d) (.const (.bool true)),y1,p1,a1,none⟩,⟨none,.store E (.tmp d) (.const (.bool false)),y2,p2,a2,none⟩,⟨some e,.load E (.tmp d),y3,p3,a3,none⟩] #[true,true,true,true]=[]:=by kernel_rfl):
  T D n M X w0 l L λa w=>(Code.seq (.region id #[⟨some d,.alloc E,y0,p0,a0,none⟩,⟨none,.store E (.tmp d) (.const (.bool true)),y1,p1,a1,none⟩,⟨none,.store E (.tmp d) (.const (.bool false)),y2,p2,a2,none⟩,⟨some e,.load E (.tmp d),y3,p3,a3,none⟩] true) z).wp P (Qs N ES R) a w:=by
 intro a w H hS;refine p7 (wp_region_any hm ?_);replace hS:=hS.below (⟨rfl,rfl,rfl,Nat.le_refl _,λ_ _=>rfl⟩:Below w.heap.size w {w with drawn:=w.drawn+1});generalize{w with drawn:=w.drawn+1}=w2 at hS⊢;refine L3 (fuel:=3) r0 rfl rfl (nz [.bool false] (z:=.bool false) (SH.AM (La:=[]) (Lr:=L) hS) hz rfl) ?_;rintro _ w3 ⟨b,rfl,hq⟩;have DW:=SH.AN (La:=[]) (Lr:=L) hS hq;have H1:=ay.set (H:=H) (v:=.pointer (some ⟨b,0,none⟩)) hd;clear hq hS H;have fin:∀(c:Bool)(a':Act)(w4:World),ay D n (jC l d [] (.pointer (some ⟨b,0,none⟩))) a'→SH M X w0 ([.cq b [.bool c]]++L) w4→wpAny P .any #[⟨some d,.alloc E,y0,p0,a0,none⟩,⟨none,.store E (.tmp d) (.const (.bool true)),y1,p1,a1,none⟩,⟨none,.store E (.tmp d) (.const (.bool false)),y2,p2,a2,none⟩,⟨some e,.load E (.tmp d),y3,p3,a3,none⟩] (Qs (λa w=>z.wp P (Qs N ES R) a w) ES R) 1 #[true,true,true,false] a' w4:=by
  intro c a' w4 H hS;refine L3 (fuel:=0) r4 rfl rfl (Gw [.bool c] (.bool c) (some (V.aQ ⟨b,0,none⟩ (.bool c))) [] H rfl (hl b c) (λq e=>by cases e;exact(hS.bk 0 rfl).aQ rfl)) ?_;rintro _ w5 ⟨rfl,hq⟩;exact⟨r5,h c _ _ ((ay.set (H:=H) he).aV (hk _ _)) (SH.tl (hS.below hq.below))⟩
 refine a5b (fuel:=2) (i:=1) (j:=2) r1 rfl rfl rfl rfl (gn [.bool true] H1 (SH.AM (La:=[.cq b [.bool false]]) (Lr:=L) DW) (hx _) (ht _ _) gk rfl rfl rfl) (gn [.bool false] H1 (SH.AM (La:=[.cq b [.bool false]]) (Lr:=L) DW) (hx _) (ht _ _) gk rfl rfl rfl) ?_ ?_
 ·rintro _ w4 hq;have qg:=SH.AN (La:=[.cq b [.bool false]]) (Lr:=L) DW hq;refine L3 (fuel:=1) r2 rfl rfl (gn [.bool false] H1 (SH.AM (La:=[.cq b [.bool true]]) (Lr:=L) qg) (hx _) (ht _ _) gk rfl rfl rfl) ?_;rintro _ w5 mc;exact fin false _ _ H1 (SH.AN (La:=[.cq b [.bool true]]) (Lr:=L) qg mc)
 ·rintro _ w4 hq;have qg:=SH.AN (La:=[.cq b [.bool false]]) (Lr:=L) DW hq;refine L3 (fuel:=1) r3 rfl rfl (gn [.bool true] H1 (SH.AM (La:=[.cq b [.bool false]]) (Lr:=L) qg) (hx _) (ht _ _) gk rfl rfl rfl) ?_;rintro _ w5 mc;exact fin true _ _ H1 (SH.AN (La:=[.cq b [.bool false]]) (Lr:=L) qg mc)
end
end Go.V
namespace Go.Proofs.YtpobihiejncdgaaGreatDoor
open Go Go.V Go.RowKit
theorem a67(u:Nat)(h1:1≤u)(h2:u<18446744073709551616)(w:World)(hL:S0 F0 [aj.mD 1 (Lib.pow10Tab.map λz=>Value.int .u64 z)] w∧aG [aj.mD 1 (Lib.pow10Tab.map λz=>Value.int .u64 z)]=[]):
  dV Tryz.prog 198 ⟨[.int .u64 u]⟩ (.int .i64 (Lib.nDigits u)) w:=by
 refine sN (L:=[aj.mD 1 (Lib.pow10Tab.map λz=>Value.int .u64 z)]) hL (Tryz.call198 _) λw' hS=>?_;refine(Tryz.internal_strconv_numDigits u h1 h2 w' (XD (hS.at 0 rfl))).mono ?_;rintro e w2 ⟨rfl,rfl⟩;exact⟨_,rfl,rfl,SH.gone hS (Kp.refl _ _)⟩
theorem a68(u:Nat)(h2:u<18446744073709551616)(b:Nat):GI Tryz.prog 199 ⟨[.slice (some ⟨b,0,none⟩) (Lib.nDigits u) 24,.int .u64 u]⟩ [aj.row .u8 b (List.replicate 24 0) 24] (λ(_:Unit)=>.tuple ⟨[]⟩) (λ_=>[aj.row .u8 b (ax (Lib.decDigits u)++List.replicate (24-Lib.nDigits u) 0) 24]):=by
 intro M w hS;refine⟨Tryz.call199 _,?_⟩;have hr:=(hS.rw 0 rfl).1;obtain⟨T,sp,fr,hT,hf⟩:=hr.get;have aM:=hr.lt;have h20:=Lib.nDigits_le20 u h2;have hH:Go.Sort.Holds (λ(b:UInt8)=>Value.int .u8 (b.toNat:Int)) w b 0 (Array.replicate (Lib.nDigits u) (0:UInt8)):=by
  intro j hj;have Gl:j<Lib.nDigits u:=by simpa using hj
  refine⟨?_,?_⟩
  ·have h1:=hr.cell (i:=j) (by simp;omega);rw[Nat.zero_add,h1,getElem!_pos _ j hj,List.getElem_replicate,Array.getElem_replicate];rfl
  ·unfold World.frozen?;rw[hT];simp only[Nat.zero_add];rcases hf with hf|hf
   ·simp[hf]
   ·simp only[List.length_replicate]at hf;have:¬fr.1≤j:=by omega
    simp[this]
 have hc:=Tryz.internal_strconv_formatBase10 b 0 24 u (Array.replicate (Lib.nDigits u) 0) w hH (by rw[Array.size_replicate];exact Lib.lt_pow_nDigits u) h2 (by rw[Array.size_replicate];omega);rw[Array.size_replicate]at hc;refine hc.mono ?_;rintro e w' ⟨rfl,n,v',dk,rfl,hF⟩;refine⟨_,rfl,(),rfl,?_⟩;have yX:dk.toList=Lib.decDigits u:=by
  apply List.ext_getElem
  ·rw[Array.length_toList,hF.size,Lib.decDigits_length]
  ·intro j h1 h3;rw[Lib.row_is_numeral hF j h3,getElem!_pos dk j (by simpa using h1)];simp
 have gk:=hF.size;have um:Kp [b] w ((Go.Sort.putRow (λ(b:UInt8)=>Value.int .u8 (b.toNat:Int)) w b 0 dk).drewN n):=by
  refine⟨rfl,rfl,rfl,?_,?_⟩
  ·show w.heap.size≤(w.heap.modify b _).size;simp
  ·intro q hq cQ;show(w.heap.modify b _)[q]?=_;rw[Array.getElem?_modify,if_neg (λh=>cQ (by simp[h]))]
 refine SH.step hS um (by simp) (λb' hb=>.inr hb) ?_;intro e he;rw[List.mem_singleton]at he;subst he;have hlen:(ax (Lib.decDigits u)++List.replicate (24-Lib.nDigits u) (0:Int)).length=24:=by simp[ax,Lib.decDigits_length];omega
 refine⟨⟨?_,T,sp,fr,?_,?_⟩,?_⟩
 ·exact Nat.lt_of_lt_of_le aM um.size
 ·show(w.heap.modify b (Go.Sort.onCells (Go.Sort.putCells _ 0 dk)))[b]?=_;rw[Array.getElem?_modify,if_pos rfl,hT];simp only[Option.map_some,Go.Sort.onCells,Option.some.injEq,Obj.cells.injEq,and_true];apply Array.ext';simp only[Go.Sort.putCells];apply List.ext_getElem?;intro k;rw[Array.toList_mapIdx,List.getElem?_mapIdx];by_cases hk:k<Lib.nDigits u
  ·have h1:k<(Lib.decDigits u).length:=by rw[Lib.decDigits_length];exact hk
   rw[List.getElem?_append_left (by simp;omega),List.getElem?_append_left (by rw[List.length_map,hlen];omega),List.getElem?_map,List.getElem?_map,List.getElem?_append_left (by simp[ax];exact h1)];rw[List.getElem?_replicate,if_pos (by omega)];simp only[Option.map_some];rw[if_pos (by omega),Nat.sub_zero,←Lib.row_is_numeral hF k h1];simp[ax,h1]
  ·by_cases dq:k<24
   ·rw[List.getElem?_append_left (by simp;omega),List.getElem?_append_left (by rw[List.length_map,hlen];omega),List.getElem?_map,List.getElem?_map,List.getElem?_append_right (by simp[ax,Lib.decDigits_length];omega)];rw[List.getElem?_replicate,if_pos (by omega),List.getElem?_replicate,if_pos (by simp[ax,Lib.decDigits_length];omega)];simp only[Option.map_some];rw[if_neg (by omega)]
   ·rw[List.getElem?_append_right (by simp;omega),List.getElem?_append_right (by rw[List.length_map,hlen];omega)];rw[List.length_map,List.length_map,hlen,List.length_replicate];cases sp[k-24]? with
    |none=>rfl
    |some x=>simp only[Option.map_some];rw[if_neg (by omega)]
 ·rcases hf with hf|hf
  ·exact .inl hf
  ·rw[hlen];simp only[List.length_replicate]at hf;exact .inr hf
 ·unfold V.ln;rw[hlen];rfl
end Go.Proofs.YtpobihiejncdgaaGreatDoor
