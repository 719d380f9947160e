/- Laws that the proof needs, part 0. Conditions: none. -/
import Derived.Conc.Own
import Derived.Test.YteeagjkaflglpaaGreatRows
import Derived.Laws.Sem
import Derived.WalkKit
import Derived.WalkSpells
import Derived.WalkLawsBesides
import Derived.Conc.WgGenN3
import Derived.Conc.Beside
set_option maxRecDepth 100000
set_option maxHeartbeats 8000000
set_option linter.all false
def DU:=@Array.all_eq_true_iff_forall_mem
def sE:=@Array.any_eq_true'
def Cz:=@Array.ext'
def L1:=@Array.ext_getElem?
def L3:=@Array.foldl_toList
def T4:=@Array.forIn_toList
def yq:=@Array.getD_eq_getD_getElem?
def vG:=@Array.getElem?_append_left
def yr:=@Array.getElem?_append_right
def ji:=@Array.getElem?_eq_getElem
def mO:=@Array.getElem?_eq_none
def eP:=@Array.getElem?_eq_some_iff
def qF:=@Array.getElem?_map
def sL:=@Array.getElem?_modify
def qG:=@Array.getElem?_push
def ue:=@Array.getElem?_replicate
def eY:=@Array.getElem?_setIfInBounds_ne
def jE:=@Array.getElem?_setIfInBounds_self_of_lt
def Iz:=@Array.mapM_eq_mapM_toList
def DV:=@Array.mem_append
def l7:=@Array.mem_of_getElem?
def Bd:=@Array.mk.injEq
def wL:=@Array.size_append
def ez:=@Bool.and_eq_true
def iq:=@Bool.false_eq_true
def yu:=@Bool.not_eq_true'
def L4:=@Bool.or_eq_true
def L5:=@Classical.byContradiction
def iu:=@Classical.choose_spec
def yw:=@Function.comp_def
def Ra:=@Go.Conc.Goes.stop
def l8:=@Iff.rfl
def yx:=@Int.mul_nonneg
def ql:=@Int.toNat_natCast
def jF:=@List.all_eq_true
def qm:=@List.cons.injEq
def qn:=@List.cons_append
def qH:=@List.drop_eq_getElem_cons
def l9:=@List.eq_nil_of_length_eq_zero
def L6:=@List.exists_of_findSome?_eq_some
def Rb:=@List.filter_eq_nil_iff
def ky:=@List.flatMap_cons
def uf:=@List.foldl_append
def mP:=@List.foldl_cons
def gU:=@List.getD_eq_getElem?_getD
def kz:=@List.getElem?_append_left
def mQ:=@List.getElem?_append_right
def Be:=@List.getElem?_cons_succ
def L8:=@List.getElem?_cons_zero
def ew:=@List.getElem?_eq_getElem
def IA:=@List.getElem?_eq_none
def gy:=@List.getElem?_eq_some_iff
def mR:=@List.getElem?_map
def IB:=@List.getElem?_toArray
def lI:=@List.getElem_append_left
def qI:=@List.getElem_append_right
def IC:=@List.getElem_cons_succ
def mS:=@List.getElem_cons_zero
def dt:=@List.getElem_mem
def fX:=@List.length_append
def dW:=@List.length_cons
def kV:=@List.length_map
def fC:=@List.length_nil
def qJ:=@List.length_set
def yy:=@List.length_take
def nQ:=@List.map_append
def jP:=@List.map_cons
def qK:=@List.map_nil
def gl:=@List.mem_append
def eQ:=@List.mem_cons
def eI:=@List.mem_cons_of_mem
def eR:=@List.mem_cons_self
def ug:=@List.mem_filter
def lJ:=@List.mem_flatMap
def jj:=@List.mem_map
def nR:=@List.mem_of_getElem?
def oS:=@List.mem_or_eq_of_mem_set
def eJ:=@List.mem_range
def fD:=@List.mem_singleton
def DX:=@List.mem_toArray
def sM:=@List.nil_append
def sN:=@List.not_mem_nil
def Rc:=@List.range'_succ
def kA:=@List.range_succ
def iP:=@List.size_toArray
def kX:=@List.take_length
def qL:=@List.take_of_length_le
def gP:=@List.take_succ_eq_append_getElem
def yz:=@Nat.add_assoc
def mT:=@Nat.add_zero
def yA:=@Nat.beq_refl
def gE:=@Nat.eq_of_beq_eq_true
def nS:=@Nat.eq_zero_or_pos
def sO:=@Nat.le_of_ble_eq_true
def cz:=@Nat.le_refl
def sP:=@Nat.le_succ
def Rd:=@Nat.le_succ_of_le
def cJ:=@Nat.le_trans
def dl:=@Nat.lt_of_lt_of_le
def yB:=@Nat.lt_of_not_le
def eA:=@Nat.lt_or_ge
def oq:=@Nat.mul_le_mul_right
def ot:=@Nat.mul_one
def vH:=@Nat.ne_of_beq_eq_false
def lf:=@Nat.sub_self
def cB:=@Nat.zero_add
def fN:=@Nat.zero_le
def fO:=@Ne.symm
def VW:=@Option.bind_eq_bind
def ti:=@Option.bind_eq_some_iff
def vI:=@Option.bind_some
def kC:=@Option.getD_some
def tj:=@Option.isSome_none
def ij:=@Option.map_eq_some_iff
def iX:=@Option.map_some
def cE:=@Option.some.inj
def fI:=@Option.some.injEq
def mU:=@Go.Sem.runT_eq
def qM:=@beq_iff_eq
def cM:=@congrArg
def jT:=@decide_eq_false
def jk:=@decide_eq_true_eq
def eo:=@if_false
def cr:=@if_neg
def cx:=@if_pos
def cX:=@if_true
def dQ:=@of_decide_eq_false
def cY:=@of_decide_eq_true
def ou:=@or_false
def GI:=@Go.Conc.stepG_block
def jl:=@Go.Conc.stepG_region
def iH:=@Go.Conc.stepG_region_end
def iv:=@Go.Conc.stepG_seq
def Sn:=@Go.Conc.stepG_skip
def lV:=@Go.wp_mono
def ow:=@Go.wp_region
def jU:=@Go.wp_seq
abbrev cd:=Go.World
abbrev ce:=Go.Value
abbrev cj:=Go.Goroutine
abbrev cf:=Go.Program
abbrev cg:=Go.TypeId
abbrev cm:=Go.FuncId
abbrev dj:=Go.Operand
namespace Go.Proofs.W
def jm(n:Nat):Code->Option Code
 | .region i o b=>if i=n then some (.region i o b)else none
 | .loop c=>jm n c
 | .seq a b=>(jm n a).or (jm n b)
 | .block _ c=>jm n c
 | .scope c=>jm n c
 | .cond _ a b=>(jm n a).or (jm n b)
 |_=>none
def opsOf:Code->Array Oper
 | .region _ a _=>a
 |_=>#[]
def fH(a:Func)(n:Nat):Code:=(a.body.bind (jm n)).getD .skip
end Go.Proofs.W
variable{m k i j o p s d:Nat}{x y z:ce}{W X:Array ce}{M Y:List ce}{h:Go.Addr}
namespace Go.cF
structure cR where
 S:cm->Bool
 dim:Bool
 ok:cm->Code->Bool
 df:cm->Bool
 fs:Array Func
 hole:cm->Bool
 sh:Nat->Option Nat:=λ_=>none
 r:Nat->Nat->Prop
 inj₁:∀b c c',r b c->r b c'->c=c'
 inj₂:∀b b' c,r b c->r b' c->b=b'
structure cR.Le(ρ mV:cR):Prop where
 s:ρ.S=mV.S
 d:ρ.dim=mV.dim
 o:ρ.ok=mV.ok
 f:ρ.fs=mV.fs
 h:ρ.hole=mV.hole
 w:ρ.df=mV.df
 g:ρ.sh=mV.sh
 r:∀b c,ρ.r b c->mV.r b c
def cR.Le.refl(ρ:cR):cR.Le ρ ρ:=⟨rfl,rfl,rfl,rfl,rfl,rfl,rfl,λ_ _ h=>h⟩
theorem cR.Le.trans{a b c:cR}(h:cR.Le a b)(k:cR.Le b c):cR.Le a c:=⟨h.s.trans k.s,h.d.trans k.d,h.o.trans k.o,h.f.trans k.f,h.h.trans k.h,h.w.trans k.w,h.g.trans k.g,λx y z=>k.r _ _ (h.r x y z)⟩
def cR.ext(ρ:cR)(n m:Nat)(d:∀c,¬ρ.r n c)(e:∀b,¬ρ.r b m):cR where
 S:=ρ.S
 dim:=ρ.dim
 ok:=ρ.ok
 df:=ρ.df
 fs:=ρ.fs
 hole:=ρ.hole
 sh:=ρ.sh
 r:=λb c=>ρ.r b c\/(b=n/\c=m)
 inj₁:=by intro b c f h a;rcases h with h|h;rcases a with a|a;exact ρ.inj₁ _ _ _ h a;rw[a.1]at h;exact absurd h (d _);rcases a with a|a;rw[h.1]at a;exact absurd a (d _);rw[h.2,a.2]
 inj₂:=by intro b c f h a;rcases h with h|h;rcases a with a|a;exact ρ.inj₂ _ _ _ h a;rw[a.2]at h;exact absurd h (e _);rcases a with a|a;rw[h.2]at a;exact absurd a (e _);rw[h.1,a.1]
@[simp] def cR.VX (ρ:cR) (n m:Nat) (a:∀c,¬ρ.r n c) (d:∀b,¬ρ.r b m):(ρ.ext n m a d).fs=ρ.fs:=rfl
def cR.tk(ρ:cR)(n m:Nat)(a:∀c,¬ρ.r n c)(d:∀b,¬ρ.r b m):cR.Le ρ (ρ.ext n m a d):=⟨rfl,rfl,rfl,rfl,rfl,rfl,rfl,λ_ _ h=>.inl h⟩
def cR.rW(ρ:cR)(n m:Nat)(a:∀c,¬ρ.r n c)(d:∀b,¬ρ.r b m):(ρ.ext n m a d).r n m:=.inr ⟨rfl,rfl⟩
def cR.Def(ρ:cR):Prop:=∃f,ρ.df f=true
def cR.Def.mono{ρ a:cR}(b:cR.Le ρ a)(h:ρ.Def):a.Def:=by obtain⟨f,h⟩:=h;exact⟨f,b.w▸h⟩
def wM(ρ:cR)(v:ce):Prop:=ρ.Def\/∀t k n,v≠ .iface t (.int k n)
theorem wM.mono{ρ a:cR}(b:cR.Le ρ a)(h:wM ρ x):wM a x:=h.imp (.mono b) id
inductive AR (ρ:cR):Addr->Addr->Prop
 |mk {b c:Nat} (o:Nat) (s:Option Nat) (h:ρ.r b c):AR ρ ⟨b,o,s⟩ ⟨c,o+(ρ.sh c).getD 0,s⟩
inductive VR (ρ:cR):ce->ce->Prop
 |bool (b:Bool):VR ρ (.bool b) (.bool b)
 |int (k:IntKind) (n:Int):VR ρ (.int k n) (.int k n)
 |string (s:ByteArray):VR ρ (.string s) (.string s)
 |iw:VR ρ (.pointer none) (.pointer none)
 |ptr {a a':Addr} (h:AR ρ a a'):VR ρ (.pointer (some a)) (.pointer (some a'))
 |fc (l c:Nat):VR ρ (.slice none l c) (.slice none l c)
 |slice {a a':Addr} (l c:Nat) (h:AR ρ a a'):VR ρ (.slice (some a) l c) (.slice (some a') l c)
 |qN:VR ρ (.map none) (.map none)
 |map {r r':Nat} (h:ρ.r r r'):VR ρ (.map (some r)) (.map (some r'))
 |px:VR ρ (.chan none) (.chan none)
 |chan {r r':Nat} (h:ρ.r r r'):VR ρ (.chan (some r)) (.chan (some r'))
 |func {f:cm} {fs VY cs tl:Array ce} (hS:ρ.S f=true) (h1:fs.size=VY.size) (h2:∀(i:Nat) v v',fs[i]? =some v->VY[i]? =some v'->VR ρ v v')
  (h3:cs.size=tl.size) (h4:∀(i:Nat) v v',cs[i]? =some v->tl[i]? =some v'->VR ρ v v'):VR ρ (.func (.func f) fs cs) (.func (.func f) VY tl)
 |yield {l l':Nat} (h:ρ.r l l'):VR ρ (.func (.yield l) #[] #[]) (.func (.yield l') #[] #[])
 |nilFunc:VR ρ .nilFunc .nilFunc
 |nilIface:VR ρ .nilIface .nilIface
 |iface (t:cg) {v v':ce} (h:VR ρ v v'):VR ρ (.iface t v) (.iface t v')
 |agg {cs tl:Array ce} (h1:cs.size=tl.size) (h2:∀(i:Nat) v v',cs[i]? =some v->tl[i]? =some v'->VR ρ v v'):VR ρ (.agg cs) (.agg tl)
 |tuple {cs tl:Array ce} (h1:cs.size=tl.size) (h2:∀(i:Nat) v v',cs[i]? =some v->tl[i]? =some v'->VR ρ v v'):VR ρ (.tuple cs) (.tuple tl)
 |CB (hd:ρ.dim=true) (a:Addr):VR ρ (.tuple #[]) (.pointer (some a))
structure eT(ρ:cR)(cs tl:Array ce):Prop where
 size:cs.size=tl.size
 at_:∀(i:Nat) v v',cs[i]? =some v->tl[i]? =some v'->VR ρ v v'
inductive qo (ρ:cR):List ce->List ce->Prop
 |nil:qo ρ [] []
 |cons {v v':ce} {l l':List ce} (h:VR ρ v v') (t:qo ρ l l'):qo ρ (v::l) (v'::l')
theorem qo.length{ρ:cR}(h:qo ρ M Y):M.length=Y.length:=by
 induction h with
 |nil=>rfl
 |cons _ _ a=>simp[a]
def qo.get{ρ:cR}(h:qo ρ M Y):∀(i:Nat) v a,M[i]? =some v->Y[i]? =some a->VR ρ v a:=by
 induction h with
 |nil=>intro i v a h;simp at h
 |cons h t d=>
  intro i v a b c;cases i with
  |zero=>simp at b c;subst b;subst c;exact h
  |succ i=>simp at b c;exact d i v a b c
theorem qo.of{ρ:cR}:∀{l a:List ce},l.length=a.length->(∀(i:Nat) v b,l[i]? =some v->a[i]? =some b->VR ρ v b)->qo ρ l a
 |[],[],_,_=>.nil
 |[],_::_,h,_=>by simp at h
 |_::_,[],h,_=>by simp at h
 |v::l,b::a,h,k=>.cons (k 0 v b rfl rfl) (qo.of (by simpa using h) λi x c d e=>k (i+1) x c (by simpa using d) (by simpa using e))
def eT.list{ρ:cR}(h:eT ρ W X):qo ρ W.toList X.toList:=
 qo.of (by simpa using h.size) λi v a b c=>h.at_ i v a (by simpa using b) (by simpa using c)
def qo.array{ρ:cR}(h:qo ρ M Y):eT ρ M.toArray Y.toArray:=
 ⟨by simpa using h.length,λi v a b c=>h.get i v a (by simpa using b) (by simpa using c)⟩
def eT.mh{ρ:cR}(h:qo ρ W.toList X.toList):eT ρ W X:=by have:=h.array;simpa using this
def qo.append{ρ:cR}{b a:List ce}(h:qo ρ M Y)(k:qo ρ b a):qo ρ (M++b) (Y++a):=by
 induction h with
 |nil=>exact k
 |cons h _ c=>exact .cons h c
theorem qo.drop{ρ:cR}(h:qo ρ M Y)(n:Nat):qo ρ (M.drop n) (Y.drop n):=by
 induction h generalizing n with
 |nil=>simp;exact .nil
 |cons h t a=>
  cases n with
  |zero=>simpa using qo.cons h t
  |succ n=>simpa using a n
theorem qo.take{ρ:cR}(h:qo ρ M Y)(n:Nat):qo ρ (M.take n) (Y.take n):=by
 induction h generalizing n with
 |nil=>simp;exact .nil
 |cons h t a=>
  cases n with
  |zero=>simp;exact .nil
  |succ n=>simpa using qo.cons h (a n)
def VR.mono{ρ f:cR}(e:cR.Le ρ f)(h:VR ρ x y):VR f x y:=by
 have m:∀{a p},AR ρ a p->AR f a p:=λh=>by cases h with|mk o s h=>rw[e.g];exact .mk o s (e.r _ _ h)
 induction h with
 |bool b=>exact .bool b
 |int k n=>exact .int k n
 |string s=>exact .string s
 |iw=>exact .iw
 |ptr h=>exact .ptr (m h)
 |fc l c=>exact .fc l c
 |slice l c h=>exact .slice l c (m h)
 |qN=>exact .qN
 |map h=>exact .map (e.r _ _ h)
 |px=>exact .px
 |chan h=>exact .chan (e.r _ _ h)
 |func q i _ u _ j v=>exact .func (e.s▸q) i j u v
 |yield h=>exact .yield (e.r _ _ h)
 |nilFunc=>exact .nilFunc
 |nilIface=>exact .nilIface
 |iface t _ w=>exact .iface t w
 |agg i _ j=>exact .agg i j
 |tuple i _ j=>exact .tuple i j
 |CB z a=>exact .CB (e.d▸z) a
theorem eT.mono{ρ c:cR}(d:cR.Le ρ c)(h:eT ρ W X):eT c W X:=⟨h.size,λi x e a b=>(h.at_ i x e a b).mono d⟩
theorem qo.mono{ρ a:cR}(b:cR.Le ρ a)(h:qo ρ M Y):qo a M Y:=by
 induction h with
 |nil=>exact .nil
 |cons h _ c=>exact .cons (h.mono b) c
def AR.mono{ρ a:cR}(b:cR.Le ρ a){d:Addr}(c:AR ρ h d):AR a h d:=by cases c with|mk o s c=>rw[b.g];exact .mk o s (b.r _ _ c)
section
variable{ρ:cR}
theorem AR.add{b:Addr}(a:AR ρ h b)(n:Nat):AR ρ (h.add n) (b.add n):=by
 cases a with
 |mk o s a=>
  unfold Addr.add;split;exact .mk o s a;have:=AR.mk (ρ:=ρ) (o+n) none a;rw[Nat.add_right_comm]at this;exact this
def AR.of(o:Nat)(s:Option Nat)(h:ρ.r m k)(a:ρ.sh k=none):AR ρ ⟨m,o,s⟩ ⟨k,o,s⟩:=by have:=AR.mk (ρ:=ρ) o s h;rwa[a]at this
theorem VR.undef:VR ρ undef undef:=.tuple rfl (λi v a h=>by simp at h)
def eT.nil:eT ρ #[] #[]:=⟨rfl,λi v a h=>by simp at h⟩
def eT.one(h:VR ρ x y):eT ρ #[x] #[y]:=eT.mh (.cons h .nil)
def eT.L9{a:ce}(h:VR ρ x y)(k:VR ρ z a):eT ρ #[x,z] #[y,a]:=eT.mh (.cons h (.cons k .nil))
theorem eT.push(h:eT ρ W X)(k:VR ρ x y):eT ρ (W.push x) (X.push y):=
 eT.mh (by simpa using h.list.append (.cons k .nil))
theorem eT.append{b a:Array ce}(h:eT ρ W X)(k:eT ρ b a):eT ρ (W++b) (X++a):=
 eT.mh (by simpa using h.list.append k.list)
def eT.get?(h:eT ρ W X)(i:Nat):(W[i]? =none/\X[i]? =none)\/∃v c,W[i]? =some v/\X[i]? =some c/\VR ρ v c:=by by_cases b:i<W.size;have a:i<X.size:=h.size▸b;exact .inr ⟨W[i],X[i],ji b,ji a,h.at_ i _ _ (ji b) (ji a)⟩;have a:¬i<X.size:=h.size▸b;exact .inl ⟨mO (by omega),mO (by omega)⟩
theorem eT.getD(h:eT ρ W X)(k:VR ρ x y)(i:Nat):VR ρ (W.getD i x) (X.getD i y):=by
 have e:∀(a:Array ce) (x:ce),a.getD i x=(a[i]?).getD x:=λa x=>by simp[yq]
 rw[e,e];rcases h.get? i with⟨a,b⟩|⟨v,d,a,b,c⟩;rw[a,b];exact k;rw[a,b];exact c
def eT.set(h:eT ρ W X)(i:Nat)(k:VR ρ x y):eT ρ (W.setIfInBounds i x) (X.setIfInBounds i y):=by refine⟨by simpa using h.size,λj d e a b=>?_⟩;rw[Array.getElem?_setIfInBounds]at a b;by_cases c:i=j;subst c;rw[cx rfl]at a b;split at a;split at b;cases a;cases b;exact k;cases b;cases a;rw[cr c]at a b;exact h.at_ j d e a b
theorem eT.replicate(n:Nat)(k:VR ρ x y):eT ρ (Array.replicate n x) (Array.replicate n y):=by refine⟨by simp,λj c d a b=>?_⟩;rw[ue]at a b;split at a;cases a;rename_i h;rw[cx h]at b;cases b;exact k;cases a
theorem eT.extract(h:eT ρ W X)(a b:Nat):eT ρ (W.extract a b) (X.extract a b):=by refine⟨by simp[h.size],λj x e c d=>?_⟩;rw[Array.getElem?_extract]at c d;split at c;split at d;exact h.at_ _ _ _ c d;cases d;cases c
theorem eT.map{c:Type}(f d:c->ce)(a:Array c)(h:∀x∈a,VR ρ (f x) (d x)):eT ρ (a.map f) (a.map d):=by refine⟨by simp,λj x i e b=>?_⟩;rw[qF]at e b;obtain⟨y,g,rfl⟩:=ij.1 e;rw[g]at b;cases b;exact h y (l7 g)
theorem VR.cells{v a:ce}(h:VR ρ v a):eT ρ v.cells a.cells:=by
 cases h<;>first
  |exact eT.one (by first|exact .bool _|exact .int _ _|exact .string _|exact .iw|exact .ptr ‹_›|exact .fc _ _|exact .slice _ _ ‹_›|exact .qN|exact .map ‹_›|exact .px|exact .chan ‹_›|exact .func ‹_› ‹_› ‹_› ‹_› ‹_›|exact .yield ‹_›|exact .nilFunc|exact .nilIface|exact .iface _ ‹_›|exact .tuple ‹_› ‹_›|exact .CB ‹_› _)
  |exact⟨‹_›,‹_›⟩
theorem eT.agg{b a:Array ce}(h:eT ρ b a):VR ρ (.agg b) (.agg a):=.agg h.size h.at_
def eT.Xv(h:eT ρ W X):VR ρ (.tuple W) (.tuple X):=.tuple h.size h.at_
end
end Go.cF
variable{w t e:cd}{R:Go.cF.cR}{O Q:Go.Obj}
namespace Go.cF
structure tn(ρ:cR)(e e':MapEntry):Prop where
 key:VR ρ e.key e'.key
 val:VR ρ e.val e'.val
 born:e.born=e'.born
structure DY(ρ:cR)(l l':Loop):Prop where
 state:l.state=l'.state
 pending:l.pending=l'.pending
 fn:l.fn=l'.fn
 tmps:eT ρ l.tmps l'.tmps
 params:l.params=l'.params
 assign:l.assign=l'.assign
 body:l.body=l'.body
 defers:ρ.r l.defers l'.defers
 fnS:ρ.S l.fn=true
 okA:ρ.ok l.fn l.assign=true
 okB:ρ.ok l.fn l.body=true
 okP:∀c,l.pending=some c->∀f,ρ.ok f c=true
 hd:ρ.df l.fn=false
 fnH:ρ.hole l.fn=false
def DZ(b:Nat×Nat)(a:Nat):Prop:=b.1<=a/\a<b.2
inductive jJ (ρ:cR):Obj->Obj->Prop
 |cells {cs tl:Array ce} {t:cg} {fz Vq:Nat×Nat} (h:eT ρ cs tl) (hf:∀off,DZ Vq off->DZ fz off):jJ ρ (.cells cs t fz) (.cells tl t Vq)
 |map {es Pa:Array MapEntry} {c:Nat} (h1:es.size=Pa.size) (h2:∀(i:Nat) e e',es[i]? =some e->Pa[i]? =some e'->tn ρ e e'):jJ ρ (.map es c) (.map Pa c)
 |loop {l l':Loop} (h:DY ρ l l'):jJ ρ (.loop l) (.loop l')
 |uh:jJ ρ (.deferred (some [])) (.deferred (some []))
 |taken:jJ ρ (.deferred none) (.deferred none)
 |number {a a':Addr} (l:Bool) (h:AR ρ a a'):jJ ρ (.number a l) (.number a' l)
theorem tn.mono{a:cR}(b:cR.Le R a){e c:MapEntry}(h:tn R e c):tn a e c:=⟨h.key.mono b,h.val.mono b,h.born⟩
theorem DY.mono{b:cR}(a:cR.Le R b){e c:Loop}(h:DY R e c):DY b e c:=
 ⟨h.state,h.pending,h.fn,h.tmps.mono a,h.params,h.assign,h.body,a.r _ _ h.defers,a.s▸h.fnS,a.o▸h.okA,a.o▸h.okB,a.o▸h.okP,a.w▸h.hd,a.h▸h.fnH⟩
theorem jJ.mono{d:cR}(c:cR.Le R d)(h:jJ R O Q):jJ d O Q:=by
 cases h with
 |cells h f=>exact .cells (h.mono c) f
 |map g j=>exact .map g λi e k a b=>(j i e k a b).mono c
 |loop h=>exact .loop (h.mono c)
 |uh=>exact .uh
 |taken=>exact .taken
 |number l h=>exact .number l (h.mono c)
def qO:cg:=1000000007
structure T5(ρ:cR)(n:Nat)(o o':Obj):Prop where
 out:∃cs fz tl t' Vq,o=.cells cs qO fz/\o'=.cells tl t' Vq/\(∀off,off<cs.size->DZ fz off)/\∀(i:Nat) x,cs[i]? =some x->∃x',tl[i+n]? =some x'/\VR ρ x x'
def GJ(a:cR)(m:Option Nat)(o b:Obj):Prop:=(m=none/\jJ a o b)\/∃n,m=some n/\T5 a n o b
theorem T5.mono{a:cR}(b:cR.Le R a)(h:T5 R m O Q):T5 a m O Q:=by obtain⟨e,f,c,g,d,j,k,l,n⟩:=h.out;exact⟨e,f,c,g,d,j,k,l,λi x o=>by obtain⟨p,q,r⟩:=n i x o;exact⟨p,q,r.mono b⟩⟩
theorem GJ.mono{a:cR}(b:cR.Le R a){n:Option Nat}(h:GJ R n O Q):GJ a n O Q:=h.imp (λx=>⟨x.1,x.2.mono b⟩) λ⟨n,e,x⟩=>⟨n,e,x.mono b⟩
structure HR(ρ:cR)(v u:cd):Prop where
 obj:∀b c,ρ.r b c->∃o o',v.heap[b]? =some o/\u.heap[c]? =some o'/\GJ ρ (ρ.sh c) o o'
 low:∀c,u.heap.size<=c->ρ.sh c=none
def HR.of(d:∀c,R.sh c=none)(h:∀b c,R.r b c->∃o a,w.heap[b]? =some o/\t.heap[c]? =some a/\jJ R o a):HR R w t:=⟨λb c e=>by obtain⟨o,a,f,g,i⟩:=h b c e;exact⟨o,a,f,g,.inl ⟨d c,i⟩⟩,λc _=>d c⟩
structure WR(ρ:cR)(v u:cd):Prop where
 obj:∀b c,ρ.r b c->∃o o',v.heap[b]? =some o/\u.heap[c]? =some o'/\GJ ρ (ρ.sh c) o o'
 low:∀c,u.heap.size<=c->ρ.sh c=none
 tape:∀j q,v.tape (v.drawn+j) q=u.tape (u.drawn+j) q
def WR.hr(h:WR R w t):HR R w t:=⟨h.obj,h.low⟩
def lt_of_heap(h:w.heap[m]? =some O):m<w.heap.size:=(eP.1 h).1
def wN(v:cd)(b:Nat):Prop:=∃c t d,v.heap[b]? =some (.cells c t d)/\∀a,a<c.size->DZ d a
def VZ(d:cR)(v:cd)(n m:Nat)(e:Event):Prop:=
 (∃a c b,e=⟨.cell a,c,false⟩/\d.r b a.block/\(∃f t g,v.heap[b]? =some (.cells f t g)/\f≠#[])/\(c=true->¬wN v b))\/
 (∃r c b,e=⟨.obj r,c,false⟩/\d.r b r/\¬wN v b)\/(∃a c,e=⟨.cell a,c,false⟩/\n<=a.block/\a.block<m)\/(∃r c,e=⟨.obj r,c,false⟩/\n<=r/\r<m)\/
 e=⟨.mark .noRoom,false,true⟩
structure fe(ρ mV:cR)(v u v' u':cd)(es:Array Event):Prop where
 le:cR.Le ρ mV
 rel:WR mV v' u'
 vsize:v.heap.size<=v'.heap.size
 usize:u.heap.size<=u'.heap.size
 fresh:∀b c,mV.r b c->ρ.r b c\/(v.heap.size<=b/\u.heap.size<=c)
 same:∀c,c<u.heap.size->(∀b,ρ.r b c->wN v b)->u'.heap[c]? =u.heap[c]?
 tX:∀b,wN v b->v'.heap[b]? =v.heap[b]?
 warm:∀b,b<v.heap.size->wN v' b->wN v b
 rows:∀b,b<v.heap.size->(∃cs t fz,v'.heap[b]? =some (.cells cs t fz)/\cs≠#[])->∃cs t fz,v.heap[b]? =some (.cells cs t fz)/\cs≠#[]
 tape:u'.tape=u.tape
 os:u'.os=u.os
 output:u'.output=u.output
 vtape:v'.tape=v.tape
 evs:∀e∈es,VZ ρ v u.heap.size u'.heap.size e
def wN.keep(h:wN w m)(k:t.heap[m]? =w.heap[m]?):wN t m:=by unfold wN at*;rwa[k]
def wN.lt(h:wN w m):m<w.heap.size:=by obtain⟨_,_,_,h,_⟩:=h;exact lt_of_heap h
theorem fe.refl(h:WR R w t):fe R R w t w t #[]:=
 ⟨.refl _,h,cz _,cz _,λ_ _ h=>.inl h,λ_ _ _=>rfl,λ_ _=>rfl,λ_ _ h=>h,λ_ _ h=>h,rfl,rfl,rfl,rfl,λe a=>by simp at a⟩
theorem fe.trans{i l:cR}{G u p:cd}{H v:Array Event}(K:WR R w t)(h:fe R i w t e G H)(k:fe i l e G u p v):fe R l w t u p (H++v):=by
 have C:∀b c,i.r b c->c<t.heap.size->R.r b c:=λb c d y=>(h.fresh b c d).elim id λx=>by omega
 have I:∀b c,i.r b c->b<w.heap.size->R.r b c:=λb c d y=>(h.fresh b c d).elim id λx=>by omega
 refine⟨h.le.trans k.le,k.rel,cJ h.vsize k.vsize,cJ h.usize k.usize,λb c d=>?_,λc y g=>?_,λb m=>?_,λb m g=>?_,λb m L=>h.rows b m (k.rows b (dl m h.vsize) L),k.tape.trans h.tape,k.os.trans h.os,k.output.trans h.output,
  k.vtape.trans h.vtape,λJ z=>?_⟩
 rcases k.fresh b c d with j|⟨j,B⟩;exact h.fresh b c j;exact .inr ⟨cJ h.vsize j,cJ h.usize B⟩;rw[k.same c (dl y h.usize) λb d=>?_,h.same c y g];have A:=g b (C b c d y);exact A.keep (h.tX b A);have:=h.tX b m;rw[k.tX b (m.keep this),this];exact h.warm b m (k.warm b (dl m h.vsize) g);rcases DV.1 z with z|z;rcases h.evs J z with⟨a,f,b,rfl,d,D,g⟩|⟨r,f,b,rfl,d,g⟩|⟨a,f,rfl,q,s⟩|⟨r,f,rfl,q,s⟩|rfl;exact .inl ⟨a,f,b,rfl,d,D,g⟩;exact .inr (.inl ⟨r,f,b,rfl,d,g⟩);exact .inr (.inr (.inl ⟨a,f,rfl,q,dl s k.usize⟩));exact .inr (.inr (.inr (.inl ⟨r,f,rfl,q,dl s k.usize⟩)));exact .inr (.inr (.inr (.inr rfl)));have n:∀b,¬wN e b->¬wN w b:=λb E g=>E (g.keep (h.tX b g))
 have split:∀b c,i.r b c->(R.r b c/\b<w.heap.size)\/(t.heap.size<=c/\c<p.heap.size):=λb c d=>(h.fresh b c d).elim (λx=>.inl ⟨x,by
  obtain⟨o,_,F,_⟩:=K.obj b c x;exact lt_of_heap F⟩) λx=>.inr ⟨x.2,by
  obtain⟨_,o,_,F,_⟩:=h.rel.obj b c d;exact dl (lt_of_heap F) k.usize⟩
 rcases k.evs J z with⟨a,f,b,rfl,d,D,g⟩|⟨r,f,b,rfl,d,g⟩|⟨a,f,rfl,q,s⟩|⟨r,f,rfl,q,s⟩|rfl;rcases split _ _ d with⟨j,B⟩|j;exact .inl ⟨a,f,b,rfl,j,h.rows b B D,λx=>n b (g x)⟩;exact .inr (.inr (.inl ⟨a,f,rfl,j⟩));rcases split _ _ d with⟨j,B⟩|j;exact .inr (.inl ⟨r,f,b,rfl,j,n b g⟩);exact .inr (.inr (.inr (.inl ⟨r,f,rfl,j⟩)));exact .inr (.inr (.inl ⟨a,f,rfl,cJ h.usize q,s⟩));exact .inr (.inr (.inr (.inl ⟨r,f,rfl,cJ h.usize q,s⟩)));exact .inr (.inr (.inr (.inr rfl)))
abbrev _root_.Go.Program.ir(P:cf)(a:Array Func):cf:={toTables:=P.toTables,funcs:=a}
def _root_.Go.Halt.dead:Halt->Bool
 | .stuck _=>true
 | .unsupported (.initOrder _)=>false
 | .unsupported _=>true
 |_=>false
inductive SR (P:cf) {α β:Type} (A:cR->α->β->Prop):cR->Sem α->Sem β->Prop
 |pure {ρ:cR} {a:α} {b:β} (h:A ρ a b):SR P A ρ (.pure a) (.pure b)
 |load {ρ:cR} {a a':Addr} {k:ce->Sem α} {k':ce->Sem β} (ha:AR ρ a a') (h:∀v v',VR ρ v v'->SR P A ρ (k v) (k' v')):SR P A ρ (.load .plain a k) (.load .plain a' k')
 |store {ρ:cR} {a a':Addr} {v v':ce} {k:Sem α} {k':Sem β} (ha:AR ρ a a') (hv:VR ρ v v') (h:SR P A ρ k k'):SR P A ρ (.store .plain a v k) (.store .plain a' v' k')
 |new {ρ:cR} {o o':Obj} {k:Nat->Sem α} {k':Nat->Sem β} (ho:jJ ρ o o') (h:∀n n' hn hm,ρ.sh n'=none->SR P A (ρ.ext n n' hn hm) (k n) (k' n')):SR P A ρ (.new o k) (.new o' k')
 |getObj {ρ:cR} {r r':Nat} {k:Obj->Sem α} {k':Obj->Sem β} (hr:ρ.r r r') (h:∀o o',jJ ρ o o'->(∀cs t fz,o≠ .cells cs t fz)->SR P A ρ (k o) (k' o')):
  SR P A ρ (.getObj r k) (.getObj r' k')
 |setObj {ρ:cR} {r r':Nat} {o o':Obj} {k:Sem α} {k':Sem β} (hr:ρ.r r r') (ho:jJ ρ o o') (hc:∀cs t fz,o≠ .cells cs t fz) (h:SR P A ρ k k'):SR P A ρ (.setObj r o k) (.setObj r' o' k')
 |shape {ρ:cR} {r r':Nat} {k:Option (cg×Nat)->Sem α} {k':Option (cg×Nat)->Sem β} (hr:ρ.r r r') (h:ρ.sh r'=none->∀x,SR P A ρ (k x) (k' x)) (hb:ρ.sh r'≠none->∀m y,SR P A ρ (k (some (qO,m))) (k' (some y))):SR P A ρ (.shape r k) (.shape r' k')
 |choose {ρ:cR} {q:Question} {k:Nat->Sem α} {k':Nat->Sem β} (h:∀n,SR P A ρ (k n) (k' n)):SR P A ρ (.choose q k) (.choose q k')
 |program {ρ:cR} {k:cf->Sem α} {k':cf->Sem β} (h:SR P A ρ (k P) (k' (P.ir ρ.fs))):SR P A ρ (.program k) (.program k')
 |noRoom {ρ:cR} {k:Sem α} {k':Sem β} (h:SR P A ρ k k'):SR P A ρ (.mark .noRoom k) (.mark .noRoom k')
 |panic {ρ:cR} {v v':ce} (h:VR ρ v v') (hp:wM ρ v):SR P A ρ (.halt (.panic v)) (.halt (.panic v'))
 |dead {ρ:cR} {h:Halt} {s:Sem β} (hd:Halt.dead h=true):SR P A ρ (.halt h) s
 |never {ρ:cR} {s:Sem α} {s':Sem β} (h:∀w,∃hh w',s.run P w=.halt hh w'/\Halt.dead hh=true):SR P A ρ s s'
end Go.cF
variable{P:cf}
namespace Go.cF
theorem SR.bind{l p D E:Type}{A:cR->l->p->Prop}{B:cR->D->E->Prop}{ρ:cR}{s:Sem l}{q:Sem p}{f:l->Sem D}{F:p->Sem E}(h:SR P A ρ s q) (k:∀d a b,cR.Le ρ d->A d a b->SR P B d (f a) (F b)):SR P B ρ (s.bind f) (q.bind F):=by
 induction h with
 |pure h=>exact k _ _ _ (.refl _) h
 |load r _ c=>exact .load r λv I t=>c v I t k
 |store r t _ c=>exact .store r t (c k)
 |new g _ c=>exact .new g λn J G H i=>c n J G H i λd a b u=>k d a b ((cR.tk _ _ _ G H).trans u)
 |getObj j _ c=>exact .getObj j λo K g z=>c o K g z k
 |setObj j g z _ c=>exact .setObj j g z (c k)
 |shape j _ _ c L=>exact .shape j (λi x=>c i x k) λi m y=>L i m y k
 |choose _ c=>exact .choose λn=>c n k
 |program _ c=>exact .program (c k)
 |noRoom _ c=>exact .noRoom (c k)
 |panic h M=>exact .panic h M
 |dead C=>exact .dead C
 | @never ρ s q h=>
  refine .never λw=>?_;obtain⟨N,O,e,C⟩:=h w;exact⟨N,O,by rw[Sem.run_bind',e];rfl,C⟩
def lX{α i:Type}(A:cR->α->i->Prop)(ρ:cR)(v u:cd)(r:Result α×Array Event)(j:Result i×Array Event)(e:Array Event):Prop:=
 match r.1 with
 | .ok a g=>∃b f c d,j=(.ok b f,e++d)/\A c a b/\fe ρ c v u g f d
 | .halt (.panic x) g=>∃k f c d,j=(.halt (.panic k) f,e++d)/\(VR c x k/\wM c x)/\fe ρ c v u g f d
 | .halt h _=>h.dead=true
theorem lX.dead{α b:Type}{A:cR->α->b->Prop}{ρ:cR}{v u w:cd}{h:Halt}(c:h.dead=true){d:Array Event}{e:Result b×Array Event}{a:Array Event}:lX (α:=α) A ρ v u (.halt h w,d) e a:=by unfold lX;cases h<;>first|exact c|cases c
def lX.step{n o:Type}{A:cR->n->o->Prop}{ρ f:cR}{v u p q:cd}{r:Result n×Array Event}{s:Result o×Array Event}{e1 g:Array Event}(t:WR ρ v u) (m:fe ρ f v u p q e1)(h:lX A f p q r s (g++e1)):lX A ρ v u r s g:=by
 unfold lX at*;split;rename_i a w c;rw[c]at h;obtain⟨b,j,d,e,i,k,l⟩:=h;exact⟨b,j,d,e1++e,by rw[i,Array.append_assoc],k,m.trans t l⟩;rename_i x w c;rw[c]at h;obtain⟨b,j,d,e,i,k,l⟩:=h;exact⟨b,j,d,e1++e,by rw[i,Array.append_assoc],k,m.trans t l⟩
 ·rename_i c;rw[c]at h;split at h<;>first|exact h|(rename_i i;cases i;cases‹_›)|skip
  all_goals simp_all
section
variable{ρ:cR}{v u:cd}
def uj{a:Addr}{at_:Bool}(c:∀x y,v.heap[a.block]?≠some (.view x y))(d:∀x y,v.heap[a.block]?≠some (.pending x y)):∃h,v.farLoad P a at_=.error h/\h.dead=true:=by unfold World.farLoad;split;rename_i x y b;exact absurd b (c _ _);refine⟨_,rfl,?_⟩;unfold World.noCell;split;rename_i b;exact absurd b (d _ _);rfl;rfl
def sQ{a:Addr}{at_:Bool}(c:∀x y,v.heap[a.block]?≠some (.view x y))(d:∀x y,v.heap[a.block]?≠some (.pending x y)):∃h,v.farStore P a x at_=.error h/\h.dead=true:=by unfold World.farStore;split;rename_i x y b;exact absurd b (c _ _);refine⟨_,rfl,?_⟩;unfold World.noCell;split;rename_i b;exact absurd b (d _ _);rfl;rfl
def WR.noView(h:WR ρ v u)(c:ρ.r m k):∀x y,v.heap[m]?≠some (.view x y):=by intro x y d;obtain⟨o,f,b,_,a⟩:=h.obj m k c;rw[d]at b;cases b;rcases a with⟨_,a⟩|⟨_,_,_,_,_,_,_,e,_⟩;cases a;cases e
def WR.noPending(h:WR ρ v u)(c:ρ.r m k):∀x y,v.heap[m]?≠some (.pending x y):=by intro x y d;obtain⟨o,f,b,_,a⟩:=h.obj m k c;rw[d]at b;cases b;rcases a with⟨_,a⟩|⟨_,_,_,_,_,_,_,e,_⟩;cases a;cases e
def WR.cell(k:WR ρ v u){g:Addr}(l:AR ρ h g)(a:v.cell? h=some x):∃i,u.cell? g=some i/\VR ρ x i:=by
 cases l with
 | @mk b c o s m=>
  obtain⟨E,p,q,j,d⟩:=k.obj b c m;simp only[World.cell?,q]at a;rcases d with⟨r,d⟩|⟨n,t,F,G,w,H,z,rfl,rfl,A,e⟩;case inr=>
   simp only[World.cell?,j];cases s with
   |some s=>simp at a
   |none=>
    simp only[tj,iq,eo]at a⊢;rw[t];exact e o x a
  rw[r,Option.getD_none,mT];cases d with
  |cells e I=>
   simp only[World.cell?,j];cases s with
   |some s=>simp at a
   |none=>
    simp only[tj,iq,eo]at a⊢;rcases e.get? o with⟨f,_⟩|⟨y,B,f,C,D⟩;rw[f]at a;cases a;rw[f]at a;cases a;exact⟨B,C,D⟩
  |_=>cases a
def WR.shape(h:WR ρ v u){r a:Nat}(c:ρ.r r a):(ρ.sh a=none/\v.shape? r=u.shape? a)\/ρ.sh a≠none/\∃m y,v.shape? r=some (qO,m)/\u.shape? a=some y:=by
 obtain⟨o,l,d,e,b⟩:=h.obj r a c;simp only[World.shape?,d,e];rcases b with⟨f,b⟩|⟨n,g,p,q,i,s,j,rfl,rfl,k,t⟩;refine .inl ⟨f,?_⟩;cases b with
 |cells h _=>simp[h.size]
 |_=>rfl
 exact .inr ⟨by rw[g];simp,_,_,rfl,rfl⟩
def WR.draw(h:WR ρ v u):WR ρ {v with drawn:=v.drawn+1} {u with drawn:=u.drawn+1}:=
 ⟨h.obj,h.low,λj q=>by have:=h.tape (1+j) q;simpa[yz]using this⟩
theorem fe.draw(h:WR ρ v u):fe ρ ρ v u {v with drawn:=v.drawn+1} {u with drawn:=u.drawn+1} #[]:=
 ⟨.refl _,h.draw,cz _,cz _,λ_ _ h=>.inl h,λ_ _ _=>rfl,λ_ _=>rfl,λ_ _ h=>h,λ_ _ h=>h,rfl,rfl,rfl,rfl,λe a=>by simp at a⟩
def fe.So{a:cR}{c b:cd}{d:Array Event}(m:fe ρ a v u c b #[])(h:∀e∈d,VZ ρ v u.heap.size b.heap.size e):fe ρ a v u c b d:=
 ⟨m.le,m.rel,m.vsize,m.usize,m.fresh,m.same,m.tX,m.warm,m.rows,m.tape,m.os,m.output,m.vtape,h⟩
def heap_setCell(w:cd)(a:Addr)(x:ce)(b:Nat):(w.setCell a x).heap[b]? =if b=a.block then(w.heap[b]?).map (λ
 | .cells c f d=>.cells (if a.spot.isSome then c else c.setIfInBounds a.off x) f d
 |o=>o)else w.heap[b]? :=by
 simp only[World.setCell,sL];by_cases h:a.block=b;subst h;simp only[cX];congr 1;rw[cr h,cr (λe=>h e.symm)]
def fe.store(h:WR ρ v u){a H:Addr}(W:AR ρ a H){x I y:ce}(X:VR ρ x I)(m:v.cell? a=some y)(J:v.frozen? a=false):u.frozen? H=false/\fe ρ ρ v u (v.setCell a x) (u.setCell H I) #[⟨.cell H,true,false⟩]:=by
 cases W with
 | @mk b c o s B=>
  obtain⟨ob,Y,p,Q,K⟩:=h.obj b c B;simp only[World.cell?,p]at m;rcases K with⟨R,K⟩|⟨n,hn,z,A,C,t',q,rfl,rfl,L,S⟩;case inr=>
   exfalso;cases s with
   |some s=>simp at m
   |none=>
    simp only[tj,iq,eo]at m;have g:=L o (eP.1 m).1;simp only[World.frozen?,p]at J;simp[g.1,g.2]at J
  rw[R,Option.getD_none,mT];cases K with
  | @cells z C t A q S T=>
   cases s with
   |some s=>simp at m
   |none=>
    simp only[tj,iq,eo]at m;have r:o<z.size:=(eP.1 m).1;have D:¬DZ A o:=by intro g;simp only[World.frozen?,p]at J;simp[g.1,g.2]at J
    have E:¬DZ q o:=λg=>D (T o g);have i:¬wN v b:=by rintro⟨_,_,_,e,d⟩;rw[p]at e;cases e;exact D (d o r)
    have F:∀j,(v.setCell ⟨b,o,none⟩ x).heap[j]? =if j=b then some (.cells (z.setIfInBounds o x) t A)else v.heap[j]? :=by intro j;rw[heap_setCell];by_cases f:j=b;subst f;simp[p];simp[f]
    have U:∀l,(u.setCell ⟨c,o,none⟩ I).heap[l]? =if l=c then some (.cells (C.setIfInBounds o I) t q)else u.heap[l]? :=by intro l;rw[heap_setCell];by_cases f:l=c;subst f;simp[Q];simp[f]
    refine⟨?_,.refl _,⟨λj l w=>?_,λl M=>h.low l (by simpa[World.setCell]using M),h.tape⟩,by simp[World.setCell],by simp[World.setCell],λ_ _ h=>.inl h,λl _ Z=>?_,λj k=>?_,λj _ k=>?_,λj _ k=>?_,rfl,rfl,rfl,rfl,?_⟩;simp only[World.frozen?,Q];simp only[DZ]at E;simp;omega;rw[F,U];by_cases f:j=b;subst f;obtain rfl:=ρ.inj₁ _ _ _ B w;rw[cx rfl,cx rfl];exact⟨_,_,rfl,rfl,.inl ⟨R,.cells (S.set o X) T⟩⟩;have G:l≠c:=λe=>f (ρ.inj₂ _ _ _ w (e▸B));rw[cr f,cr G];exact h.obj j l w;rw[U];by_cases f:l=c;subst f;exact absurd (Z b B) i;rw[cr f];rw[F];by_cases f:j=b;subst f;exact absurd k i;rw[cr f];by_cases f:j=b;subst f;obtain⟨_,_,_,e,d⟩:=k;rw[F,cx rfl]at e;cases e;exact⟨z,t,A,p,by simpa using d⟩;obtain⟨N,O,P,e,d⟩:=k;rw[F,cr f]at e;exact⟨N,O,P,e,d⟩;by_cases f:j=b;subst f;exact⟨z,t,A,p,λe=>by subst e;simp at r⟩;obtain⟨N,O,P,e,d⟩:=k;rw[F,cr f]at e;exact⟨N,O,P,e,d⟩;intro e V;simp at V;subst V;exact .inl ⟨⟨c,o,none⟩,true,b,rfl,B,⟨z,t,A,p,λe=>by subst e;simp at r⟩,λ_=>i⟩
  |_=>cases m
def mH(w:cd)(o:Obj)(b:Nat):({w with heap:=w.heap.push o}:cd).heap[b]? =if b=w.heap.size then some o else w.heap[b]? :=by simp only[qG]
def WR.V0(h:WR ρ v u)(a:ρ.r m k):m<v.heap.size:=let⟨_,_,b,_,_⟩:=h.obj m k a;lt_of_heap b
def WR.TP(h:WR ρ v u)(a:ρ.r m k):k<u.heap.size:=let⟨_,_,_,b,_⟩:=h.obj m k a;lt_of_heap b
def WR.Sq(h:WR ρ v u):∀c,¬ρ.r v.heap.size c:=λ_ a=>Nat.lt_irrefl _ (h.V0 a)
def WR.Ss(h:WR ρ v u):∀b,¬ρ.r b u.heap.size:=λ_ a=>Nat.lt_irrefl _ (h.TP a)
def fe.new(h:WR ρ v u){o m:Obj}(n:jJ ρ o m):fe ρ (ρ.ext v.heap.size u.heap.size h.Sq h.Ss) v u {v with heap:=v.heap.push o} {u with heap:=u.heap.push m} #[]:=by refine⟨cR.tk _ _ _ _ _,⟨λb c d=>?_,λc g=>h.low c (by simp at g;omega),h.tape⟩,by simp,by simp,λb c d=>?_,λc g _=>?_,λb f=>?_,λb f i=>?_,λb f i=>?_,rfl,rfl,rfl,rfl,λe p=>by simp at p⟩;rw[mH,mH];rcases d with d|⟨rfl,rfl⟩;rw[cr (Nat.ne_of_lt (h.V0 d)),cr (Nat.ne_of_lt (h.TP d))];obtain⟨x,q,r,s,t⟩:=h.obj b c d;exact⟨x,q,r,s,t.mono (cR.tk _ _ _ _ _)⟩;rw[cx rfl,cx rfl];exact⟨_,_,rfl,rfl,.inl ⟨h.low _ (cz _),n.mono (cR.tk _ _ _ _ _)⟩⟩;rcases d with d|⟨rfl,rfl⟩;exact .inl d;exact .inr ⟨cz _,cz _⟩;rw[mH,cr (Nat.ne_of_lt g)];rw[mH,cr (Nat.ne_of_lt f.lt)];obtain⟨j,k,l,e,a⟩:=i;rw[mH,cr (Nat.ne_of_lt f)]at e;exact⟨j,k,l,e,a⟩;obtain⟨j,k,l,e,a⟩:=i;rw[mH,cr (Nat.ne_of_lt f)]at e;exact⟨j,k,l,e,a⟩
def heap_set(w:cd)(r:Nat)(o:Obj)(b:Nat):({w with heap:=w.heap.setIfInBounds r o}:cd).heap[b]? =if b=r/\r<w.heap.size then some o else w.heap[b]? :=by simp only[Array.getElem?_setIfInBounds];by_cases h:r=b;subst h;by_cases a:r<w.heap.size;simp[a];simp[a];rw[cr h,cr (λe=>h e.1.symm)]
def fe.setObj(h:WR ρ v u){r i:Nat}(j:ρ.r r i){o C x:Obj}(H:jJ ρ o C)(D:v.heap[r]? =some x)(m:∀y t z,x≠ .cells y t z)(n:∀y t z,o≠ .cells y t z):fe ρ ρ v u {v with heap:=v.heap.setIfInBounds r o} {u with heap:=u.heap.setIfInBounds i C} #[⟨.obj i,true,false⟩]:=by
 have A:=h.V0 j;have I:=h.TP j;have d:¬wN v r:=by rintro⟨y,t,z,e,_⟩;rw[D]at e;cases e;exact m _ _ _ rfl
 have B:ρ.sh i=none:=by obtain⟨L,J,E,_,K⟩:=h.obj r i j;rcases K with⟨B,_⟩|⟨_,_,_,_,_,_,_,rfl,_⟩;exact B;rw[D]at E;exact absurd (cE E) (m _ _ _)
 refine⟨.refl _,⟨λb c k=>?_,λc F=>h.low c (by simpa using F),h.tape⟩,by simp,by simp,λ_ _ h=>.inl h,λc F l=>?_,λb g=>?_,λb g l=>?_,λb g l=>?_,rfl,rfl,rfl,rfl,λe G=>?_⟩;rw[heap_set,heap_set];by_cases g:b=r;subst g;obtain rfl:=ρ.inj₁ _ _ _ j k;rw[cx ⟨rfl,A⟩,cx ⟨rfl,I⟩];exact⟨_,_,rfl,rfl,.inl ⟨B,H⟩⟩;have p:c≠i:=λe=>g (ρ.inj₂ _ _ _ k (e▸j));rw[cr (λe=>g e.1),cr (λe=>p e.1)];exact h.obj b c k;rw[heap_set];by_cases g:c=i;subst g;exact absurd (l r j) d;rw[cr (λe=>g e.1)];rw[heap_set];by_cases a:b=r;subst a;exact absurd g d;rw[cr (λe=>a e.1)];by_cases a:b=r;subst a;obtain⟨q,s,w,e,_⟩:=l;rw[heap_set,cx ⟨rfl,A⟩]at e;cases e;exact absurd rfl (n _ _ _);obtain⟨q,s,w,e,f⟩:=l;rw[heap_set,cr (λe=>a e.1)]at e;exact⟨q,s,w,e,f⟩;by_cases a:b=r;subst a;obtain⟨q,s,w,e,_⟩:=l;rw[heap_set,cx ⟨rfl,A⟩]at e;cases e;exact absurd rfl (n _ _ _);obtain⟨q,s,w,e,f⟩:=l;rw[heap_set,cr (λe=>a e.1)]at e;exact⟨q,s,w,e,f⟩;simp at G;subst G;exact .inr (.inl ⟨i,true,r,rfl,j,d⟩)
end
theorem jJ.isChan{ρ:cR}(h:jJ ρ O Q)(c:∀a t b,O≠ .cells a t b):Q.isChan=false/\∀a t b,Q≠ .cells a t b:=by
 cases h with
 |cells _ _=>exact absurd rfl (c _ _ _)
 |_=>exact⟨rfl,λ_ _ _ e=>by cases e⟩
def GJ.plain{ρ:cR}{n:Option Nat}(h:GJ ρ n O Q)(a:∀b t c,O≠ .cells b t c):jJ ρ O Q:=by rcases h with⟨_,h⟩|⟨_,_,_,_,_,_,_,e,_⟩;exact h;exact absurd e (a _ _ _)
def SR.run{α β:Type}{A:cR->α->β->Prop}{ρ:cR}{s:Sem α}{Z:Sem β}(h:SR P A ρ s Z):∀{v u:cd},WR ρ v u->∀g d:Array Event,lX A ρ v u (s.runT P v g) (Z.runT (P.ir ρ.fs) u d) d:=by
 induction h with
 | @pure ρ a b h=>exactλ{v u} f g d=>⟨b,u,ρ,#[],by simp[Sem.runT],h,fe.refl f⟩
 | @load ρ a X k D K _ n=>
  intro v u f g d;simp only[Sem.runT];cases B:v.cell? a with
  |none=>
   cases K with
   | @mk b c o s p=>
    obtain⟨hh,e,L⟩:=uj (P:=P) (a:=⟨b,o,s⟩) (at_:=(Mode.plain==Mode.atomic)) (f.noView p) (f.noPending p);simp only[e];exact lX.dead L
  |some x=>
   obtain⟨F,aa,Y⟩:=f.cell K B;simp only[aa];refine lX.step (e1:=#[⟨.cell X,false,false⟩]) f ((fe.refl f).So λe G=>?_) ?_;simp at G;subst G;cases K with
   | @mk b c o s p=>
    refine .inl ⟨_,false,b,rfl,p,?_,λe=>by cases e⟩;simp only[World.cell?]at B;split at B;rename_i i t l ab;refine⟨i,t,l,ab,λe=>?_⟩;subst e;simp at B;cases B
   have:=n x F Y f (g.push ⟨.cell a,false,false⟩) (d++#[⟨.cell X,false,false⟩]);rw[Array.append_singleton]at this;exact this
 | @store ρ a X x F k D K Y _ n=>
  intro v u f g d;by_cases z:(∃i,x=.agg i)\/∃i,x=.tuple i;rcases z with⟨i,rfl⟩|⟨i,rfl⟩<;>exact lX.dead rfl;have M:¬((∃i,F=.agg i)\/∃i,F=.tuple i):=by rintro(⟨i,rfl⟩|⟨i,rfl⟩)<;>cases Y;exact z (.inl ⟨_,rfl⟩);exact z (.inr ⟨_,rfl⟩)
  have e1:∀{H:Type} (P:cf) (k:Sem H) (x:ce),¬((∃i,x=.agg i)\/∃i,x=.tuple i)->∀(a:Addr) (v:cd) (g:Array Event),(Sem.store .plain a x k).runT P v g=(match v.cell? a with
   |some _=>if v.frozen? a then(.halt (.unsupported (.unsafePointer "a write to bytes that a string shares")) v,g)else k.runT P (v.setCell a x) (g.push ⟨.cell a,true,false⟩)
   |none=>match v.farStore P a x false with
    | .ok (w,C)=>k.runT P w (g++C.toArray.map (⟨.cell ·,true,false⟩))
    | .error h=>(.halt h v,g)):=by
   intro H P k x B a v g;cases x<;>first|rfl|exact absurd (.inl ⟨_,rfl⟩) B|exact absurd (.inr ⟨_,rfl⟩) B
  rw[e1 P k x z,e1 _ D F M];cases hy:v.cell? a with
  |none=>
   cases K with
   | @mk b c o s p=>
    obtain⟨hh,e,L⟩:=sQ (P:=P) (a:=⟨b,o,s⟩) (x:=x) (at_:=false) (f.noView p) (f.noPending p);simp only[e];exact lX.dead L
  |some y=>
   obtain⟨y',ac,_⟩:=f.cell K hy;simp only[ac];by_cases hz:v.frozen? a=true;simp only[hz,cX];exact lX.dead rfl;have T:v.frozen? a=false:=by simpa using hz
   obtain⟨hu,I⟩:=fe.store f K Y hy T;simp only[T,hu];refine lX.step f I ?_;have:=n I.rel (g.push ⟨.cell a,true,false⟩) (d++#[⟨.cell X,true,false⟩]);simpa using this
 | @new ρ o N k D ho _ n=>
  intro v u f g d;have I:=fe.new f ho;refine lX.step f I ?_;have:=n v.heap.size u.heap.size f.Sq f.Ss (f.low _ (cz _)) I.rel g (d++#[]);simpa[Sem.runT]using this
 | @getObj ρ r E k D p _ n=>
  intro v u f g d;obtain⟨o,N,O,h2,J⟩:=f.obj r E p;by_cases U:∃i t l,o=.cells i t l;obtain⟨i,t,l,rfl⟩:=U;simp only[Sem.runT,O];exact lX.dead rfl;have j:∀i t l,o≠ .cells i t l:=λi t l e=>U ⟨i,t,l,e⟩;replace J:jJ ρ o N:=J.plain j;obtain⟨Q,R⟩:=J.isChan j;have e1:∀{H:Type} (P:cf) (k:Obj->Sem H) (w:cd) (r:Nat) (o:Obj) (g:Array Event),w.heap[r]? =some o->(∀i t l,o≠ .cells i t l)->(Sem.getObj r k).runT P w g=(k o).runT P w (g.push ⟨.obj r,false,o.isChan⟩):=by intro H P k w r o g h S;cases o<;>first|exact absurd rfl (S _ _ _)|simp only[Sem.runT,h]
  rw[e1 P k v r o g O j,e1 _ D u E N d h2 R,Q];refine lX.step (e1:=#[⟨.obj E,false,false⟩]) f ((fe.refl f).So λe G=>?_) ?_;simp at G;subst G;refine .inr (.inl ⟨E,false,r,rfl,p,?_⟩);rintro⟨i,t,l,e,_⟩;rw[O]at e;cases e;exact j _ _ _ rfl;have:=n o N J j f (g.push ⟨.obj r,false,o.isChan⟩) (d++#[⟨.obj E,false,false⟩]);simpa using this
 | @setObj ρ r E x F k D p B V _ n=>
  intro v u f g d;obtain⟨o,N,O,h2,J⟩:=f.obj r E p;by_cases U:∃i t l,o=.cells i t l;obtain⟨i,t,l,rfl⟩:=U;simp only[Sem.runT,O];exact lX.dead rfl;have j:∀i t l,o≠ .cells i t l:=λi t l e=>U ⟨i,t,l,e⟩;replace J:jJ ρ o N:=J.plain j;obtain⟨_,R⟩:=J.isChan j;obtain⟨Q,_⟩:=B.isChan V;have W:x.isChan=false:=by cases B<;>rfl
  have e1:∀{H:Type} (P:cf) (k:Sem H) (w:cd) (r:Nat) (x o:Obj) (g:Array Event),w.heap[r]? =some o->(∀i t l,o≠ .cells i t l)->(Sem.setObj r x k).runT P w g=k.runT P {w with heap:=w.heap.setIfInBounds r x} (g.push ⟨.obj r,true,x.isChan⟩):=by intro H P k w r x o g h S;cases o<;>first|exact absurd rfl (S _ _ _)|simp only[Sem.runT,h]
  rw[e1 P k v r x o g O j,e1 _ D u E F N d h2 R,Q,W];have I:=fe.setObj f p B O j V;refine lX.step f I ?_;have:=n I.rel (g.push ⟨.obj r,true,false⟩) (d++#[⟨.obj E,true,false⟩]);simpa using this
 | @shape ρ r E k D p _ _ n ib=>
  intro v u f g d;simp only[Sem.runT];rcases f.shape p with⟨hs,e⟩|⟨hs,m,y,e1,e2⟩;rw[e];exact n hs _ f g d;rw[e1,e2];exact ib hs _ _ f g d
 | @choose ρ q k D _ n=>
  intro v u f g d;simp only[Sem.runT];by_cases hq:q.forced=true;simp only[hq,cX];exact n 0 f g d;have ad:q.forced=false:=by simpa using hq
  simp only[ad,iq,eo];have ht:=f.tape 0 q;simp only[mT]at ht;rw[ht];refine lX.step f (fe.draw f) ?_;have:=n (q.cut (u.tape u.drawn q)) f.draw g (d++#[]);simpa using this
 |program _ n=>exactλf g d=>n f g d
 | @noRoom ρ k D _ n=>
  intro v u f g d;refine lX.step (e1:=#[⟨.mark .noRoom,false,true⟩]) f ((fe.refl f).So λe G=>?_) ?_;simp at G;exact .inr (.inr (.inr (.inr G)));have:=n f (g.push ⟨.mark .noRoom,false,true⟩) (d++#[⟨.mark .noRoom,false,true⟩]);simpa[Sem.runT]using this
 | @panic ρ x F h hp=>exactλ{v u} f g d=>⟨F,u,ρ,#[],by simp[Sem.runT],⟨h,hp⟩,fe.refl f⟩
 |dead L=>exactλ{v u} f g d=>lX.dead L
 | @never ρ s Z h=>
  intro v u f g d;obtain⟨hh,w',e,L⟩:=h v;rw[mU,e];exact lX.dead L
end Go.cF
variable{D E:Bool}
namespace Go.cF
def ep:Nat->ce->Bool
 |_,.bool _|_,.int _ _|_,.string _|_,.pointer none|_,.slice none _ _|_,.map none|_,.chan none|_,.nilFunc|_,.nilIface=>true
 |d+1,.agg a|d+1,.tuple a=>a.all (ep d)
 |d+1,.iface _ v=>ep d v
 |_,_=>false
theorem oT{ρ:cR}:∀{d:Nat} {v:ce},ep d v=true->VR ρ v v
 |d,.bool _,_=>.bool _
 |d,.int _ _,_=>.int _ _
 |d,.float _ _,h=>by cases d<;>simp[ep]at h
 |d,.complex _ _ _,h=>by cases d<;>simp[ep]at h
 |d,.string _,_=>.string _
 |d,.pointer none,_=>.iw
 |d,.slice none _ _,_=>.fc _ _
 |d,.map none,_=>.qN
 |d,.chan none,_=>.px
 |d,.nilFunc,_=>.nilFunc
 |d,.nilIface,_=>.nilIface
 |d+1,.agg c,h=>by simp only[ep,DU]at h;exact .agg rfl λi v e a b=>by rw[a]at b;cases b;exact oT (h v (l7 a))
 |d+1,.tuple c,h=>by simp only[ep,DU]at h;exact .tuple rfl λi v e a b=>by rw[a]at b;cases b;exact oT (h v (l7 a))
 |0,.agg _,h=>by simp[ep]at h
 |0,.tuple _,h=>by simp[ep]at h
 |d,.pointer (some _),h=>by cases d<;>simp[ep]at h
 |d,.slice (some _) _ _,h=>by cases d<;>simp[ep]at h
 |d,.map (some _),h=>by cases d<;>simp[ep]at h
 |d,.chan (some _),h=>by cases d<;>simp[ep]at h
 |d,.func _ _ _,h=>by cases d<;>simp[ep]at h
 |0,.iface _ _,h=>by simp[ep]at h
 |d+1,.iface _ v,h=>.iface _ (oT (d:=d) (by simpa[ep]using h))
def eK(P:cf):Nat->cg->Bool
 |0,_=>false
 |d+1,t=>match P.underlying t with
  |some .bool|some (.int _)|some .string|some (.slice _)=>true
  |some (.struct a)=>!P.stoodInHeld t&&a.all λf=>eK P d f.type
  |some (.array _ e)=>eK P d e
  |_=>false
def jw(S:cm->Bool):dj->Bool
 | .tmp _=>true
 | .const v=>ep 3 v
 | .global _=>false
 | .func f=>S f
def Bf:Builtin->Bool
 | .len| .cap| .append| .max| .min=>true
 |_=>false
def intType(P:cf)(t:cg):Bool:=match P.underlying t with|some (.int _)=>true|_=>false
def GK(P:cf)(S:cm->Bool)(a e:Bool):Op->Bool
 | .move _| .assign _| .pick _ _ _| .alloc _| .box _ _| .build _ _| .buildSlice _ _ _| .load _ _| .store _ _ _| .unOp _ _ _| .makeSlice _ _ _| .slice _ _ _ _ _
 | .index _ _ _| .indexAddr _ _ _| .extract _ _| .field _ _ _| .makeMap _ _| .nilCheck _=>true
 | .lookup t _ _ _| .mapUpdate t _ _ _=>match P.underlying t with|some (.map k _)=>!a&&eK P 5 k|_=>false
 | .makeFunc (.func f) _ _=>S f
 | .fieldAddr s _ i=>match P.underlying s with
  |some (.struct g)=>match g[i]? with
   |some f=>match P.info? f.type with|some j=>j.size !=0|none=>false
   |none=>false
  |_=>false
 | .binOp h t _ _ _=>match h with
  | .eql| .neq=>eK P 5 t
  |_=>intType P t
 | .convert s d _=>intType P s&&intType P d
 | .call c=>match c.callee with
  | .value _=>true
  | .builtin b=>Bf b&&(match b with| .append=>(match c.argTypes[1]? with|some t=>!intType P t|none=>true)|_=>true)
  | .invoke _ _=>false
 | .defer c=>match c.callee with
  | .value _=>e
  |_=>false
 | .panic x=>match x with
  | .const (.iface _ (.int _ _))=>e
  |_=>false
 |_=>false
def qP(P:cf)(S:cm->Bool)(a b:Bool)(o:Oper):Bool:=o.op.operands.all (jw S)&&GK P S a b o.op
def gh(P:cf)(S:cm->Bool)(d e:Bool):Code->Bool
 | .skip| .exit _| .label _| .goto _| .ret| .refuse _=>true
 | .region _ g _=>g.all (qP P S d e)
 | .seq a b=>gh P S d e a&&gh P S d e b
 | .cond c a b=>jw S c&&gh P S d e a&&gh P S d e b
 | .block _ c| .loop c| .scope c=>gh P S d e c
 | .rangeFunc f _ a b=>!e&&jw S f&&gh P S d e a&&gh P S d e b
structure Fit(P:cf)(S:cm->Bool)(dim:Bool):Prop where
 zero:∀t i z,P.info? t=some i->i.zero=some z->ep 3 z=true
 fn:∀f,S f=true->∃fn c,P.funcs[f]? =some fn/\(fn.name== "runtime.NumGoroutine")=false/\fn.body=some c
 globals:P.globals.size=0
 depth:5<=P.depth
 bad:P.info? qO=none
abbrev SV(P:cf)(ρ:cR)(s c:Sem ce):Prop:=SR P (λρ a b=>VR ρ a b) ρ s c
abbrev SE(P:cf)(ρ:cR){c:Type}(s d:Sem c):Prop:=SR P (λ_ a b=>a=b) ρ s d
section
variable{P:cf}{ρ:cR}
def SR.du{d e g i:Type}{A:cR->d->e->Prop}{B:cR->g->i->Prop}{ρ:cR}{s:Sem d}{j:Sem e}{f:d->Sem g}{f':e->Sem i}(h:SR P A ρ s j) (k:∀c a b,cR.Le ρ c->A c a b->SR P B c (f a) (f' b)):SR P B ρ (s>>=f) (j>>=f'):=SR.bind h k
def SR.dT{c d:Type}{A:cR->c->d->Prop}{a:c}{b:d}(h:A ρ a b):SR P A ρ (Pure.pure a) (Pure.pure b):=.pure h
theorem SR.stuck{α b:Type}{A:cR->α->b->Prop}{a:String}{s:Sem b}:SR P A ρ (Go.stuck (α:=α) a) s:=.dead rfl
def SR.fA{α a:Type}{A:cR->α->a->Prop}{u:Unsupported}{s:Sem a}(b:Halt.dead (.unsupported u)=true:=by rfl):SR P A ρ (Go.unsupported (α:=α) u) s:=.dead b
def SR.prog:SR P (λρ a b=>a=P/\b=P.ir ρ.fs) ρ Go.program Go.program:=.program (.pure ⟨rfl,rfl⟩)
def SR.qA{q r:Type}{A B:cR->q->r->Prop}{s:Sem q}{t:Sem r}(h:SR P A ρ s t)(k:∀d a b,cR.Le ρ d->A d a b->B d a b):SR P B ρ s t:=by
 induction h with
 |pure h=>exact .pure (k _ _ _ (.refl _) h)
 |load i _ c=>exact .load i λv z j=>c v z j k
 |store i j _ c=>exact .store i j (c k)
 |new e _ c=>exact .new e λn C u w f=>c n C u w f λd a b l=>k d a b ((cR.tk _ _ _ u w).trans l)
 |getObj g _ c=>exact .getObj g λo D e p=>c o D e p k
 |setObj g e p _ c=>exact .setObj g e p (c k)
 |shape g _ _ c E=>exact .shape g (λf x=>c f x k) λf m y=>E f m y k
 |choose _ c=>exact .choose λn=>c n k
 |program _ c=>exact .program (c k)
 |noRoom _ c=>exact .noRoom (c k)
 |panic h F=>exact .panic h F
 |dead G=>exact .dead G
 |never h=>exact .never h
def ff(a:Array Func):(P.ir a).underlying=P.underlying:=rfl
def jx(a:Array Func):(P.ir a).depth=P.depth:=rfl
def gW(a:Array Func):(P.ir a).bytesOf=P.bytesOf:=rfl
def gX(a:Array Func):(P.ir a).cellsOf=P.cellsOf:=rfl
theorem eB(a:Array Func):∀(d:Nat) (t:cg),(P.ir a).eqGuardType d t=P.eqGuardType d t
 |0,t=>by unfold Program.eqGuardType;rfl
 |d+1,t=>by unfold Program.eqGuardType;simp only[ff,eB a d]
theorem qQ(a:Array Func):∀(d:Nat),cellOfByte (P.ir a) d=cellOfByte P d
 |0=>by funext t o;unfold cellOfByte;rfl
 |d+1=>by funext t o;unfold cellOfByte;rw[qQ a d];rfl
theorem eL(a:Array Func):∀(d:Nat),byteOfCell (P.ir a) d=byteOfCell P d
 |0=>by funext t o;unfold byteOfCell;rfl
 |d+1=>by funext t o;unfold byteOfCell;rw[eL a d];rfl
def fl(a:Array Func):cellAtBytes (P.ir a)=cellAtBytes P:=by funext d e c o b;unfold cellAtBytes;rw[eL,qQ];rfl
theorem Bg(a:Array Func):∀(d:Nat),(P.ir a).alikeButTags d=P.alikeButTags d
 |0=>by funext t o;unfold Program.alikeButTags;rfl
 |d+1=>by funext t o;unfold Program.alikeButTags;rw[Bg a d]
def AZ(a:Array Func):(P.ir a).stoodInAs=P.stoodInAs:=by funext t;unfold Program.stoodInAs;rw[show(P.ir a).depth=P.depth from rfl,Bg];rfl
def eN(a:Array Func):(P.ir a).stoodInHeld=P.stoodInHeld:=by funext t;unfold Program.stoodInHeld;rw[AZ]
def SR.info(t:cg):SR P (λ_ a b=>a=b/\P.info? t=some a) ρ (typeInfo t) (typeInfo t):=by
 unfold typeInfo;refine SR.prog.du λc a b _ h=>?_;obtain⟨rfl,rfl⟩:=h;try simp only[ff,jx,gX,gW,eB,eL,fl,eN]
 split;rename_i i d;exact .dT ⟨rfl,d⟩;exact .stuck
def SR.under(t:cg):SR P (λ_ a b=>a=b/\P.underlying t=some a) ρ (Go.underlying t) (Go.underlying t):=by
 unfold Go.underlying;refine SR.prog.du λc a b _ h=>?_;obtain⟨rfl,rfl⟩:=h;try simp only[ff,jx,gX,gW,eB,eL,fl,eN]
 split;rename_i i d;exact .dT ⟨rfl,d⟩;exact .stuck
theorem SR.size(t:cg):SR P (λ_ a b=>a=b/\∃i,P.info? t=some i/\a=i.size) ρ (Go.sizeOf t) (Go.sizeOf t):=by unfold Go.sizeOf;refine(SR.info t).du λc a b _ h=>?_;obtain⟨rfl,h⟩:=h;exact .dT ⟨rfl,a,h,rfl⟩
theorem SR.isAgg(t:cg):SE P ρ (Go.isAgg t) (Go.isAgg t):=by unfold Go.isAgg;refine(SR.under t).du λc a b _ h=>?_;obtain⟨rfl,h⟩:=h;split<;>exact .dT rfl
theorem SR.zero{S:cm->Bool}(F:Fit P S D)(t:cg):SV P ρ (zeroValue t) (zeroValue t):=by unfold zeroValue;refine(SR.info t).du λc a b _ h=>?_;obtain⟨rfl,h⟩:=h;split;rename_i z d;exact .dT (oT (F.zero t a z h d));exact .fA
theorem SR.goPanic{α a:Type}{A:cR->α->a->Prop}(h:VR ρ x y)(b:wM ρ x):SR P A ρ (Go.goPanic (α:=α) x) (Go.goPanic (α:=a) y):=.panic h b
def SR.jc{α f:Type}{A:cR->α->f->Prop}(e:RuntimeError)(g:(∃x y s c,e=.bounds x y s c)\/(∃m,e=.error m)\/(∃m,e=.plain m)\/e=.nilDeref):SR P A ρ (runtimePanic (α:=α) e) (runtimePanic (α:=f) e):=by
 unfold runtimePanic;refine SR.prog.du λi a b _ h=>?_;obtain⟨rfl,rfl⟩:=h;try simp only[ff,jx,gX,gW,eB,eL,fl,eN]
 rcases g with⟨x,y,s,c,rfl⟩|⟨m,rfl⟩|⟨m,rfl⟩|rfl;exact .panic (.iface _ (oT (d:=1) (by simp[ep]))) (.inr λ_ _ _ h=>by cases h);exact .panic (.iface _ (.string _)) (.inr λ_ _ _ h=>by cases h);exact .panic (.iface _ (.string _)) (.inr λ_ _ _ h=>by cases h);exact .panic (.iface _ (.string _)) (.inr λ_ _ _ h=>by cases h)
theorem SR.boundsPanic{α e:Type}{A:cR->α->e->Prop}(k:IntKind)(x y:Int)(c:BoundsCode):SR P A ρ (Go.boundsPanic (α:=α) k x y c) (Go.boundsPanic (α:=e) k x y c):=by unfold Go.boundsPanic;dsimp only;split;refine SR.du (A:=λ_ a b=>a=b) ?_ λd a b _ h=>?_;refine SR.du (A:=λ_ a b=>a=b) (.choose λn=>.pure rfl) λd a b _ h=>?_;subst h;exact .dT rfl;subst h;exact SR.jc _ (.inl ⟨_,_,_,_,rfl⟩);refine SR.du (A:=λ_ a b=>a=b) (.dT rfl) λd a b _ h=>?_;subst h;exact SR.jc _ (.inl ⟨_,_,_,_,rfl⟩)
def SR.ld{a:Addr}(b:AR ρ h a):SV P ρ (Go.load h) (Go.load a):=.load b λ_ _ c=>.pure c
def SR.st{a:Addr}(b:AR ρ h a)(c:VR ρ x y):SE P ρ (Go.store h x) (Go.store a y):=.store b c (.pure rfl)
theorem SR.loadCellsFrom{f:Addr}:∀(n i:Nat) {ρ:cR} {c a:Array ce},AR ρ h f->eT ρ c a->SR P (λρ h b=>eT ρ h b) ρ (Go.loadCellsFrom h i n c) (Go.loadCellsFrom f i n a)
 |0,_,_,_,_,_,e=>.dT e
 |n+1,i,_,_,_,g,e=>(SR.ld (g.add i)).du λ_ _ _ d j=>SR.loadCellsFrom n (i+1) (g.mono d) ((e.mono d).push j)
theorem SR.loadCells{a:Addr}(c:AR ρ h a)(n:Nat):SR P (λρ h b=>eT ρ h b) ρ (Go.loadCells h n) (Go.loadCells a n):=SR.loadCellsFrom n 0 c .nil
theorem SR.storeCells{e:Addr}:∀{d a:List ce} (i:Nat) {ρ:cR},AR ρ h e->qo ρ d a->SE P ρ (Go.storeCells h d i) (Go.storeCells e a i)
 |[],_,i,_,_,b=>by cases b;exact .dT rfl
 |v::d,_,i,ρ,f,b=>by
  cases b with
  |cons b t=>
   unfold Go.storeCells;refine(SR.st (f.add i) b).du λg _ _ c _=>?_;exact SR.storeCells (i+1) (f.mono c) (t.mono c)
theorem SR.loadVar{f:Addr}(t:cg)(g:AR ρ h f):SV P ρ (Go.loadVar t h) (Go.loadVar t f):=by unfold Go.loadVar;refine(SR.isAgg t).du λi x m b j=>?_;subst j;split;refine(SR.size t).du λd n o a k=>?_;obtain⟨rfl,_⟩:=k;refine(SR.loadCells ((g.mono b).mono a) n).du λe c p _ l=>?_;exact .dT l.agg;exact SR.ld (g.mono b)
theorem SR.storeVar{d:Addr}(t:cg)(f:AR ρ h d)(g:VR ρ x y):SE P ρ (Go.storeVar t h x) (Go.storeVar t d y):=by unfold Go.storeVar;refine(SR.size t).du λi n k a j=>?_;obtain⟨rfl,_⟩:=j;have e:=(g.mono a).cells;by_cases b:x.cells.size=n;have c:y.cells.size=n:=e.size▸b;simp only[b,c,ne_eq,not_true_eq_false,eo];exact(SR.storeCells 0 (f.mono a) e.list).qA λ_ _ _ _ _=>trivial;simp only[ne_eq,b,not_false_eq_true,cX];exact .stuck
theorem SR.newRow(t:cg)(h:eT ρ W X):SR P (λρ a b=>AR ρ a b) ρ (Go.newRow t W) (Go.newRow t X):=by unfold Go.newRow;refine SR.du (A:=λρ a b=>ρ.r a b/\ρ.sh b=none) (.new (.cells h λ_ h=>h) λn g i j d=>.pure ⟨cR.rW _ _ _ _ _,d⟩) λe a b f c=>?_;exact .dT (.of _ _ c.1 c.2)
theorem SR.newVar(t:cg)(h:VR ρ x y):SR P (λρ a b=>AR ρ a b) ρ (Go.newVar t x) (Go.newVar t y):=SR.newRow t h.cells
theorem SR.part(t:cg)(h:eT ρ W X)(b:Nat):SV P ρ (Go.part t W b) (Go.part t X b):=by unfold Go.part;refine(SR.isAgg t).du λg x l c i=>?_;subst i;split;refine(SR.size t).du λd n m a j=>?_;obtain⟨rfl,_⟩:=j;exact .dT (((h.mono c).mono a).extract _ _).agg;rcases(h.mono c).get? b with⟨e,f⟩|⟨v,o,e,f,k⟩;rw[e];exact .stuck;rw[e,f];exact .dT k
def SR.intOf(h:VR ρ x y):SR P (λ_ a b=>a=b/\x=.int a.1 a.2/\y=.int a.1 a.2) ρ (asIntOf x) (asIntOf y):=by cases h<;>first|exact .dT ⟨rfl,rfl,rfl⟩|exact .fA|exact .stuck
theorem SR.asInt(h:VR ρ x y):SE P ρ (Go.asInt x) (Go.asInt y):=by unfold Go.asInt;refine(SR.intOf h).du λ_ a b _ h=>?_;obtain⟨rfl,_⟩:=h;exact .dT rfl
theorem SR.asBool(h:VR ρ x y):SE P ρ (Go.asBool x) (Go.asBool y):=by cases h<;>first|exact .dT rfl|exact .stuck
theorem SR.asAddr(h:VR ρ x y):SR P (λρ a b=>AR ρ a b) ρ (Go.asAddr x) (Go.asAddr y):=by cases h<;>first|exact .dT ‹_›|exact SR.jc _ (.inr (.inr (.inr rfl)))|exact .stuck
def SR.sure(h:VR ρ x y):SR P (λρ a b=>AR ρ a b) ρ (Instr.sureAddr x) (Instr.sureAddr y):=by cases h<;>first|exact .dT ‹_›|exact .stuck
theorem SR.asAgg(h:VR ρ x y):SR P (λρ a b=>eT ρ a b) ρ (Go.asAgg x) (Go.asAgg y):=by cases h<;>first|exact .dT ⟨‹_›,‹_›⟩|exact .stuck
end
end Go.cF
namespace Go.Proofs
open Go
noncomputable def V.xX:Code:=
 (Code.region 0 #[{dst:=some 9,op:=Op.move (.const (.bool true)),type:=4,pos:= "",after:=#[],guard:=none},{dst:=some 1,op:=Op.makeFunc (.func 227) #[] #[.tmp 0,.tmp 1,.tmp 2,.tmp 3,.tmp 4,.tmp 5,.tmp 6,.tmp 7,.tmp 8,.tmp 9],type:=0,pos:= "",after:=#[],guard:=none}] false).seq
 ((Code.region 1 #[{dst:=some 2,op:=Op.move (.const (.bool true)),type:=4,pos:= "",after:=#[],guard:=none},{dst:=some 2,op:=Op.move (.const (.bool false)),type:=4,pos:= "",after:=#[],guard:=none}] true).seq
 ((Code.cond (.tmp 2) ((Code.region 2 #[{dst:=some 3,op:=Op.box 200 (.tmp 1),type:=0,pos:= "",after:=#[],guard:=none}] false).seq (Code.region 3 #[{dst:=none,op:=Op.panic (.const (.iface 3 (.int .i64 7))),type:=0,pos:= "",after:=#[],guard:=none}] false)) .skip).seq
 ((Code.region 4 #[{dst:=some 3,op:=Op.build 245 #[(0,.tmp 0)],type:=245,pos:= "",after:=#[],guard:=none}] false).seq
 ((Code.region 5 #[{dst:=some 4,op:=Op.box 245 (.tmp 3),type:=0,pos:= "",after:=#[],guard:=none}] false).seq
 ((Code.region 6 #[{dst:=some 5,op:=Op.call {callee:=.value (.func 216),args:=#[.tmp 4],argTypes:=#[243]},type:=0,pos:= "",after:=#[],guard:=none}] false).seq
 ((Code.region 7 #[{dst:=some 6,op:=Op.fieldAddr 245 (.tmp 4) 3,type:=0,pos:= "",after:=#[],guard:=none}] false).seq
 ((Code.region 8 #[{dst:=some 7,op:=Op.load 199 (.tmp 6),type:=199,pos:= "",after:=#[],guard:=none}] false).seq
 Code.ret)))))))
noncomputable def V.f163:Func:={Tryz.f163 with ntmps:=9,results:=#[.tmp 7],body:=some V.xX}
section
variable(P:cf)(fs:Array Func)
abbrev V.sub:cf:=P.ir fs
theorem V.Ma(t:cg):(V.sub P fs).info? t=P.info? t:=rfl
theorem V.ID(t:cg):(V.sub P fs).underlying t=P.underlying t:=rfl
theorem V.py(t:cg)(w:cd):Sem.run (V.sub P fs) (typeInfo t) w=Sem.run P (typeInfo t) w:=by
 simp only[typeInfo,Sem.run_bind,run_program,Result.andThen_ok];cases P.info? t with
 |none=>simp only[run_stuck]
 |some i=>simp only[Sem.run_pure]
theorem V.nT(t:cg)(w:cd):Sem.run (V.sub P fs) (underlying t) w=Sem.run P (underlying t) w:=by
 simp only[underlying,Sem.run_bind,run_program,Result.andThen_ok,V.ID];cases P.underlying t with
 |none=>simp only[run_stuck]
 |some i=>simp only[Sem.run_pure]
theorem V.GO(t:cg)(w:cd):Sem.run (V.sub P fs) (sizeOf t) w=Sem.run P (sizeOf t) w:=by simp only[sizeOf,Sem.run_bind,V.py,Sem.run_pure]
theorem V.A0(t:cg)(w:cd):Sem.run (V.sub P fs) (zeroValue t) w=Sem.run P (zeroValue t) w:=by
 simp only[zeroValue,Sem.run_bind,V.py];cases Sem.run P (typeInfo t) w with
 |ok d w=>simp only[Result.andThen_ok];cases d.zero with
  |none=>simp only[run_unsupported]
  |some z=>simp only[Sem.run_pure]
 |halt h w=>simp only[Result.andThen_halt]
theorem V.JK(t:cg)(w:cd):Sem.run (V.sub P fs) (isAgg t) w=Sem.run P (isAgg t) w:=by
 simp only[isAgg,Sem.run_bind,V.nT];cases Sem.run P (underlying t) w with
 |ok d w=>
  simp only[Result.andThen_ok];split<;>simp only[Sem.run_pure]
 |halt h w=>simp only[Result.andThen_halt]
end
theorem V.JL(P:cf)(fs:Array Func):(V.sub P fs).depth=P.depth:=rfl
theorem V.xF(P:cf)(fs:Array Func)(n:Nat)(t:cg):(V.sub P fs).eqGuardType n t=P.eqGuardType n t:=Go.cF.eB fs n t
theorem V.xG(P:cf)(fs:Array Func)(t:cg):(V.sub P fs).stoodInHeld t=P.stoodInHeld t:=congrFun (Go.cF.eN fs) t
noncomputable def V.prog:cf:=V.sub Tryz.prog (Tryz.funcs.setIfInBounds 163 V.f163)
theorem V.GP(P:cf)(fs:Array Func):(V.sub P fs).toTables=P.toTables:=rfl
@[simp] theorem V.Bh:V.prog.toTables=Tryz.prog.toTables:=V.GP _ _
@[simp] theorem V.sR (t:cg):V.prog.underlying t=Tryz.prog.underlying t:=V.ID _ _ _
@[simp] theorem V.IE (t:cg):V.prog.info? t=Tryz.prog.info? t:=V.Ma _ _ _
@[simp] theorem V.D5 (t:cg) (w:cd):Sem.run V.prog (typeInfo t) w=Sem.run Tryz.prog (typeInfo t) w:=V.py _ _ _ _
@[simp] theorem V.sizeOf_eq (t:cg) (w:cd):Sem.run V.prog (sizeOf t) w=Sem.run Tryz.prog (sizeOf t) w:=V.GO _ _ _ _
@[simp] theorem V.vJ (t:cg) (w:cd):Sem.run V.prog (underlying t) w=Sem.run Tryz.prog (underlying t) w:=V.nT _ _ _ _
@[simp] theorem V.T6 (t:cg) (w:cd):Sem.run V.prog (isAgg t) w=Sem.run Tryz.prog (isAgg t) w:=V.JK _ _ _ _
@[simp] theorem V.Ph (t:cg) (w:cd):Sem.run V.prog (zeroValue t) w=Sem.run Tryz.prog (zeroValue t) w:=V.A0 _ _ _ _
@[simp] theorem V.T7:V.prog.depth=Tryz.prog.depth:=V.JL _ _
@[simp] theorem V.Mb (n:Nat) (t:cg):V.prog.eqGuardType n t=Tryz.prog.eqGuardType n t:=V.xF _ _ _ _
@[simp] theorem V.Mc (t:cg):V.prog.stoodInHeld t=Tryz.prog.stoodInHeld t:=V.xG _ _ _
@[simp] def V.func26:V.prog.funcs[26]? =some Tryz.f26:=by kernel_rfl
@[simp] def V.func27:V.prog.funcs[27]? =some Tryz.f27:=by kernel_rfl
@[simp] def V.func28:V.prog.funcs[28]? =some Tryz.f28:=by kernel_rfl
@[simp] def V.func30:V.prog.funcs[30]? =some Tryz.f30:=by kernel_rfl
@[simp] def V.func35:V.prog.funcs[35]? =some Tryz.f35:=by kernel_rfl
@[simp] def V.func38:V.prog.funcs[38]? =some Tryz.f38:=by kernel_rfl
@[simp] def V.func42:V.prog.funcs[42]? =some Tryz.f42:=by kernel_rfl
@[simp] def V.func44:V.prog.funcs[44]? =some Tryz.f44:=by kernel_rfl
@[simp] def V.func48:V.prog.funcs[48]? =some Tryz.f48:=by kernel_rfl
@[simp] def V.func53:V.prog.funcs[53]? =some Tryz.f53:=by kernel_rfl
@[simp] def V.func55:V.prog.funcs[55]? =some Tryz.f55:=by kernel_rfl
@[simp] def V.func58:V.prog.funcs[58]? =some Tryz.f58:=by kernel_rfl
@[simp] def V.func59:V.prog.funcs[59]? =some Tryz.f59:=by kernel_rfl
@[simp] def V.func69:V.prog.funcs[69]? =some Tryz.f69:=by kernel_rfl
@[simp] def V.func71:V.prog.funcs[71]? =some Tryz.f71:=by kernel_rfl
@[simp] def V.func95:V.prog.funcs[95]? =some Tryz.f95:=by kernel_rfl
@[simp] def V.func96:V.prog.funcs[96]? =some Tryz.f96:=by kernel_rfl
@[simp] def V.func97:V.prog.funcs[97]? =some Tryz.f97:=by kernel_rfl
@[simp] def V.func104:V.prog.funcs[104]? =some Tryz.f104:=by kernel_rfl
@[simp] def V.func105:V.prog.funcs[105]? =some Tryz.f105:=by kernel_rfl
@[simp] def V.func106:V.prog.funcs[106]? =some Tryz.f106:=by kernel_rfl
@[simp] def V.func107:V.prog.funcs[107]? =some Tryz.f107:=by kernel_rfl
@[simp] def V.func108:V.prog.funcs[108]? =some Tryz.f108:=by kernel_rfl
@[simp] def V.func109:V.prog.funcs[109]? =some Tryz.f109:=by kernel_rfl
@[simp] def V.func113:V.prog.funcs[113]? =some Tryz.f113:=by kernel_rfl
@[simp] def V.func114:V.prog.funcs[114]? =some Tryz.f114:=by kernel_rfl
@[simp] def V.func115:V.prog.funcs[115]? =some Tryz.f115:=by kernel_rfl
@[simp] def V.func116:V.prog.funcs[116]? =some Tryz.f116:=by kernel_rfl
@[simp] def V.func117:V.prog.funcs[117]? =some Tryz.f117:=by kernel_rfl
@[simp] def V.func119:V.prog.funcs[119]? =some Tryz.f119:=by kernel_rfl
@[simp] def V.func120:V.prog.funcs[120]? =some Tryz.f120:=by kernel_rfl
@[simp] def V.func121:V.prog.funcs[121]? =some Tryz.f121:=by kernel_rfl
@[simp] def V.func122:V.prog.funcs[122]? =some Tryz.f122:=by kernel_rfl
@[simp] def V.func123:V.prog.funcs[123]? =some Tryz.f123:=by kernel_rfl
@[simp] def V.func125:V.prog.funcs[125]? =some Tryz.f125:=by kernel_rfl
@[simp] def V.func128:V.prog.funcs[128]? =some Tryz.f128:=by kernel_rfl
@[simp] def V.call128 (a:Array ce) (w:cd):Sem.run V.prog (callFunc 128 a) w=Result.ok (Next.enter 128 a) w:=by kernel_rfl
@[simp] def V.func129:V.prog.funcs[129]? =some Tryz.f129:=by kernel_rfl
@[simp] def V.func130:V.prog.funcs[130]? =some Tryz.f130:=by kernel_rfl
@[simp] def V.func131:V.prog.funcs[131]? =some Tryz.f131:=by kernel_rfl
@[simp] def V.func133:V.prog.funcs[133]? =some Tryz.f133:=by kernel_rfl
@[simp] def V.func134:V.prog.funcs[134]? =some Tryz.f134:=by kernel_rfl
@[simp] def V.func135:V.prog.funcs[135]? =some Tryz.f135:=by kernel_rfl
@[simp] def V.func137:V.prog.funcs[137]? =some Tryz.f137:=by kernel_rfl
@[simp] def V.func144:V.prog.funcs[144]? =some Tryz.f144:=by kernel_rfl
@[simp] def V.func146:V.prog.funcs[146]? =some Tryz.f146:=by kernel_rfl
@[simp] def V.func153:V.prog.funcs[153]? =some Tryz.f153:=by kernel_rfl
@[simp] def V.func154:V.prog.funcs[154]? =some Tryz.f154:=by kernel_rfl
@[simp] def V.func155:V.prog.funcs[155]? =some Tryz.f155:=by kernel_rfl
@[simp] def V.func156:V.prog.funcs[156]? =some Tryz.f156:=by kernel_rfl
@[simp] def V.func157:V.prog.funcs[157]? =some Tryz.f157:=by kernel_rfl
@[simp] def V.func158:V.prog.funcs[158]? =some Tryz.f158:=by kernel_rfl
@[simp] def V.func159:V.prog.funcs[159]? =some Tryz.f159:=by kernel_rfl
@[simp] def V.func160:V.prog.funcs[160]? =some Tryz.f160:=by kernel_rfl
@[simp] def V.func161:V.prog.funcs[161]? =some Tryz.f161:=by kernel_rfl
@[simp] def V.func162:V.prog.funcs[162]? =some Tryz.f162:=by kernel_rfl
@[simp] def V.func163:V.prog.funcs[163]? =some V.f163:=by kernel_rfl
@[simp] def V.func164:V.prog.funcs[164]? =some Tryz.f164:=by kernel_rfl
@[simp] def V.func165:V.prog.funcs[165]? =some Tryz.f165:=by kernel_rfl
@[simp] def V.func166:V.prog.funcs[166]? =some Tryz.f166:=by kernel_rfl
@[simp] def V.func167:V.prog.funcs[167]? =some Tryz.f167:=by kernel_rfl
@[simp] def V.func168:V.prog.funcs[168]? =some Tryz.f168:=by kernel_rfl
@[simp] def V.func169:V.prog.funcs[169]? =some Tryz.f169:=by kernel_rfl
@[simp] def V.func170:V.prog.funcs[170]? =some Tryz.f170:=by kernel_rfl
@[simp] def V.func171:V.prog.funcs[171]? =some Tryz.f171:=by kernel_rfl
@[simp] def V.func172:V.prog.funcs[172]? =some Tryz.f172:=by kernel_rfl
@[simp] def V.func173:V.prog.funcs[173]? =some Tryz.f173:=by kernel_rfl
@[simp] def V.func174:V.prog.funcs[174]? =some Tryz.f174:=by kernel_rfl
@[simp] def V.func175:V.prog.funcs[175]? =some Tryz.f175:=by kernel_rfl
@[simp] def V.func176:V.prog.funcs[176]? =some Tryz.f176:=by kernel_rfl
@[simp] def V.func178:V.prog.funcs[178]? =some Tryz.f178:=by kernel_rfl
@[simp] def V.func179:V.prog.funcs[179]? =some Tryz.f179:=by kernel_rfl
@[simp] def V.func180:V.prog.funcs[180]? =some Tryz.f180:=by kernel_rfl
@[simp] def V.func184:V.prog.funcs[184]? =some Tryz.f184:=by kernel_rfl
@[simp] def V.func185:V.prog.funcs[185]? =some Tryz.f185:=by kernel_rfl
@[simp] def V.func186:V.prog.funcs[186]? =some Tryz.f186:=by kernel_rfl
@[simp] def V.func190:V.prog.funcs[190]? =some Tryz.f190:=by kernel_rfl
@[simp] def V.func193:V.prog.funcs[193]? =some Tryz.f193:=by kernel_rfl
@[simp] def V.func194:V.prog.funcs[194]? =some Tryz.f194:=by kernel_rfl
@[simp] def V.call194 (a:Array ce) (w:cd):Sem.run V.prog (callFunc 194 a) w=Result.ok (Next.enter 194 a) w:=by kernel_rfl
@[simp] def V.func195:V.prog.funcs[195]? =some Tryz.f195:=by kernel_rfl
@[simp] def V.func196:V.prog.funcs[196]? =some Tryz.f196:=by kernel_rfl
@[simp] def V.func197:V.prog.funcs[197]? =some Tryz.f197:=by kernel_rfl
@[simp] def V.func198:V.prog.funcs[198]? =some Tryz.f198:=by kernel_rfl
@[simp] def V.func199:V.prog.funcs[199]? =some Tryz.f199:=by kernel_rfl
@[simp] def V.func200:V.prog.funcs[200]? =some Tryz.f200:=by kernel_rfl
@[simp] def V.func215:V.prog.funcs[215]? =some Tryz.f215:=by kernel_rfl
@[simp] def V.call215 (a:Array ce) (w:cd):Sem.run V.prog (callFunc 215 a) w=Result.ok (Next.enter 215 a) w:=by kernel_rfl
@[simp] def V.func216:V.prog.funcs[216]? =some Tryz.f216:=by kernel_rfl
@[simp] def V.call216 (a:Array ce) (w:cd):Sem.run V.prog (callFunc 216 a) w=Result.ok (Next.enter 216 a) w:=by kernel_rfl
@[simp] def V.func227:V.prog.funcs[227]? =some Tryz.f227:=by kernel_rfl
@[simp] def V.call227 (a:Array ce) (w:cd):Sem.run V.prog (callFunc 227 a) w=Result.ok (Next.enter 227 a) w:=by kernel_rfl
@[simp] def V.func228:V.prog.funcs[228]? =some Tryz.f228:=by kernel_rfl
@[simp] def V.func229:V.prog.funcs[229]? =some Tryz.f229:=by kernel_rfl
end Go.Proofs
namespace Go.Proofs
abbrev Tryz.link:Go.Conc.Lib.WgLink:={add:=187,done:=189,wait:=192,relMerge:=202,disable:=203,enable:=204,inBubble:=205,associate:=206,fatal:=207,uOr:=208,uAdd:=209,raceRead:=210,uLoad:=211,uStore:=212,disassociate:=213,semrelease:=214,acquire:=217,isAssociated:=218,uCas:=219,raceWrite:=220,semacquire:=221,orU64:=223,addU64:=224,loadU64:=225,storeU64:=226,casU64:=230,tWgP:=255,tUP:=257,tAssoc:=258,tWg:=241,tAU:=238,tU64:=119,tUint:=132,tU32:=239,tPU32:=262,tPAU:=270,tPU64:=272,tNoCopy:=234,tANoCopy:=235,tAlign64:=236}
def Tryz.wO:Go.Conc.Lib.WgLib Tryz.prog Tryz.link:=
 ⟨Tryz.func187,Tryz.func189,Tryz.func192,Tryz.func202,Tryz.func203,Tryz.func204,Tryz.func205,Tryz.func206,Tryz.func207,Tryz.func208,Tryz.func209,Tryz.func210,Tryz.func211,Tryz.func212,Tryz.func213,Tryz.func214,Tryz.func217,Tryz.func218,Tryz.func219,Tryz.func220,Tryz.func221,Tryz.func223,Tryz.func224,Tryz.func225,Tryz.func226,Tryz.func230,Tryz.underlying255,Tryz.runUnderlying255,Tryz.sizeOf255,Tryz.isAgg255,Tryz.zeroValue255,Tryz.underlying257,Tryz.runUnderlying257,Tryz.sizeOf257,Tryz.isAgg257,Tryz.zeroValue257,Tryz.underlying258,Tryz.runUnderlying258,Tryz.sizeOf258,Tryz.isAgg258,Tryz.zeroValue258,Tryz.underlying241,Tryz.runUnderlying241,Tryz.sizeOf241,Tryz.isAgg241,Tryz.zeroValue241,Tryz.underlying238,Tryz.runUnderlying238,Tryz.sizeOf238,Tryz.isAgg238,Tryz.zeroValue238,Tryz.underlying119,Tryz.runUnderlying119,Tryz.sizeOf119,Tryz.isAgg119,Tryz.zeroValue119,Tryz.underlying132,Tryz.runUnderlying132,Tryz.sizeOf132,Tryz.isAgg132,Tryz.zeroValue132,Tryz.underlying239,Tryz.runUnderlying239,Tryz.sizeOf239,Tryz.isAgg239,Tryz.zeroValue239,Tryz.underlying262,Tryz.runUnderlying262,Tryz.sizeOf262,Tryz.isAgg262,Tryz.zeroValue262,Tryz.underlying270,Tryz.runUnderlying270,Tryz.sizeOf270,Tryz.isAgg270,Tryz.zeroValue270,Tryz.underlying272,Tryz.runUnderlying272,Tryz.sizeOf272,Tryz.isAgg272,Tryz.zeroValue272,Tryz.underlying0,Tryz.runUnderlying0,Tryz.sizeOf0,Tryz.isAgg0,Tryz.zeroValue0,Tryz.underlying3,Tryz.runUnderlying3,Tryz.sizeOf3,Tryz.isAgg3,Tryz.zeroValue3,Tryz.underlying4,Tryz.runUnderlying4,Tryz.sizeOf4,Tryz.isAgg4,Tryz.zeroValue4,Tryz.underlying9,Tryz.runUnderlying9,Tryz.sizeOf9,Tryz.isAgg9,Tryz.zeroValue9,Tryz.underlying20,Tryz.runUnderlying20,Tryz.sizeOf20,Tryz.isAgg20,Tryz.zeroValue20,Tryz.underlying21,Tryz.runUnderlying21,Tryz.sizeOf21,Tryz.isAgg21,Tryz.zeroValue21,(by kernel_rfl),(by kernel_rfl)⟩
end Go.Proofs
namespace Go.cF
section
variable{P:cf}{ρ:cR}
theorem SR.Bi{d g:Type}{f:d->Sem g}:∀(l:List d) {ρ:cR},(∀x∈l,∀c,SE P c (f x) (f x))->SE P ρ (l.mapM f) (l.mapM f)
 |[],_,_=>by rw[List.mapM_nil];exact .dT rfl
 |x::l,ρ,h=>by rw[List.mapM_cons];refine(h x (by simp) ρ).du λ_ a b _ e=>?_;subst e;refine(SR.Bi l λy i=>h y (by simp[i])).du λ_ a b _ e=>?_;subst e;exact .dT rfl
theorem SR.mapM{g i:Type}{f:g->Sem i}(c:Array g)(h:∀x∈c,∀d,SE P d (f x) (f x)):SE P ρ (c.mapM f) (c.mapM f):=by rw[Iz];refine SR.du (f:=λl=>Pure.pure l.toArray) (f':=λl=>Pure.pure l.toArray) (SR.Bi c.toList λx j=>h x (by simpa using j)) λ_ a b _ e=>?_;subst e;exact .dT rfl
theorem SR.forIn_list{k g:Type}{f m:k->g->Sem (ForInStep g)}:∀(l:List k) (b:g) {ρ:cR},(∀x∈l,∀r c,cR.Le ρ c->SE P c (f x r) (m x r))->SE P ρ (forIn l b f) (forIn l b m)
 |[],b,_,_=>by simp only[List.forIn_nil];exact .dT rfl
 |x::l,b,ρ,h=>by
  simp only[List.forIn_cons];refine(h x (by simp) b ρ (.refl _)).du λi a o j e=>?_;subst e;cases a with
  |done b=>exact .dT rfl
  |yield b=>exact SR.forIn_list l b λy n r c d=>h y (by simp[n]) r c (j.trans d)
theorem SR.alloc{S:cm->Bool}(F:Fit P S D)(t:cg)(v:ce):SV P ρ (Instr.alloc t true v) (Instr.alloc t true v):=by unfold Instr.alloc;refine(SR.zero F t).du λc z g d e=>?_;refine SR.du (SR.newVar t e) λb a h _ f=>?_;exact .dT (.ptr f)
theorem SR.box(t:cg)(h:VR ρ x y):SV P ρ (Instr.box t x) (Instr.box t y):=by unfold Instr.box;refine SR.du (SR.newVar t h) λb a d _ c=>?_;exact .dT (.ptr c)
inductive oy (ρ:cR):List (Nat×ce)->List (Nat×ce)->Prop
 |nil:oy ρ [] []
 |cons {i:Nat} {v v':ce} {l l':List (Nat×ce)} (h:VR ρ v v') (t:oy ρ l l'):oy ρ ((i,v)::l) ((i,v')::l')
theorem oy.mono{ρ a:cR}(b:cR.Le ρ a){l c:List (Nat×ce)}(h:oy ρ l c):oy a l c:=by
 induction h with
 |nil=>exact .nil
 |cons h _ d=>exact .cons (h.mono b) d
theorem vK{ev ev':dj->ce}:∀{l:List (Nat×dj)},(∀x∈l,VR ρ (ev x.2) (ev' x.2))->oy ρ (l.map λ(i,x)=>(i,ev x)) (l.map λ(i,x)=>(i,ev' x))
 |[],_=>.nil
 |(i,x)::l,h=>.cons (h (i,x) (by simp)) (vK λy a=>h y (by simp[a]))
def Md(h:qo ρ M Y)(c:Nat):∀(n:Nat) {b a:Array ce},eT ρ b a->
 eT ρ ((M.zipIdx n).foldl (λb (x:ce×Nat)=>b.setIfInBounds (c+x.2) x.1) b) ((Y.zipIdx n).foldl (λb (x:ce×Nat)=>b.setIfInBounds (c+x.2) x.1) a):=by
 induction h with
 |nil=>exactλn b a d=>d
 |cons h _ e=>
  intro n b a d;simp only[List.zipIdx_cons,mP];exact e (n+1) (d.set _ h)
def GQ(place:Nat->Option (Nat×Nat)){l b:List (Nat×ce)}(h:oy ρ l b):∀{c a:Array ce},eT ρ c a->(Instr.fill place c l=none/\Instr.fill place a b=none)\/∃r f,Instr.fill place c l=some r/\Instr.fill place a b=some f/\eT ρ r f:=by
 induction h with
 |nil=>exactλd=>.inr ⟨_,_,rfl,rfl,d⟩
 | @cons i v m l b h _ g=>
  intro c a d;simp only[Instr.fill];cases place i with
  |none=>exact .inl ⟨rfl,rfl⟩
  |some p=>
   obtain⟨e,size⟩:=p;have j:=h.cells.size;have k:=d.size;simp only[<-j,<-k];split;exact .inl ⟨rfl,rfl⟩;refine g ?_;have:=Md h.cells.list e 0 d;rw[<-L3,<-L3,Array.toList_zipIdx,Array.toList_zipIdx];exact this
theorem SR.build{S:cm->Bool}(F:Fit P S D)(t:cg){q j:Array (Nat×ce)}(h:oy ρ q.toList j.toList):SV P ρ (Instr.build t q) (Instr.build t j):=by unfold Instr.build;refine(SR.zero F t).du λm z y n u=>?_;have v:=h.mono n;refine(SR.under t).du λo a b d e=>?_;obtain⟨rfl,_⟩:=e;have s:=v.mono d;have k:=(u.mono d).cells;split;refine SR.du (SR.mapM _ λx _ m=>?_) λf a b c e=>?_;refine(SR.size _).du λ_ a b _ e=>?_;obtain⟨rfl,_⟩:=e;exact .dT rfl;subst e;rcases GQ (a[·]?) (s.mono c) (k.mono c)with⟨g,l⟩|⟨r,w,g,l,p⟩;simp only[g];exact .stuck;simp only[g,l];exact .dT p.agg;rename_i e _;refine(SR.size e).du λf a b c e=>?_;obtain⟨rfl,_⟩:=e;rcases GQ (λi=>some (i*a,a)) (s.mono c) (k.mono c)with⟨g,l⟩|⟨r,w,g,l,p⟩;simp only[g];exact .stuck;simp only[g,l];exact .dT p.agg;exact .stuck
def CC(h:eT ρ W X)(n:Nat):eT ρ ((Array.range n).map (W[·%W.size]!)) ((Array.range n).map (X[·%X.size]!)):=by
 refine eT.map _ _ _ λi _=>?_;have e:∀(a:Array ce) (i:Nat),a[i]! =(a[i]?).getD default:=λa i=>by simp[getElem!_def];cases a[i]? <;>rfl
 rw[e,e,<-h.size];rcases h.get? (i%W.size)with⟨b,c⟩|⟨v,f,b,c,d⟩;rw[b,c];exact .bool _;rw[b,c];exact d
theorem SR.buildSlice{S:cm->Bool}(F:Fit P S D)(t:cg)(n:Nat){o j:Array (Nat×ce)}(h:oy ρ o.toList j.toList):SV P ρ (Instr.buildSlice t n o) (Instr.buildSlice t n j):=by
 unfold Instr.buildSlice;refine(SR.under t).du λp a b f e=>?_;obtain⟨rfl,_⟩:=e;have w:=h.mono f;split;rename_i e _;refine(SR.size e).du λk a b g e=>?_;obtain⟨rfl,_⟩:=e;have y:=w.mono g;dsimp only;split;exact .fA;have tail:∀d z l,cR.Le k d->eT d z l->SV P d
  (match Instr.fill (λi=>some (i*a,a)) (Array.map (λx=>z[x%z.size]!) (Array.range (n*a))) o.toList with
    |some cells=>do Pure.pure (Value.slice (some (<-Go.newRow e cells)) n n)
    |_=>Go.stuck "buildSlice: a part of the wrong size")
  (match Instr.fill (λi=>some (i*a,a)) (Array.map (λx=>l[x%l.size]!) (Array.range (n*a))) j.toList with
    |some cells=>do Pure.pure (Value.slice (some (<-Go.newRow e cells)) n n)
    |_=>Go.stuck "buildSlice: a part of the wrong size"):=by
  intro d z l c m;rcases GQ (λi=>some (i*a,a)) (y.mono c) (CC m (n*a))with⟨q,v⟩|⟨r,G,q,v,B⟩;simp only[q];exact .stuck;simp only[q,v];refine SR.du (SR.newRow _ B) λs x H _ C=>?_;exact .dT (.slice _ _ C)
 split;exact SR.du (A:=λρ a b=>eT ρ a b) (.dT .nil) λd z l c m=>tail _ _ _ c m;refine(SR.zero F _).du λE z l u m=>?_;exact SR.du (A:=λρ a b=>eT ρ a b) (.dT m.cells) λd z l c m=>tail _ _ _ (u.trans c) m;exact .stuck
theorem SR.loadAt(t:cg)(h:VR ρ x y):SV P ρ (Instr.loadAt t x) (Instr.loadAt t y):=by unfold Instr.loadAt;exact(SR.sure h).du λ_ a c _ b=>SR.loadVar t b
theorem SR.storeAt(t:cg){c:ce}(h:VR ρ y z)(d:VR ρ x c):SE P ρ (Instr.storeAt t y x) (Instr.storeAt t z c):=by unfold Instr.storeAt;exact(SR.sure h).du λ_ a f b e=>SR.storeVar t e (d.mono b)
theorem SR.fieldAt(s:cg)(i:Nat)(g:GK P (λ_=>false) false false (.fieldAddr s (.tmp 0) i)=true)(h:VR ρ x y):SV P ρ (Instr.fieldAt s x i) (Instr.fieldAt s y i):=by unfold Instr.fieldAt;refine(SR.under s).du λm a b c e=>?_;obtain⟨rfl,r⟩:=e;have t:=h.mono c;simp only[GK,r]at g;split;rename_i k;split;rename_i f u;simp only[u]at g;refine(SR.sure t).du λo a v l p=>?_;refine SR.du (A:=λρ a b=>AR ρ a b) ?_ λ_ a v _ p=>.dT (.ptr p);unfold fieldPlace;refine(SR.size _).du λq n z d e=>?_;obtain⟨rfl,j,w,rfl⟩:=e;simp only[w,bne_iff_ne,ne_eq]at g;rw[cr g,cr g];exact .dT ((p.mono d).add _);exact .stuck;exact .stuck
theorem SR.indexAt(t:cg){E:ce}(F:VR ρ x y)(G:VR ρ z E):SV P ρ (Instr.indexAt t x z) (Instr.indexAt t y E):=by
 unfold Instr.indexAt;refine(SR.intOf G).du λu a b m e=>?_;obtain⟨rfl,_,_⟩:=e;have v:=F.mono m;obtain⟨k,z⟩:=a;dsimp only;refine(SR.under t).du λw a b o e=>?_;obtain⟨rfl,_⟩:=e;have r:=v.mono o;cases a with
 |array i g=>
  refine(SR.sure r).du λB p C s D=>?_;refine SR.du (A:=λ_ a b=>a=(some p,i,g)/\b=(some C,i,g)) (.dT ⟨rfl,rfl⟩) λj a b d e=>?_;obtain⟨rfl,rfl⟩:=e;dsimp only;refine(SR.under t).du λl a b f e=>?_;obtain⟨rfl,_⟩:=e;split;refine(SR.size _).du λq n H h e=>?_;obtain⟨rfl,_⟩:=e;exact .dT (.ptr ((((D.mono d).mono f).mono h).add _))
  ·repeat' split
   all_goals first|exact .fA|exact SR.boundsPanic _ _ _ _
 |slice g=>
  cases r with
  |fc i c=>
   refine SR.du (A:=λ_ a b=>a=(none,i,g)/\b=(none,i,g)) (.dT ⟨rfl,rfl⟩) λj a b d e=>?_;obtain⟨rfl,rfl⟩:=e;dsimp only;refine(SR.under t).du λl a b f e=>?_;obtain⟨rfl,_⟩:=e;exact SR.boundsPanic _ _ _ _
  | @slice p C i c D=>
   refine SR.du (A:=λ_ a b=>a=(some p,i,g)/\b=(some C,i,g)) (.dT ⟨rfl,rfl⟩) λj a b d e=>?_;obtain⟨rfl,rfl⟩:=e;dsimp only;refine(SR.under t).du λl a b f e=>?_;obtain⟨rfl,_⟩:=e;split;refine(SR.size _).du λq n H h e=>?_;obtain⟨rfl,_⟩:=e;exact .dT (.ptr (((D.mono d).mono f).mono h|>.add _))
   ·repeat' split
    all_goals first|exact .fA|exact SR.boundsPanic _ _ _ _
  |_=>exact .dead rfl
 |_=>exact .dead rfl
def SR.bound(h:VR ρ x y)(g:Nat)(c:BoundsCode):SE P ρ (Instr.sliceBound x g c) (Instr.sliceBound y g c):=by unfold Instr.sliceBound;refine(SR.intOf h).du λf a b d e=>?_;obtain⟨rfl,_,_⟩:=e;obtain⟨k,i⟩:=a;dsimp only;split;exact .dT rfl;exact SR.boundsPanic _ _ _ _
inductive qR (ρ:cR):Option ce->Option ce->Prop
 |none:qR ρ none none
 |some {v v':ce} (h:VR ρ v v'):qR ρ (some v) (some v')
theorem qR.mono{ρ a:cR}(b:cR.Le ρ a){o c:Option ce}(h:qR ρ o c):qR a o c:=by
 cases h with
 |none=>exact .none
 |some h=>exact .some (h.mono b)
def V1(h m:Nat)(c:BoundsCode)(g d:Option ce):qR ρ g d->SE P ρ (match g with|some v=>do let l<-Instr.sliceBound v h c;Pure.pure (l,h,m)|none=>do let l<-Pure.pure 0;Pure.pure (l,h,m))
 (match d with|some v=>do let l<-Instr.sliceBound v h c;Pure.pure (l,h,m)|none=>do let l<-Pure.pure 0;Pure.pure (l,h,m)):=by
 intro f;cases f with
 |none=>exact SR.du (A:=λ_ a b=>a=b) (.dT rfl) λ_ a b _ e=>by subst e;exact .dT rfl
 |some f=>exact SR.du (SR.bound f _ _) λ_ a b _ e=>by subst e;exact .dT rfl
def SR.bounds(l:Bool)(n o:Nat){t i w p x q:Option ce}(z:qR ρ t i)(y:qR ρ w p)(u:qR ρ x q):SE P ρ (Instr.sliceBounds l n o t w x) (Instr.sliceBounds l n o i p q):=by
 unfold Instr.sliceBounds;have j:=λr (v:cR.Le ρ r) h m c=>V1 h m c (ρ:=r) t i (z.mono v) (P:=P);cases u with
 |none=>
  dsimp only;refine SR.du (A:=λ_ a b=>a=b) (.dT rfl) λk m s d e=>?_;subst e;cases y with
  |none=>
   dsimp only;refine SR.du (A:=λ_ a b=>a=b) (.dT rfl) λg m s f e=>?_;subst e;exact j _ (d.trans f) _ _ _
  |some h=>
   dsimp only;refine SR.du (SR.bound (h.mono d) _ _) λg m s f e=>?_;subst e;exact j _ (d.trans f) _ _ _
 |some u=>
  dsimp only;refine SR.du (SR.bound u _ _) λk m s d e=>?_;subst e;cases y with
  |none=>exact .dead rfl
  |some h=>
   dsimp only;refine SR.du (SR.bound (h.mono d) _ _) λg m s f e=>?_;subst e;exact j _ (d.trans f) _ _ _
theorem SR.slice(t:cg){x B:ce}{C q D r v k:Option ce}(F:VR ρ x B)(G:qR ρ C q)(H:qR ρ D r)(E:qR ρ v k):SV P ρ (Instr.slice t x C D v) (Instr.slice t B q r k):=by
 unfold Instr.slice;refine(SR.under t).du λw a b f e=>?_;obtain⟨rfl,_⟩:=e;have l:=F.mono f;have m:=G.mono f;have o:=H.mono f;have s:=E.mono f;have I:v.isSome=k.isSome:=by cases E<;>rfl
 cases a with
 |string=>
  cases l<;>first
   |exact .stuck
   |(dsimp only;rw[<-I];split;exact .stuck;refine(SR.bounds _ _ _ m o .none).du λg a b _ e=>?_;subst e;exact .dT (.string _))
 |slice h=>
  cases l<;>first
   |exact .stuck
   |(dsimp only;refine(SR.bounds _ _ _ m o s).du λg a b d e=>?_;subst e;refine(SR.size h).du λp n J c e=>?_;obtain⟨rfl,_⟩:=e;refine .dT ?_;split;first|exact .fc _ _|exact .slice _ _ ((AR.mono d ‹_›).mono c)
     first|exact .fc _ _|exact .slice _ _ (((AR.mono d ‹_›).mono c).add _))
 |pointer y=>
  refine(SR.asAddr l).du λg a L d K=>?_;refine(SR.under y).du λp a b c e=>?_;obtain⟨rfl,_⟩:=e;cases a with
  |array n h=>
   refine(SR.bounds _ _ _ ((m.mono d).mono c) ((o.mono d).mono c) ((s.mono d).mono c)).du λz a b i e=>?_;subst e;refine(SR.size h).du λA n J j e=>?_;obtain⟨rfl,_⟩:=e;have u:=((K.mono c).mono i).mono j;refine .dT (.slice _ _ ?_);split;exact u;exact u.add _
  |_=>exact .stuck
 |_=>exact .stuck
theorem SR.sliceAt(t:cg){w h z i A j:Option ce}(B:VR ρ x y)(C:qR ρ w h)(D:qR ρ z i)(E:qR ρ A j):SV P ρ (Instr.sliceAt t x w z A) (Instr.sliceAt t y h i j):=by
 unfold Instr.sliceAt;refine(SR.under t).du λr a b c e=>?_;obtain⟨rfl,_⟩:=e;have k:=B.mono c;have l:=C.mono c;have m:=D.mono c;have o:=E.mono c;cases a with
 |array n p=>
  refine(SR.sure k).du λs a G d F=>?_;refine(SR.bounds _ _ _ (l.mono d) (m.mono d) (o.mono d)).du λu a b f e=>?_;subst e;refine(SR.size p).du λv n H g e=>?_;obtain⟨rfl,_⟩:=e;have q:=(F.mono f).mono g;refine .dT (.slice _ _ ?_);split;exact q;exact q.add _
 |_=>exact SR.slice t k l m o
theorem SR.index(t:cg){o:ce}(p:VR ρ x y)(q:VR ρ z o):SV P ρ (Instr.index t x z) (Instr.index t y o):=by
 unfold Instr.index;refine(SR.intOf q).du λi a b c e=>?_;obtain⟨rfl,_,_⟩:=e;have j:=p.mono c;obtain⟨k,z⟩:=a;refine(SR.under t).du λl a b d e=>?_;obtain⟨rfl,_⟩:=e;have h:=j.mono d;cases a with
 |array r g=>
  cases h<;>first
   |exact .stuck
   |(dsimp only;split;refine(SR.size g).du λm n s f e=>?_;obtain⟨rfl,_⟩:=e;exact SR.part g (eT.mono f ⟨‹_›,‹_›⟩) _;exact SR.boundsPanic _ _ _ _)
 |string=>
  cases h<;>first
   |exact .stuck
   |(dsimp only;split;exact .dT (.int _ _);exact SR.boundsPanic _ _ _ _)
 |_=>exact .stuck
theorem SR.field(t:cg)(k:VR ρ x y)(i:Nat):SV P ρ (Instr.field t x i) (Instr.field t y i):=by
 unfold Instr.field;refine(SR.under t).du λg a b c e=>?_;obtain⟨rfl,_⟩:=e;have h:=k.mono c;cases a with
 |struct d=>
  dsimp only;split;refine(SR.asAgg h).du λj a m f l=>?_;exact SR.part _ l _;exact .stuck
 |_=>exact .stuck
theorem SR.extract(d:VR ρ x y)(i:Nat):SV P ρ (Instr.extract x i) (Instr.extract y i):=by
 unfold Instr.extract;cases d with
 |tuple e f=>
  dsimp only;rcases eT.get? ⟨e,f⟩ i with⟨b,c⟩|⟨v,h,b,c,g⟩;rw[b];exact .stuck;rw[b,c];exact .dT g
 |CB j a=>simp;exact .stuck
 |_=>exact .stuck
theorem SR.unary(a:UnOp)(b:VR ρ x y):SV P ρ (Op.unary a x) (Op.unary a y):=by
 unfold Op.unary;cases a<;>cases b<;>first
  |exact .stuck
  |exact .fA
  |exact .dT (.int _ _)
  |exact .dT (.bool _)
end
section
variable{P:cf}{ρ:cR}
theorem AR.block{c b d:Addr}(a:AR ρ h c)(k:AR ρ b d):(h.block=b.block↔c.block=d.block)/\(h=b↔c=d):=by
 cases a with
 | @mk f g l m a=>
  cases k with
  | @mk i j n o k=>
   have e:f=i↔g=j:=⟨λe=>by subst e;exact ρ.inj₁ _ _ _ a k,λe=>by subst e;exact ρ.inj₂ _ _ _ a k⟩;refine⟨e,?_⟩;simp only[Addr.mk.injEq,e];constructor;rintro⟨rfl,rfl,rfl⟩;exact⟨rfl,rfl,rfl⟩;rintro⟨rfl,p,rfl⟩;exact⟨rfl,by omega,rfl⟩
theorem AR.r{b:Addr}(a:AR ρ h b):ρ.r h.block b.block:=by cases a with|mk o s a=>exact a
theorem AR.off{a:Addr}(b:AR ρ h a):h.off+(ρ.sh a.block).getD 0=a.off/\h.spot=a.spot:=by cases b with|mk o s b=>exact⟨rfl,rfl⟩
def SR.Vr(h:ρ.r m k):SR P (λρ a b=>(ρ.sh k=none/\a=b)\/∃c y,a=some (qO,c)/\b=some y) ρ (Go.shape m) (Go.shape k):=.shape h (λd x=>.pure (.inl ⟨d,rfl⟩)) λ_ c y=>.pure (.inr ⟨c,y,rfl,rfl⟩)
theorem SR.viewAt(h:ρ.r m k):SE P ρ (Go.viewAt m) (Go.viewAt k):=by
 unfold Go.viewAt;refine(SR.Vr h).du λc a b d e=>?_;rcases e with⟨_,rfl⟩|⟨j,y,rfl,rfl⟩;case inr=>exact .dT rfl
 try dsimp only
 split;exact .dT rfl;refine SR.du (A:=λρ a b=>jJ ρ a b) (.getObj (d.r _ _ h) λo i f _=>.pure f) λg o i _ f=>?_;cases f<;>exact .dT rfl
theorem SR.numberAt(h:ρ.r m k):SR P (λρ a b=>(a=none/\b=none)\/∃x y l,a=some (x,l)/\b=some (y,l)/\AR ρ x y) ρ (Go.numberAt m) (Go.numberAt k):=by
 unfold Go.numberAt;refine(SR.Vr h).du λc a b d e=>?_;rcases e with⟨_,rfl⟩|⟨j,y,rfl,rfl⟩;case inr=>exact .dT (.inl ⟨rfl,rfl⟩)
 try dsimp only
 split;exact .dT (.inl ⟨rfl,rfl⟩);refine SR.du (A:=λρ a b=>jJ ρ a b) (.getObj (d.r _ _ h) λo i f _=>.pure f) λg o i _ f=>?_;cases f with
 |number l h=>exact .dT (.inr ⟨_,_,l,rfl,rfl,h⟩)
 |_=>exact .dT (.inl ⟨rfl,rfl⟩)
def SR.behind{d:Addr}(f:AR ρ h d):SR P (λρ h b=>AR ρ h.1 b.1/\h.2=b.2) ρ (behindNumber h) (behindNumber d):=by unfold behindNumber;refine(SR.numberAt f.r).du λa x y c e=>?_;rcases e with⟨rfl,rfl⟩|⟨x,y,l,rfl,rfl,g⟩;exact .dT ⟨f.mono c,rfl⟩;exact .dT ⟨g,rfl⟩
theorem SR.noView{b:Addr}(c:AR ρ h b):SE P ρ (Go.noView h) (Go.noView b):=by unfold Go.noView;refine(SR.viewAt c.r).du λa x y d e=>?_;subst e;split;exact .fA;exact .dT rfl
theorem SR.byteOf{i:Addr}(f:AR ρ h i)(n:ρ.sh i.block=none):SE P ρ (Go.byteOf h) (Go.byteOf i):=by
 have o:h.off=i.off:=by have:=f.off.1;rw[n]at this;exact this
 unfold Go.byteOf;rw[<-f.off.2];try dsimp only
 split;exact .dT rfl;refine SR.prog.du λk x y c e=>?_;obtain⟨rfl,rfl⟩:=e;try simp only[ff,jx,gX,gW,eB,eL,fl,eN]
 refine(SR.noView (f.mono c)).du λd _ _ a _=>?_;have l:d.sh i.block=none:=by rw[<-a.g,<-c.g];exact n
 refine SR.du (A:=λ_ h b=>h=b) (.shape (((f.mono c).mono a).r) (λ_ x=>.pure rfl) λf=>absurd l f) λm x y j e=>?_;subst e;try dsimp only
 split;rw[<-o];split;exact .dT rfl;split;exact .dT rfl;exact .stuck;exact .stuck
def SR.add{S:cm->Bool}(G:Fit P S D)(j:Array cg)(t:cg){w:ce}(h:VR ρ x z)(H:VR ρ y w)(I:∃a,x=.pointer a):
 SR P (λρ a b=>VR ρ a b/\∃l,a=.pointer l) ρ (Builtin.unsafeAdd_ j t #[x,y]) (Builtin.unsafeAdd_ j t #[z,w]):=by
 obtain⟨a,rfl⟩:=I;have p:∀(o v:Option Addr),((o=none/\v=none)\/∃a q,o=some a/\v=some q/\AR ρ a q)->
  SR P (λρ a b=>VR ρ a b/\∃l,a=.pointer l) ρ (Builtin.unsafeAdd_ j t #[.pointer o,y]) (Builtin.unsafeAdd_ j t #[.pointer v,w]):=by
  intro o v h;unfold Builtin.unsafeAdd_;refine(SR.asInt H).du λA n m f e=>?_;subst e;dsimp only;rcases h with⟨rfl,rfl⟩|⟨a,q,rfl,rfl,u⟩
  ·dsimp only;repeat' split
   all_goals exact .dead rfl
  dsimp only;split;refine(SR.viewAt (u.mono f).r).du λB l y k e=>?_;subst e;split;exact .fA;exact .dT ⟨.ptr ((u.mono f).mono k),_,rfl⟩;split;exact .fA
  ·refine(SR.Vr (u.mono f).r).du λC l y d e=>?_;rcases e with⟨F,rfl⟩|⟨m,y,rfl,rfl⟩;case inr=>
    refine SR.prog.du λi l y c e=>?_;obtain⟨rfl,rfl⟩:=e;have J:l.cellsOf qO=0:=by simp[Program.cellsOf,G.bad]
    simp only[cellAtBytes,J,true_or,cX];exact .fA
   try dsimp only
   split;refine SR.prog.du λi l y c e=>?_;obtain⟨rfl,rfl⟩:=e;try simp only[ff,jx,gX,gW,eB,eL,fl,eN]
   have K:a.off=q.off:=by have:=((u.mono f).mono d).off.1;rw[F]at this;exact this
   rw[<-K];split;refine .dT ⟨.ptr ?_,_,rfl⟩;have:=((u.mono f).mono d).mono c;have E:i.sh q.block=none:=by rw[<-c.g];exact F
   cases this with|mk o s h=>exact .of _ _ h E
   exact .fA;exact .fA
 cases h with
 |iw=>exact p _ _ (.inl ⟨rfl,rfl⟩)
 |ptr h=>exact p _ _ (.inr ⟨_,_,rfl,rfl,h⟩)
theorem SR.asNumber{a:Addr}(l:Bool)(d:AR ρ h a):SV P ρ (Go.asNumber h l) (Go.asNumber a l):=by unfold Go.asNumber;refine SR.du (A:=λρ h b=>ρ.r h b/\ρ.sh b=none) (.new (.number l d) λn i j k e=>.pure ⟨cR.rW _ _ _ _ _,e⟩) λf h b g c=>?_;exact .dT (.ptr (.of _ _ c.1 c.2))
def SR.Bj{S:cm->Bool}(F:Fit P S D)(t:cg){n:ce}(r:VR ρ x z)(s:VR ρ y n)(u:∃a,x=.pointer a):SV P ρ (movedNumber t x y) (movedNumber t z n):=by
 unfold movedNumber;refine(SR.under t).du λj a b c e=>?_;obtain⟨rfl,_⟩:=e;have k:=r.mono c;have f:=s.mono c;try dsimp only
 split;exact .fA;obtain⟨a,rfl⟩:=u;cases k with
 |iw=>exact(SR.add F #[] t .iw f ⟨_,rfl⟩).qA λ_ _ _ _ h=>h.1
 |ptr A=>
  dsimp only;refine(SR.behind A).du λl p q d e=>?_;obtain⟨g,o⟩:=e;obtain⟨C,E⟩:=p;obtain⟨G,H⟩:=q;simp only at o g;subst o;dsimp only;refine(SR.add F #[] t (.ptr g) (f.mono d) ⟨_,rfl⟩).du λm v w i e=>?_;obtain⟨B,I,rfl⟩:=e;cases B with
  |iw=>exact .dT .iw
  |ptr h=>exact SR.asNumber _ h
def SR.Me{S:cm->Bool}(F:Fit P S D)(t:cg){d:ce}(i:VR ρ x z)(f:VR ρ y d)(j:∃a,x=.pointer a):SV P ρ (movedPointer t x y) (movedPointer t z d):=by
 unfold movedPointer;obtain⟨a,rfl⟩:=j;cases i with
 |iw=>exact(SR.add F #[] t .iw f ⟨_,rfl⟩).qA λ_ _ _ _ h=>h.1
 |ptr g=>
  dsimp only;refine(SR.numberAt g.r).du λc p q b e=>?_;have k:p.isSome=q.isSome:=by rcases e with⟨rfl,rfl⟩|⟨_,_,_,rfl,rfl,_⟩<;>rfl
  rw[<-k];split;exact .fA;exact(SR.add F #[] t (.ptr (g.mono b)) (f.mono b) ⟨_,rfl⟩).qA λ_ _ _ _ h=>h.1
theorem SR.twoPlaces{S:cm->Bool}(F:Fit P S D){A:cR->Nat×Nat->Nat×Nat->Prop}(a b f g:Addr):SR P A ρ (Op.twoPlaces a b) (Op.twoPlaces f g):=by
 unfold Op.twoPlaces;have e:∀c:Bool,(c||decide (a.block>=P.globals.size))=true:=λc=>by simp[F.globals]
 refine SR.prog.du λd x y h i=>?_;obtain⟨rfl,rfl⟩:=i;try simp only[ff,jx,gX,gW,eB,eL,fl,eN]
 rw[cx (e _)];exact .dead rfl
theorem SR.addrMod(d:P.info? qO=none)(k:IntKind){l:Addr}(o:AR ρ h l)(n:Int):SV P ρ (Op.addrMod k h n) (Op.addrMod k l n):=by
 unfold Op.addrMod;refine(SR.Vr o.r).du λf x y b e=>?_;rcases e with⟨p,rfl⟩|⟨m,y,rfl,rfl⟩;case inr=>
  refine .never λw=>?_;obtain⟨c,q⟩:∃c,(typeInfo qO).run P w=.halt (.stuck c) w:=by unfold typeInfo;rw[Sem.run_bind];simp only[show(Go.program).run P w=.ok P w from rfl,Result.andThen_ok,d];exact⟨_,rfl⟩
  refine⟨.stuck c,w,?_,rfl⟩;dsimp only;rw[Sem.run_bind,q];rfl
 try dsimp only
 split;refine(SR.info _).du λi x y a e=>?_;obtain⟨rfl,_⟩:=e;try dsimp only
 split;exact .fA;refine(SR.byteOf ((o.mono b).mono a) (by rw[<-a.g];exact p)).du λj x y _ e=>?_;subst e;exact .dT (.int _ _);exact .fA
theorem SR.V2   {S : FuncId → Bool} {dim : Bool} (F : Fit P S dim) (m : Nat) : ∀ (d : Nat) (t : TypeId), eK       P m t = true → m ≤ d → ∀ {ρ : cR}  {x x' y y' : Value}, VR ρ x x' → VR ρ y y' → SE P ρ (Op.equalIn d t x y) (Op.equalIn d t x' y') := by
  induction m with
  | zero => intro d t h; simp [eK]       at h
  | succ m ih =>
    intro d t hf Z3  ρ x x' y y' hx hy
    obtain _ | d := d
    · omega
    have T9   : m ≤ d := by omega
    unfold Op.equalIn
    refine (SR.under t).du  fun Re a b Mf   e => ?_
    obtain ⟨rfl, hu⟩ := e
    have TQ  := hx.mono Mf
    have Pi  := hy.mono Mf
    simp only [eK,       hu] at hf
    cases a with
    | bool => cases TQ  <;> cases Pi  <;> first | exact .dT  rfl | exact .stuck
    | string => cases TQ  <;> cases Pi  <;> first | exact .dT  rfl | exact .stuck
    | slice e => cases TQ  <;> cases Pi  <;> first | exact .dT  rfl | exact .stuck
    | int k =>
      cases TQ  with
      | ptr ha => cases Pi  with
        | ptr hb =>
           refine (SR.behind ha).du  fun Rf p q tp   e => ?_
           refine (SR.behind (hb.mono tp)).du    fun Rg p' q' tq   e' => ?_
           dsimp only
           have hg : ∀ (c : Bool) (n : Nat), (c && decide (n < P.globals.size)) = false := fun c n => by simp [F.globals]
           refine SR.prog.du  fun IF x y CE   e1 => ?_
           obtain ⟨rfl, rfl⟩ := e1
           try simp only [ff,             jx,        gX,          gW,          eB,              eL,             fl,              eN]
           rw [hg, hg]
           simp only [Bool.false_eq_true, if_false]
           refine (SR.info t).du  fun Rh i j CF   e2 => ?_
           obtain ⟨rfl, _⟩ := e2
           have hA := (e.1.mono tq).block   e'.1
           split
           · have : (p.1 == p'.1) = (q.1 == q'.1) := by
               rw [Bool.eq_iff_iff]; simp only [beq_iff_eq]; exact hA.2
             rw [this]
             split
             · exact .dT  rfl
             · exact .fA
           · exact .fA
        | int k n =>
          rcases n with (_ | j) | j
          · exact .dT  rfl
          · exact .fA
          · exact .fA
        | _ => exact .fA
      | int k n => cases Pi  with
        | ptr hb =>
          rcases n with (_ | j) | j
          · exact .dT  rfl
          · exact .fA
          · exact .fA
        | int k' n' =>
          by_cases hk : k = k'
          · subst hk
            show SE P _ (if k = k then Pure.pure (n == n') else Go.stuck "==: kinds differ") (if k = k then Pure.pure (n == n') else Go.stuck "==: kinds differ")
            rw [if_pos rfl]
            exact .dT  rfl
          · show SE P _ (if k = k' then Pure.pure (n == n') else Go.stuck "==: kinds differ") (if k = k' then Pure.pure (n == n') else Go.stuck "==: kinds differ")
            rw [if_neg hk]
            exact .stuck
        | iw     => exact .fA
        | _ => exact .stuck
      | iw     => cases Pi  <;> exact .fA
      | _ => cases Pi  <;> first | exact .fA    | exact .stuck
    | struct fields =>
      simp only [Bool.and_eq_true, Bool.not_eq_true', Array.all_eq_true_iff_forall_mem] at hf
      cases TQ  <;> cases Pi  <;> first
        | exact .stuck
        | (rename_i h1 h2 _ _ h3 h4
           dsimp only
           refine SR.prog.du  fun Rf x y tp   e1 => ?_
           obtain ⟨rfl, rfl⟩ := e1
           try simp only [ff,             jx,        gX,          gW,          eB,              eL,             fl,              eN]
           rw [hf.1]
           simp only [Bool.false_eq_true, if_false]
           rw [← Array.forIn_toList, ← Array.forIn_toList]
           refine SR.du  (SR.forIn_list _ _ fun f Xw  r Rg tq   => ?_) fun IF r r' _ e => ?_
           · split
             · refine (SR.part f.type (eT.mono  (tp.trans   tq)   ⟨h1, h2⟩) f.offset).du  fun IF v v' CE   hv => ?_
               refine (SR.part f.type (eT.mono  ((tp.trans   tq).trans   CE)   ⟨h3, h4⟩) f.offset).du  fun Rh w w' CF   hw => ?_
               refine (ih d f.type (hf.2 f (by simpa using Xw))  T9   (hv.mono CF)   hw).du  fun Ua p q _ e => ?_
               subst e
               split <;> exact .dT  rfl
             · exact .dT  rfl
           · subst e
             split <;> exact .dT  rfl)
    | array len elem =>
      cases TQ  <;> cases Pi  <;> first
        | exact .stuck
        | (rename_i h1 h2 _ _ h3 h4
           dsimp only
           refine (SR.size elem).du  fun Rf n n' tp   e1 => ?_
           obtain ⟨rfl, _⟩ := e1
           simp only [Std.Legacy.Range.forIn_eq_forIn_range']
           refine SR.du  (SR.forIn_list _ _ fun i Xw  r Rg tq   => ?_) fun IF r r' _ e => ?_
           · refine (SR.part elem (eT.mono  (tp.trans   tq)   ⟨h1, h2⟩) _).du  fun IF v v' CE   hv => ?_
             refine (SR.part elem (eT.mono  ((tp.trans   tq).trans   CE)   ⟨h3, h4⟩) _).du  fun Rh w w' CF   hw => ?_
             refine (ih d elem hf T9   (hv.mono CF)   hw).du  fun Ua p q _ e => ?_
             subst e
             split <;> exact .dT  rfl
           · subst e
             split <;> exact .dT  rfl)
    | _ => simp at hf
end
section
variable{P:cf}{ρ:cR}
def vL(m:Nat):∀(d:Nat) (t:cg),eK P m t=true->m<=d->P.eqGuardType d t=false:=by
 induction m with
 |zero=>intro d t h;simp[eK]at h
 |succ m g=>
  intro d t f k;obtain _|d:=d;omega;have c:m<=d:=by omega
  simp only[eK]at f;unfold Program.eqGuardType;split at f;rename_i a;simp[a];rename_i a;simp[a];rename_i a;simp[a];rename_i a;simp[a];rename_i j a;simp only[ez,DU]at f;simp only[a];refine Bool.eq_false_iff.2 λb=>?_;obtain⟨i,l,b⟩:=Array.any_eq_true.1 b;simp only[ez]at b;rw[g d j[i].type (f.2 j[i] (Array.getElem_mem l)) c]at b;cases b.2;rename_i e a;simp only[a];exact g d e f c;cases f
theorem SR.eqGuard{S:FuncId->Bool}{j:Bool}(F:Fit P S j)(d:BinOp)(t:TypeId)(u:d≠ .eql->d≠ .neq->True)(p:(d=.eql\/d=.neq)->eK P 5 t=true)(l m:Operand){a n b o:Value}(q:VR ρ a n)(r:VR ρ b o):
 SE P ρ (eqGuard d t l m a b) (eqGuard d t l m n o):=by
 unfold Go.eqGuard
 by_cases g:d=.eql\/d=.neq
 ·have e:(!(match d with| .eql| .neq=>true|_=>false))=false:=by rcases g with rfl|rfl<;>rfl
  have f:=p g
  rcases g with rfl|rfl
  all_goals
   dsimp only
   cases q<;>cases r<;>first
    |exact .dT rfl
    |(dsimp only
      refine SR.prog.du λc x y h i=>?_
      obtain⟨rfl,rfl⟩:=i
      refine SR.prog.du λc x y h i=>?_
      obtain⟨rfl,rfl⟩:=i
      try simp only[ff,jx,gX,gW,eB,eL,fl,eN]
      rw[vL 5 _ _ f F.depth]
      exact .dT (by first|rfl|trivial))
    |(dsimp only
      repeat' split
      all_goals first
      |exact .dT rfl
      |refine SR.du (A:=λ_ a b=>a=false/\b=false) ?_ λk x y h i=>?_
       ·show SR P _ ρ (Op.eqGuardIn (9999+1) t .nilIface .nilIface) (Op.eqGuardIn (9999+1) t .nilIface .nilIface)
        unfold Op.eqGuardIn
        refine(SR.under t).du λc a b _ e=>?_
        obtain⟨rfl,s⟩:=e
        simp only[eK,s]at f
        cases a<;>first|exact .dT ⟨rfl,rfl⟩|(simp at f)
       ·obtain⟨rfl,rfl⟩:=i
        exact .dT rfl)
 ·cases d<;>first|exact absurd (.inl rfl) g|exact absurd (.inr rfl) g|exact .dT rfl
def SR.St(d:BinOp)(t:cg)(k e:IntKind)(a b:Int):SV P ρ (binOp d t (.int k a) (.int e b)) (binOp d t (.int k a) (.int e b)):=by
 have c:∀d:BinOp,SV P ρ (if k≠e then Go.stuck "BinOp: operands of different kinds" else
  match d with
  | .add| .sub| .mul=>Op.intArith d k a b
  | .quo| .rem=>Op.intDiv d k a b
  | .and| .or| .xor| .andNot=>Op.intBits d k a b
  |_=>Op.intCmp d a b) (if k≠e then Go.stuck "BinOp: operands of different kinds" else
  match d with
  | .add| .sub| .mul=>Op.intArith d k a b
  | .quo| .rem=>Op.intDiv d k a b
  | .and| .or| .xor| .andNot=>Op.intBits d k a b
  |_=>Op.intCmp d a b):=by
  intro d;split;exact .stuck;cases d<;>first
   |exact .dT (.int _ _)
   |exact .dT (.bool _)
   |exact .stuck
   |(dsimp only;unfold Op.intDiv;split;exact SR.jc _ (.inr (.inl ⟨_,rfl⟩));exact .dT (.int _ _))
 cases d with
 |add=>exact c .add
 |sub=>exact c .sub
 |mul=>exact c .mul
 |quo=>exact c .quo
 |rem=>exact c .rem
 |and=>exact c .and
 |or=>exact c .or
 |xor=>exact c .xor
 |andNot=>exact c .andNot
 |eql=>exact c .eql
 |neq=>exact c .neq
 |lss=>exact c .lss
 |leq=>exact c .leq
 |gtr=>exact c .gtr
 |geq=>exact c .geq
 |shl=>
  show SV P ρ (Op.shift .shl k a e b) (Op.shift .shl k a e b);unfold Op.shift;split;exact SR.jc _ (.inr (.inl ⟨_,rfl⟩));exact .dT (.int _ _)
 |shr=>
  show SV P ρ (Op.shift .shr k a e b) (Op.shift .shr k a e b);unfold Op.shift;split;exact SR.jc _ (.inr (.inl ⟨_,rfl⟩));exact .dT (.int _ _)
def SR.Su(c:BinOp)(t:cg)(a b:ByteArray):SV P ρ (binOp c t (.string a) (.string b)) (binOp c t (.string a) (.string b)):=by
 cases c<;>first
  |exact .dT (.bool _)
  |exact .stuck
  |(show SV P ρ (Op.stringOp .add a b) (Op.stringOp .add a b);unfold Op.stringOp;dsimp only;split;exact .fA;exact .dT (.string _))
theorem SR.equal{S:cm->Bool}(F:Fit P S D)(t:cg)(b:eK P 5 t=true){a:ce}(c:VR ρ x z)(d:VR ρ y a):SE P ρ (Op.equal t x y) (Op.equal t z a):=
 SR.V2 F 5 Op.maxDepth t b (by decide) c d
def SR.V3{S:cm->Bool}(F:Fit P S D)(d:BinOp)(j:d=.eql\/d=.neq)(t:cg)(i:eK P 5 t=true){f:ce}(g:VR ρ x z)(h:VR ρ y f):SV P ρ (binOp d t x y) (binOp d t z f):=by
 have k:SV P ρ (do Pure.pure (Value.bool (<-Op.equal t x y))) (do Pure.pure (Value.bool (<-Op.equal t z f))):=by refine SR.du (SR.equal F t i g h) λc a b _ e=>?_;subst e;exact .dT (.bool _)
 have l:SV P ρ (do Pure.pure (Value.bool (!(<-Op.equal t x y)))) (do Pure.pure (Value.bool (!(<-Op.equal t z f)))):=by refine SR.du (SR.equal F t i g h) λc a b _ e=>?_;subst e;exact .dT (.bool _)
 rcases j with rfl|rfl;cases g<;>cases h<;>first|exact k|exact SR.St _ _ _ _ _ _|exact SR.Su _ _ _ _
 cases g<;>cases h<;>first|exact l|exact SR.St _ _ _ _ _ _|exact SR.Su _ _ _ _
def SR.Ub{S:cm->Bool}(F:Fit P S D)(f:BinOp)(d:f≠ .eql/\f≠ .neq)(t:cg){o:ce}(q:VR ρ x z)(l:VR ρ y o)(p:(∃a,x=.pointer a)\/∃a,y=.pointer a):SV P ρ (binOp f t x y) (binOp f t z o):=by
 cases q with
 |iw=>
  cases l with
  |int k n=>
   cases f<;>first
    |exact .fA
    |exact absurd rfl d.1
    |exact absurd rfl d.2
    |(refine(SR.under t).du λc a b g e=>?_;obtain⟨rfl,_⟩:=e;cases a<;>first|exact SR.Bj F t .iw (.int k n) ⟨none,rfl⟩|exact SR.Me F t .iw (.int k n) ⟨none,rfl⟩)
    |exact SR.Bj F t .iw (.int k (-n)) ⟨none,rfl⟩
  |_=>cases f<;>first|exact .fA|exact absurd rfl d.1|exact absurd rfl d.2
 |ptr i=>
  cases l with
  |int k n=>
   cases f<;>first
    |exact .fA
    |exact absurd rfl d.1
    |exact absurd rfl d.2
    |(refine(SR.under t).du λc a b g e=>?_;obtain⟨rfl,_⟩:=e;split<;>first|exact SR.Me F t (.ptr (i.mono g)) (.int _ _) ⟨_,rfl⟩|exact SR.Bj F t (.ptr (i.mono g)) (.int _ _) ⟨_,rfl⟩)
    |exact SR.Bj F t (.ptr i) (.int _ _) ⟨_,rfl⟩
    |(refine(SR.behind i).du λc a b _ e=>?_;exact SR.addrMod F.bad _ e.1 _)
  |ptr j=>
   cases f<;>first
    |exact .fA
    |exact absurd rfl d.1
    |exact absurd rfl d.2
    |(refine(SR.behind i).du λc a b g e=>?_;refine(SR.behind (j.mono g)).du λm r s _ u=>?_;first
       |(unfold Op.addrSub;exact SR.du (SR.twoPlaces F (A:=λ_ _ _=>False) _ _ _ _) λ_ _ _ _ h=>h.elim)
       |(unfold Op.addrCmp;exact SR.du (SR.twoPlaces F (A:=λ_ _ _=>False) _ _ _ _) λ_ _ _ _ h=>h.elim))
  |_=>cases f<;>first|exact .fA|exact absurd rfl d.1|exact absurd rfl d.2
 |int k n=>
  cases l with
  |iw=>
   cases f<;>first
    |exact .fA
    |exact absurd rfl d.1
    |exact absurd rfl d.2
    |exact SR.Bj F t .iw (.int _ _) ⟨_,rfl⟩
  |ptr j=>
   cases f<;>first
    |exact .fA
    |exact absurd rfl d.1
    |exact absurd rfl d.2
    |exact SR.Bj F t (.ptr j) (.int _ _) ⟨_,rfl⟩
    |(refine(SR.behind j).du λc a b _ e=>?_;exact SR.addrMod F.bad _ e.1 _)
  |_=>rcases p with⟨a,h⟩|⟨a,h⟩<;>cases h
 |_=>
  cases l with
  |iw=>cases f<;>first|exact .fA|exact absurd rfl d.1|exact absurd rfl d.2
  |ptr j=>cases f<;>first|exact .fA|exact absurd rfl d.1|exact absurd rfl d.2
  |_=>rcases p with⟨a,h⟩|⟨a,h⟩<;>cases h
theorem SR.binOp{S:cm->Bool}{dim:Bool}(F:Fit P S dim)(b:BinOp)(t:cg)(j:(b=.eql\/b=.neq)->eK P 5 t=true){i:ce}(f:VR ρ x z)(g:VR ρ y i):SV P ρ (Go.binOp b t x y) (Go.binOp b t z i):=by
 by_cases d:b=.eql\/b=.neq;exact SR.V3 F b d t (j d) f g;have c:b≠ .eql/\b≠ .neq:=⟨λe=>d (.inl e),λe=>d (.inr e)⟩;by_cases h:(∃a,x=.pointer a)\/∃a,y=.pointer a;exact SR.Ub F b c t f g h
 ·cases f<;>first|exact absurd (.inl ⟨_,rfl⟩) h|skip
  all_goals cases g
  all_goals first
   |exact absurd (.inr ⟨_,rfl⟩) h
   |exact SR.St _ _ _ _ _ _
   |exact SR.Su _ _ _ _
   |(cases b<;>first|exact .stuck|exact .fA|exact absurd rfl c.1|exact absurd rfl c.2)
def SR.conv(s d:cg)(j:intType P s=true)(k:intType P d=true)(l:VR ρ x y):SV P ρ (Go.convert s d x) (Go.convert s d y):=by
 unfold Go.convert;refine(SR.under s).du λf a b g e=>?_;obtain⟨rfl,m⟩:=e;refine(SR.under d).du λh n p c e=>?_;obtain⟨rfl,o⟩:=e;simp only[intType,m]at j;simp only[intType,o]at k;have i:=(l.mono g).mono c;cases a<;>first|(simp at j;done)|skip
 cases n<;>first|(simp at k;done)|skip
 cases i<;>first|exact .dT (.int _ _)|exact .fA|exact .stuck
end
section
variable{P:cf}{ρ:cR}
theorem SR.checkKey{S:cm->Bool}(F:Fit P S D)(I:Bool)(m:Nat):∀(d:Nat) (t:cg),eK P m t=true->m<=d->∀{ρ:cR} {x A:ce},VR ρ x A->SE P ρ (Instr.checkKey I d t x) (Instr.checkKey I d t A):=by
 have _:=F;induction m with
 |zero=>intro d t h;simp[eK]at h
 |succ m J=>
  intro d t w K ρ x A L;obtain _|d:=d;omega;have s:m<=d:=by omega
  unfold Instr.checkKey;refine(SR.under t).du λB a b o e=>?_;obtain⟨rfl,M⟩:=e;have j:=L.mono o;simp only[eK,M]at w;cases a with
  |bool=>cases j<;>exact .dT rfl
  |string=>cases j<;>exact .dT rfl
  |slice e=>cases j<;>exact .dT rfl
  |int k=>cases j<;>exact .dT rfl
  |struct z=>
   simp only[ez,yu,DU]at w;cases j with
   |agg C E=>
    dsimp only;rw[<-T4,<-T4];refine SR.du (SR.forIn_list _ _ λf y r u c=>?_) λg r N _ e=>.dT e;split;refine(SR.part f.type (eT.mono c ⟨C,E⟩) f.offset).du λg v O p G=>?_;refine SR.du (J d f.type (w.2 f (by simpa using y)) s G) λ_ _ _ _ _=>.dT rfl;exact .dT rfl
   |_=>exact .stuck
  |array Q l=>
   cases j with
   |agg C E=>
    dsimp only;simp only[Std.Legacy.Range.forIn_eq_forIn_range'];refine SR.du (SR.forIn_list _ _ λi y r u c=>?_) λg r N _ e=>.dT trivial;refine(SR.size l).du λH n T q R=>?_;obtain⟨rfl,_⟩:=R;refine(SR.part l (eT.mono (c.trans q) ⟨C,E⟩) _).du λg v O p G=>?_;refine SR.du (J d l w s G) λ_ _ _ _ _=>.dT rfl
   |_=>exact .stuck
  |_=>simp at w
inductive oU (ρ:cR):List MapEntry->List MapEntry->Prop
 |nil:oU ρ [] []
 |cons {e e':MapEntry} {l l':List MapEntry} (h:tn ρ e e') (t:oU ρ l l'):oU ρ (e::l) (e'::l')
theorem oU.of{ρ:cR}:∀{l a:List MapEntry},l.length=a.length->(∀(i:Nat) v b,l[i]? =some v->a[i]? =some b->tn ρ v b)->oU ρ l a
 |[],[],_,_=>.nil
 |[],_::_,h,_=>by simp at h
 |_::_,[],h,_=>by simp at h
 |v::l,b::a,h,k=>.cons (k 0 v b rfl rfl) (oU.of (by simpa using h) λi x c d e=>k (i+1) x c (by simpa using d) (by simpa using e))
theorem oU.mono{ρ a:cR}(b:cR.Le ρ a){l c:List MapEntry}(h:oU ρ l c):oU a l c:=by
 induction h with
 |nil=>exact .nil
 |cons h _ d=>exact .cons (h.mono b) d
def oU.empty{ρ:cR}{l a:List MapEntry}(h:oU ρ l a):l.isEmpty=a.isEmpty:=by cases h<;>rfl
def JM(a:TypeDesc){b:ce}(c:VR ρ x y)(d:VR ρ z b):Instr.sameNow a x z=Instr.sameNow a y b:=by cases a<;>first|rfl|(cases c<;>cases d<;>rfl)
def JN(a:TypeDesc)(d:VR ρ x y){l b:List MapEntry}(h:oU ρ l b):∀i,(Instr.findNow a x l i=none/\Instr.findNow a y b i=none)\/(Instr.findNow a x l i=some none/\Instr.findNow a y b i=some none)\/∃j v c,Instr.findNow a x l i=some (some (j,v))/\Instr.findNow a y b i=some (some (j,c))/\VR ρ v c:=by
 induction h with
 |nil=>exactλi=>.inr (.inl ⟨rfl,rfl⟩)
 |cons h _ e=>
  intro i;simp only[Instr.findNow];rw[<-JM a d h.key];split;exact .inr (.inr ⟨_,_,_,rfl,rfl,h.val⟩);exact e _;exact .inl ⟨rfl,rfl⟩
def Mg(ρ:cR)(a b:Option (Nat×ce)):Prop:=(a=none/\b=none)\/∃j v c,a=some (j,v)/\b=some (j,c)/\VR ρ v c
theorem SR.findAsking{S:cm->Bool}(F:Fit P S D)(t:cg)(o:eK P 5 t=true){l m:List MapEntry}(h:oU ρ l m):∀{d:cR} (i:Nat) {k g:ce},cR.Le ρ d->VR d k g->SR P Mg d (Instr.findAsking t k l i) (Instr.findAsking t g m i):=by
 induction h with
 |nil=>exactλi _ _ _ _=>.dT (.inl ⟨rfl,rfl⟩)
 |cons h _ p=>
  intro d i k g f n;unfold Instr.findAsking;refine(SR.equal F t o n (h.key.mono f)).du λj a b c e=>?_;subst e;split;exact .dT (.inr ⟨_,_,_,rfl,rfl,h.val.mono (f.trans c)⟩);exact p _ (f.trans c) (n.mono c)
theorem SR.findKey{S:cm->Bool}(F:Fit P S D)(t:cg)(m:eK P 5 t=true){l i:List MapEntry}(h:oU ρ l i)(k:VR ρ x y):SR P Mg ρ (Instr.findKey t x l) (Instr.findKey t y i):=by unfold Instr.findKey;refine(SR.under t).du λg a b c e=>?_;obtain⟨rfl,o⟩:=e;rcases JN a (k.mono c) (h.mono c) 0 with⟨d,f⟩|⟨d,f⟩|⟨j,v,p,d,f,n⟩;rw[d,f];exact SR.findAsking F t m (h.mono c) 0 (.refl _) (k.mono c);rw[d,f];exact .dT (.inl ⟨rfl,rfl⟩);rw[d,f];exact .dT (.inr ⟨_,_,_,rfl,rfl,n⟩)
theorem SR.lookup{S:cm->Bool}(F:Fit P S D)(t:cg)(U:∀z e,P.underlying t=some (.map z e)->eK P 5 z=true)(n:Bool){H:ce}(V:VR ρ x y)(W:VR ρ z H):SV P ρ (Instr.lookup t x z n) (Instr.lookup t y H n):=by
 unfold Instr.lookup;refine(SR.under t).du λp a b l e=>?_;obtain⟨rfl,X⟩:=e;have L:=V.mono l;have B:=W.mono l;cases a with
 |map q I=>
  have C:=U q I X;dsimp only;have tail:∀d (r h:Array MapEntry),cR.Le p d->oU d r.toList h.toList->SV P d (do
    Instr.checkKey r.isEmpty 10000 q z;let g<-match<-Instr.findKey q z r.toList with
     |some (_,v)=>Pure.pure (v,true)
     |none=>do Pure.pure (<-zeroValue I,false)
    match g with
    |(v,s)=>Pure.pure (if n=true then Value.tuple #[v,.bool s]else v))
   (do
    Instr.checkKey h.isEmpty 10000 q H;let g<-match<-Instr.findKey q H h.toList with
     |some (_,v)=>Pure.pure (v,true)
     |none=>do Pure.pure (<-zeroValue I,false)
    match g with
    |(v,s)=>Pure.pure (if n=true then Value.tuple #[v,.bool s]else v)):=by
   intro d r h c m;have M:r.isEmpty=h.isEmpty:=by
    have T:∀(a:Array MapEntry),a.isEmpty=a.toList.isEmpty:=λa=>by cases a;simp
    rw[T,T];exact m.empty
   rw[<-M];refine(SR.checkKey F _ 5 10000 q C (by decide) (B.mono c)).du λu _ _ f _=>?_;refine(SR.findKey F q C (m.mono f) ((B.mono c).mono f)).du λN aa ab J O=>?_;have E:∀k (v w:ce) (o:Bool),VR k v w->SV P k (Pure.pure (if n=true then Value.tuple #[v,.bool o]else v)) (Pure.pure (if n=true then Value.tuple #[w,.bool o]else w)):=by intro k v w o K;cases n;exact .dT K;exact .dT (eT.Xv (eT.L9 K (.bool _)))
   rcases O with⟨rfl,rfl⟩|⟨j,v,w,rfl,rfl,Y⟩;exact(SR.zero F I).du λQ ac z' _ Z=>E _ _ _ _ Z;exact E _ _ _ _ Y
  cases L with
  |qN=>
   exact SR.du (A:=λρ (a b:Array MapEntry)=>oU ρ a.toList b.toList) (.dT .nil) λd r h c m=>tail _ _ _ c m
  |map hr=>
   refine SR.du (A:=λρ a b=>jJ ρ a b/\∀cs t fz,a≠ .cells cs t fz) (.getObj hr λo o' G R=>.pure ⟨G,R⟩) λd o o' c G=>?_;obtain⟨G,R⟩:=G;cases G with
   |map K h2=>exact SR.du (A:=λρ (a b:Array MapEntry)=>oU ρ a.toList b.toList) (.dT (oU.of (by simpa using K) λi v w a b=>h2 i v w (by simpa using a) (by simpa using b))) λu r h f m=>tail _ _ _ (c.trans f) m
   |cells _ _=>exact absurd rfl (R _ _ _)
   |_=>exact .dead rfl
  |_=>exact .dead rfl
 |_=>exact .stuck
theorem GR         (hd : ρ.dim = false) (n : Nat) : ∀ {a a' b b' : Value}, VR ρ a a' → VR ρ b b' → Instr.sameBits n a b = Instr.sameBits n a' b' := by
  have hp : ∀ {x x' y y' : Option Addr}, ((x = none ∧ x' = none) ∨ ∃ p p', x = some p ∧ x' = some p' ∧ AR ρ p p') → ((y = none ∧ y' = none) ∨ ∃ p p', y = some p ∧ y' = some p' ∧ AR ρ p p') → (x == y) = (x' == y') := by
    intro x x' y y' h k
    rcases h with ⟨rfl, rfl⟩ | ⟨p, p', rfl, rfl, h⟩ <;> rcases k with ⟨rfl, rfl⟩ | ⟨q, q', rfl, rfl, k⟩
    · rfl
    · rfl
    · rfl
    · rw [Bool.eq_iff_iff]
      simp only [beq_iff_eq, Option.some.injEq]
      exact (h.block k).2
  have hc : ∀ {x x' y y' : Option Nat}, ((x = none ∧ x' = none) ∨ ∃ p p', x = some p ∧ x' = some p' ∧ ρ.r p p') → ((y = none ∧ y' = none) ∨ ∃ p p', y = some p ∧ y' = some p' ∧ ρ.r p p') → (x == y) = (x' == y') := by
    intro x x' y y' h k
    rcases h with ⟨rfl, rfl⟩ | ⟨p, p', rfl, rfl, h⟩ <;> rcases k with ⟨rfl, rfl⟩ | ⟨q, q', rfl, rfl, k⟩
    · rfl
    · rfl
    · rfl
    · rw [Bool.eq_iff_iff]
      simp only [beq_iff_eq, Option.some.injEq]
      exact ⟨fun e => by subst e; exact ρ.inj₁ _ _ _ h k, fun e => by subst e; exact ρ.inj₂ _ _ _ h k⟩
  induction n with
  | zero =>
    intro a a' b b' ha hb
    cases ha <;> cases hb <;> first
      | rfl
      | exact hp (.inl ⟨rfl, rfl⟩) (.inl ⟨rfl, rfl⟩)
      | exact hp (.inl ⟨rfl, rfl⟩) (.inr ⟨_, _, rfl, rfl, ‹_›⟩)
      | exact hp (.inr ⟨_, _, rfl, rfl, ‹_›⟩) (.inl ⟨rfl, rfl⟩)
      | exact hc (.inl ⟨rfl, rfl⟩) (.inr ⟨_, _, rfl, rfl, ‹_›⟩)
      | exact hc (.inr ⟨_, _, rfl, rfl, ‹_›⟩) (.inl ⟨rfl, rfl⟩)
      | (rename_i h1 _ _ h2; exact hp (.inr ⟨_, _, rfl, rfl, h1⟩) (.inr ⟨_, _, rfl, rfl, h2⟩))
      | (rename_i h1 _ _ h2; exact hc (.inr ⟨_, _, rfl, rfl, h1⟩) (.inr ⟨_, _, rfl, rfl, h2⟩))
      | (rename_i h _; rw [hd] at h; cases h)
      | (rename_i h _ _ _; rw [hd] at h; cases h)
      | (rename_i h _ _ _ _; rw [hd] at h; cases h)
      | (exfalso; simp_all; done)
  | succ n ih =>
    have CG   : ∀ {l l' k k' : List Value}, qo  ρ l l' → qo  ρ k k' → ((l.zip k).all fun (x, y) => Instr.sameBits n x y) = ((l'.zip k').all fun (x, y) => Instr.sameBits n x y) := by
      intro l l' k k' h
      induction h generalizing k k' with
      | nil => intro _; rfl
      | cons h _ YD  =>
        intro hk
        cases hk with
        | nil => rfl
        | cons h' t' => simp only [List.zip_cons_cons, List.all_cons, ih h h', YD  t']
    intro a a' b b' ha hb
    cases ha <;> cases hb <;> first
      | rfl
      | exact hp (.inl ⟨rfl, rfl⟩) (.inl ⟨rfl, rfl⟩)
      | exact hp (.inl ⟨rfl, rfl⟩) (.inr ⟨_, _, rfl, rfl, ‹_›⟩)
      | exact hp (.inr ⟨_, _, rfl, rfl, ‹_›⟩) (.inl ⟨rfl, rfl⟩)
      | exact hc (.inl ⟨rfl, rfl⟩) (.inr ⟨_, _, rfl, rfl, ‹_›⟩)
      | exact hc (.inr ⟨_, _, rfl, rfl, ‹_›⟩) (.inl ⟨rfl, rfl⟩)
      | (rename_i h1 _ _ h2; exact hp (.inr ⟨_, _, rfl, rfl, h1⟩) (.inr ⟨_, _, rfl, rfl, h2⟩))
      | (rename_i h1 _ _ h2; exact hc (.inr ⟨_, _, rfl, rfl, h1⟩) (.inr ⟨_, _, rfl, rfl, h2⟩))
      | (rename_i h1 _ _ _ h2; simp only [Instr.sameBits, ih h1 h2])
      | (rename_i h1 h2 _ _ h3 h4
         simp only [Instr.sameBits]
         rw [h1, h3, CG   (eT.list  ⟨h1, h2⟩) (eT.list  ⟨h3, h4⟩)])
      | (rename_i h _; rw [hd] at h; cases h)
      | (rename_i h _ _ _; rw [hd] at h; cases h)
      | (rename_i h _ _ _ _; rw [hd] at h; cases h)
      | (exfalso; simp_all; done)
theorem SR.mapUpdate{S:cm->Bool}(F:Fit P S D)(hd:ρ.dim=false)(t:cg)(ht:∀k e,P.underlying t=some (.map k e)->eK P 5 k=true){k U x':ce}(hm:VR ρ y z)(hk:VR ρ k U)(hx:VR ρ x x'):SE P ρ (Instr.mapUpdate t y k x) (Instr.mapUpdate t z U x'):=by
 unfold Instr.mapUpdate;refine(SR.under t).du λG a b m e=>?_;obtain⟨rfl,hu⟩:=e;have V:=hm.mono m;have H:=hk.mono m;have W:=hx.mono m;have X:G.dim=false:=m.d▸hd;cases a with
 |map Y et=>
  have L:=ht Y et hu;dsimp only;cases V with
  |qN=>exact SR.jc _ (.inr (.inr (.inl ⟨_,rfl⟩)))
  | @map r r' hr=>
   refine SR.du (A:=λρ a b=>jJ ρ a b/\∀cs t fz,a≠ .cells cs t fz) (.getObj hr λo o' M Z=>.pure ⟨M,Z⟩) λI o o' g M=>?_;obtain⟨M,Z⟩:=M;cases M with
   | @map T w c N h2=>
    dsimp only;have aa:oU I T.toList w.toList:=oU.of (by simpa using N) λi v v' a b=>h2 i v v' (by simpa using a) (by simpa using b);refine(SR.checkKey F _ 5 10000 Y L (by decide) (H.mono g)).du λab _ _ f _=>?_;refine(SR.findKey F Y L (aa.mono f) ((H.mono g).mono f)).du λs p q l ac=>?_;have u:=((H.mono g).mono f).mono l;have O:=((W.mono g).mono f).mono l;have Q:=l.r _ _ (f.r _ _ (g.r _ _ hr));have B:∀(i:Nat) e C,T[i]? =some e->w[i]? =some C->tn s e C:=λi e C a b=>((h2 i e C a b).mono f).mono l;rcases ac with⟨rfl,rfl⟩|⟨j,v,v',rfl,rfl,hv⟩;refine .setObj Q (.map (by simp[N]) λi e C a b=>?_) (λ_ _ _ e=>by cases e) (.pure rfl);rw[qG]at a b;rw[<-N]at b;split at a;rename_i J;rw[cx J]at b;cases a;cases b;exact⟨u,O,rfl⟩;rename_i J;rw[cr J]at b;exact B i e C a b;dsimp only;have E:VR s (((T[j]?).map (·.key)).getD k) (((w[j]?).map (·.key)).getD U):=by by_cases hj:j<T.size;have R:j<w.size:=N▸hj;rw[ji hj,ji R];exact(B j _ _ (ji hj) (ji R)).key;rw[mO (by omega),mO (by omega)];exact u
    refine SR.du (A:=λρ a b=>VR ρ a b) ?_ λK a b h ad=>?_;unfold Instr.keyThatStays;rw[GR (by rw[<-l.d,<-f.d,<-g.d];exact X) 10000 E u];split;exact .dT u;refine SR.du (A:=λ_ a b=>a=b) (.choose λn=>.pure rfl) λK a b h e=>?_;subst e;refine .dT ?_;split;exact u.mono h;exact E.mono h;refine .setObj (h.r _ _ Q) (.map (by simp[N]) λi e C c d=>?_) (λ_ _ _ e=>by cases e) (.pure rfl);rw[sL]at c d;split at c;rename_i J;rw[cx J]at d;obtain⟨e1,f1,rfl⟩:=ij.1 c;obtain⟨e2,f2,rfl⟩:=ij.1 d;exact⟨ad,O.mono h,(B i e1 e2 f1 f2).born⟩;rename_i J;rw[cr J]at d;exact(B i e C c d).mono h
   |cells _ _=>exact absurd rfl (Z _ _ _)
   |_=>exact .stuck
  |_=>exact .stuck
 |_=>exact .stuck
theorem SR.makeMap(t:cg){r g:Option ce}(h:qR ρ r g):SV P ρ (Instr.makeMap t r) (Instr.makeMap t g):=by
 unfold Instr.makeMap
 have tail:∀d,SV P d (do Pure.pure (Value.map (some (<-newObj (.map #[] 0))))) (do Pure.pure (Value.map (some (<-newObj (.map #[] 0))))):=λd=>
  SR.du (A:=λρ a b=>ρ.r a b) (.new (.map rfl λi e l h=>by simp at h) λn m o p _=>.pure (cR.rW _ _ _ _ _)) λd a b j k=>.dT (.map k)
 cases h with
 |none=>exact tail _
 |some h=>
  dsimp only;refine(SR.under t).du λf a b c e=>?_;obtain⟨rfl,q⟩:=e;split;exact(SR.asInt (h.mono c)).du λ_ _ _ _ _=>tail _;exact .stuck
def SR.len(q:Array cg)(t:cg)(h:eT ρ W X):SV P ρ (Builtin.len_ q t W) (Builtin.len_ q t X):=by
 unfold Builtin.len_;rcases h.get? 0 with⟨r,_⟩|⟨x,D,r,y,z⟩;rw[r];cases q[0]? <;>exact .stuck;rw[r,y];cases q[0]? with
 |none=>exact .stuck
 |some B=>
  dsimp only;refine(SR.under B).du λl a b j e=>?_;obtain⟨rfl,E⟩:=e;have c:=z.mono j;cases a with
  |array n e=>cases c<;>exact .dT (.int _ _)
  |pointer m=>
   have tail:SV P l (do let d<-Go.underlying m;match d with| .array n _=>Pure.pure (goInt n)|_=>Go.stuck "len: pointer to array expected") (do let d<-Go.underlying m;match d with| .array n _=>Pure.pure (goInt n)|_=>Go.stuck "len: pointer to array expected"):=by refine(SR.under m).du λg a b f e=>?_;obtain⟨rfl,_⟩:=e;cases a<;>first|exact .stuck|exact .dT (.int _ _)
   cases c<;>exact tail
  |string=>cases c<;>first|exact .stuck|exact .dT (.int _ _)
  |slice e=>cases c<;>first|exact .stuck|exact .dT (.int _ _)
  |map k e=>
   cases c with
   |qN=>exact .dT (.int _ _)
   |map s=>
    refine SR.du (A:=λρ a b=>jJ ρ a b/\∀u t v,a≠ .cells u t v) (.getObj s λo w i p=>.pure ⟨i,p⟩) λg o w f i=>?_;obtain⟨i,p⟩:=i;cases i with
    |map C F=>dsimp only;rw[C];exact .dT (.int _ _)
    |cells _ _=>exact absurd rfl (p _ _ _)
    |_=>exact .stuck
   |_=>exact .stuck
  |chan k e=>
   cases c with
   |px=>exact .dT (.int _ _)
   |chan s=>
    refine SR.du (A:=λρ a b=>jJ ρ a b/\∀u t v,a≠ .cells u t v) (.getObj s λo w i p=>.pure ⟨i,p⟩) λg o w f i=>?_;obtain⟨i,p⟩:=i;cases i with
    |cells _ _=>exact absurd rfl (p _ _ _)
    |_=>exact .stuck
   |_=>exact .stuck
  |_=>cases c<;>exact .stuck
def SR.cap(p:Array cg)(t:cg)(h:eT ρ W X):SV P ρ (Builtin.cap_ p t W) (Builtin.cap_ p t X):=by
 unfold Builtin.cap_;rcases h.get? 0 with⟨q,_⟩|⟨x,C,q,s,u⟩;rw[q];cases p[0]? <;>exact .stuck;rw[q,s];cases p[0]? with
 |none=>exact .stuck
 |some v=>
  dsimp only;refine(SR.under v).du λi a b f e=>?_;obtain⟨rfl,D⟩:=e;have c:=u.mono f;cases a with
  |array n e=>cases c<;>exact .dT (.int _ _)
  |pointer j=>
   have tail:SV P i (do let d<-Go.underlying j;match d with| .array n _=>Pure.pure (goInt n)|_=>Go.stuck "cap: pointer to array expected") (do let d<-Go.underlying j;match d with| .array n _=>Pure.pure (goInt n)|_=>Go.stuck "cap: pointer to array expected"):=by refine(SR.under j).du λl a b g e=>?_;obtain⟨rfl,_⟩:=e;cases a<;>first|exact .stuck|exact .dT (.int _ _)
   cases c<;>exact tail
  |slice e=>cases c<;>first|exact .stuck|exact .dT (.int _ _)
  |chan k e=>
   cases c with
   |px=>exact .dT (.int _ _)
   |chan w=>
    refine SR.du (A:=λρ a b=>jJ ρ a b/\∀y t z,a≠ .cells y t z) (.getObj w λo B m r=>.pure ⟨m,r⟩) λl o B g m=>?_;obtain⟨m,r⟩:=m;cases m with
    |cells _ _=>exact absurd rfl (r _ _ _)
    |_=>exact .stuck
   |_=>exact .stuck
  |_=>cases c<;>exact .stuck
def SR.Ri{f:ce->ce->Sem ce}(n:∀{ρ:cR} {a l b m:ce},VR ρ a l->VR ρ b m->SV P ρ (f a b) (f l m))(h:qo ρ M Y):∀{c:cR} {x g:ce},cR.Le ρ c->VR c x g->SV P c (M.foldlM f x) (Y.foldlM f g):=by
 induction h with
 |nil=>exactλ_ i=>.dT i
 |cons h _ o=>
  intro c x g e i;simp only[List.foldlM_cons];exact(n i (h.mono e)).du λj a b d k=>o (e.trans d) k
theorem SR.max2{ρ:cR}{a:ce}(b:VR ρ x y)(c:VR ρ z a):SV P ρ (Builtin.max2 x z) (Builtin.max2 y a):=by cases b<;>cases c<;>first|exact .stuck|exact .fA|exact .dT (.int _ _)|exact .dT (.string _)
theorem SR.min2{ρ:cR}{a:ce}(b:VR ρ x y)(c:VR ρ z a):SV P ρ (Builtin.min2 x z) (Builtin.min2 y a):=by cases b<;>cases c<;>first|exact .stuck|exact .fA|exact .dT (.int _ _)|exact .dT (.string _)
def SR.max(b:Array cg)(t:cg)(h:eT ρ W X):SV P ρ (Builtin.max_ b t W) (Builtin.max_ b t X):=by
 unfold Builtin.max_;have a:=h.list;revert a;generalize W.toList=l;generalize X.toList=e;intro a;cases a with
 |nil=>exact .stuck
 |cons h t=>exact SR.Ri (λc d=>SR.max2 c d) t (.refl _) h
def SR.min(b:Array cg)(t:cg)(h:eT ρ W X):SV P ρ (Builtin.min_ b t W) (Builtin.min_ b t X):=by
 unfold Builtin.min_;have a:=h.list;revert a;generalize W.toList=l;generalize X.toList=e;intro a;cases a with
 |nil=>exact .stuck
 |cons h t=>exact SR.Ri (λc d=>SR.min2 c d) t (.refl _) h
end
section
variable{P:cf}{ρ:cR}
theorem SR.lenOf(h:VR ρ x y):SE P ρ (Builtin.lenOf x) (Builtin.lenOf y):=by cases h<;>first|exact .dT rfl|exact .stuck
theorem SR.firstCells(size n:Nat)(h:VR ρ x y):SR P (λρ a b=>eT ρ a b) ρ (Builtin.firstCells size n x) (Builtin.firstCells size n y):=by
 cases h<;>first
  |exact SR.loadCells ‹_› _
  |exact .dT .nil
  |exact .dT (eT.map _ _ _ λ_ _=>.int _ _)
  |exact .stuck
def D6(h:eT ρ W X)(n:Nat):eT ρ (Builtin.zeroCells W n) (Builtin.zeroCells X n):=by
 unfold Builtin.zeroCells;have e:∀(a:Array ce) (i:Nat),a[i]! =(a[i]?).getD default:=λa i=>by simp[getElem!_def];cases a[i]? <;>rfl
 rw[<-h.size];refine eT.map _ _ _ λi _=>?_;rw[e,e];rcases h.get? (i%W.size)with⟨b,c⟩|⟨v,f,b,c,d⟩;rw[b,c];exact .bool _;rw[b,c];exact d
theorem SR.askRoom(n:Nat):SE P ρ (Go.askRoom n) (Go.askRoom n):=by unfold Go.askRoom;split;exact .noRoom (.pure rfl);exact .dT rfl
def D7(size f n:Nat)(e:Option Addr)(x:ce)(w:cd):∃b,(Builtin.mayShare size f n e x).run P w=.ok b w:=by
 have g:∀(a:Addr) (c:Nat),∃b,(Builtin.holdsCells a c).run P w=.ok b w:=by
  intro a c;unfold Builtin.holdsCells;rw[Sem.run_bind];show∃b,((Result.ok (w.shape? a.block) w).andThen _)=_;rw[Result.andThen_ok];cases w.shape? a.block with
  |none=>exact⟨_,rfl⟩
  |some p=>exact⟨_,rfl⟩
 have tail:∀d:Bool,∃b,(if(!d)=true then Pure.pure true else match x with
  | .slice (some b) _ _=>do Pure.pure (!(<-Builtin.holdsCells b (n*size))||e.any (·.block==b.block))
  |_=>Pure.pure false:Sem Bool).run P w=.ok b w:=by
  intro d;cases d with
  |false=>exact⟨_,rfl⟩
  |true=>
   simp only[Bool.not_true,iq,eo];cases x with
   |slice a l c=>
    cases a with
    |none=>exact⟨_,rfl⟩
    |some b=>
     obtain⟨z,h⟩:=g b (n*size);exact⟨!z||e.any (·.block==b.block),by simp only[Sem.run_bind,h,Result.andThen_ok];rfl⟩
   |_=>exact⟨_,rfl⟩
 unfold Builtin.mayShare;cases e with
 |none=>exact tail true
 |some a=>
  obtain⟨b,i⟩:=g a (f*size);dsimp only;simp only[Sem.run_bind,i,Result.andThen_ok];exact tail (b&&!(w.frozen? (a.add (f/2*size))))
theorem SR.append{S:FuncId->Bool}{ai:Bool}(F:Fit P S ai)(V:Array TypeId)(t:TypeId)(ab:∀u,V[1]? =some u->intType P u=false){xs ac:Array Value}(h:eT ρ xs ac):SV P ρ (Builtin.append_ V t xs) (Builtin.append_ V t ac):=by
 unfold Builtin.append_
 rcases h.get? 0 with⟨e1,_⟩|⟨s,s',e1,e2,hs⟩
 ·rw[e1];cases V[0]? <;>exact .stuck
 rcases h.get? 1 with⟨f1,_⟩|⟨x,W,f1,f2,hx⟩
 ·rw[e1,f1];cases V[0]? <;>exact .stuck
 rw[e1,e2,f1,f2]
 cases V[0]? with
 |none=>exact .stuck
 |some sT=>
  dsimp only
  refine(SR.under sT).du λN a b Q e=>?_
  obtain⟨rfl,hu⟩:=e
  have aj:=hs.mono Q
  have ak:=hx.mono Q
  cases a with
  |slice g=>
   dsimp only
   have R:∀(H:cR) (size:Nat) (y r:Option Addr) (d k:Nat),cR.Le N H->VR N (.slice y d k) (.slice r d k)->((y=none/\r=none)\/∃p p',y=some p/\r=some p'/\AR N p p')->
    SV P H (do
     let n<-Builtin.lenOf x
     if d+n<=k then
      let D<-Builtin.firstCells size n x
      if let some a:=y then Go.storeCells (a.add (d*size)) D.toList
      Pure.pure (.slice y (d+n) k)
     else
      if((d+n:Nat):Int)>IntKind.i64.max/\(false=true\/(<-typeInfo g).bytes=0)then runtimePanic (.error "growslice: len out of range")
      if Builtin.nextslicecap (d+n) k*(<-typeInfo g).bytes>2^48 then(do
       if !(<-Builtin.mayShare size d n y x)then Go.mark .noRoom
       Go.unsupported (.resourceLimit "append: a slice or a string whose bytes no memory bears"))
      let f<-Go.choose (.appendCap (d+n) k g)
      Go.askRoom (f*(<-typeInfo g).bytes)
      let I<-Builtin.firstCells size d (.slice y d k)
      let D<-Builtin.firstCells size n x
      let B:=Builtin.zeroCells (<-zeroValue g).cells (f-(d+n))
      Pure.pure (.slice (some (<-Go.newRow g (I++D++B))) (d+n) f))
    (do
     let n<-Builtin.lenOf W
     if d+n<=k then
      let D<-Builtin.firstCells size n W
      if let some a:=r then Go.storeCells (a.add (d*size)) D.toList
      Pure.pure (.slice r (d+n) k)
     else
      if((d+n:Nat):Int)>IntKind.i64.max/\(false=true\/(<-typeInfo g).bytes=0)then runtimePanic (.error "growslice: len out of range")
      if Builtin.nextslicecap (d+n) k*(<-typeInfo g).bytes>2^48 then(do
       if !(<-Builtin.mayShare size d n r W)then Go.mark .noRoom
       Go.unsupported (.resourceLimit "append: a slice or a string whose bytes no memory bears"))
      let f<-Go.choose (.appendCap (d+n) k g)
      Go.askRoom (f*(<-typeInfo g).bytes)
      let I<-Builtin.firstCells size d (.slice r d k)
      let D<-Builtin.firstCells size n W
      let B:=Builtin.zeroCells (<-zeroValue g).cells (f-(d+n))
      Pure.pure (.slice (some (<-Go.newRow g (I++D++B))) (d+n) f)):=by
    intro H size y r d k v al hb
    have X:=ak.mono v
    have ad:=al.mono v
    refine(SR.lenOf X).du λam n m J e=>?_
    subst e
    by_cases K:d+n<=k
    ·rw[if_pos K,if_pos K]
     refine(SR.firstCells size n (X.mono J)).du λO c c' L hc=>?_
     rcases hb with⟨rfl,rfl⟩|⟨p,p',rfl,rfl,hp⟩
     ·exact .dT (.fc _ _)
     ·have ae:=((hp.mono v).mono J).mono L
      refine SR.du (SR.storeCells 0 (ae.add (d*size)) hc.list) λC _ _ E _=>?_
      exact .dT (.slice _ _ (ae.mono E))
    ·rw[if_neg K,if_neg K]
     refine(SR.info g).du λO i j L e=>?_
     obtain⟨rfl,_⟩:=e
     have tail:∀C,cR.Le O C->SV P C
      (do
       let f<-Go.choose (.appendCap (d+n) k g)
       Go.askRoom (f*(<-typeInfo g).bytes)
       let I<-Builtin.firstCells size d (.slice y d k)
       let D<-Builtin.firstCells size n x
       let B:=Builtin.zeroCells (<-zeroValue g).cells (f-(d+n))
       Pure.pure (.slice (some (<-Go.newRow g (I++D++B))) (d+n) f))
      (do
       let f<-Go.choose (.appendCap (d+n) k g)
       Go.askRoom (f*(<-typeInfo g).bytes)
       let I<-Builtin.firstCells size d (.slice r d k)
       let D<-Builtin.firstCells size n W
       let B:=Builtin.zeroCells (<-zeroValue g).cells (f-(d+n))
       Pure.pure (.slice (some (<-Go.newRow g (I++D++B))) (d+n) f)):=by
      intro C E
      refine SR.du (A:=λ_ a b=>a=b) (.choose λn=>.pure rfl) λY c c' M e=>?_
      subst e
      refine(SR.info g).du λan i j T e=>?_
      obtain⟨rfl,_⟩:=e
      refine(SR.askRoom _).du λao _ _ U _=>?_
      have hl:=((((J.trans L).trans E).trans M).trans T).trans U
      refine(SR.firstCells size d (ad.mono hl)).du λaq o o' af ho=>?_
      refine(SR.firstCells size n ((X.mono hl).mono af)).du λar w w' ag hw=>?_
      refine(SR.zero F g).du λau z z' ah hz=>?_
      refine SR.du (SR.newRow g ((((ho.mono ag).append hw).mono ah).append (D6 hz.cells _))) λav q q' _ hq=>?_
      exact .dT (.slice _ _ hq)
     have ap:∀C,cR.Le O C->SV P C
      (do
       if Builtin.nextslicecap (d+n) k*(<-typeInfo g).bytes>2^48 then(do
        if !(<-Builtin.mayShare size d n y x)then Go.mark .noRoom
        Go.unsupported (.resourceLimit "append: a slice or a string whose bytes no memory bears"))
       let f<-Go.choose (.appendCap (d+n) k g)
       Go.askRoom (f*(<-typeInfo g).bytes)
       let I<-Builtin.firstCells size d (.slice y d k)
       let D<-Builtin.firstCells size n x
       let B:=Builtin.zeroCells (<-zeroValue g).cells (f-(d+n))
       Pure.pure (.slice (some (<-Go.newRow g (I++D++B))) (d+n) f))
      (do
       if Builtin.nextslicecap (d+n) k*(<-typeInfo g).bytes>2^48 then(do
        if !(<-Builtin.mayShare size d n r W)then Go.mark .noRoom
        Go.unsupported (.resourceLimit "append: a slice or a string whose bytes no memory bears"))
       let f<-Go.choose (.appendCap (d+n) k g)
       Go.askRoom (f*(<-typeInfo g).bytes)
       let I<-Builtin.firstCells size d (.slice r d k)
       let D<-Builtin.firstCells size n W
       let B:=Builtin.zeroCells (<-zeroValue g).cells (f-(d+n))
       Pure.pure (.slice (some (<-Go.newRow g (I++D++B))) (d+n) f)):=by
      intro C E
      refine(SR.info g).du λY i j M e=>?_
      obtain⟨rfl,_⟩:=e
      dsimp only
      split
      ·refine .never λw=>?_
       obtain⟨b,hb⟩:=D7 (P:=P) size d n y x w
       simp only[Sem.run_bind,hb,Result.andThen_ok]
       cases b<;>exact⟨_,_,rfl,rfl⟩
      ·exact tail _ (E.trans M)
     dsimp only
     split
     ·exact SR.du (A:=λ_ _ _=>False) (SR.jc _ (.inr (.inl ⟨_,rfl⟩))) λ_ _ _ _ h=>h.elim
     ·exact ap _ (.refl _)
   cases aj with
   |fc l c=>
    refine(SR.size g).du λZ size b G e=>?_
    obtain⟨rfl,_⟩:=e
    cases h1:V[1]? with
    |none=>exact R _ size none none l c G (.fc _ _) (.inl ⟨rfl,rfl⟩)
    |some u=>
     have hi:=ab u h1
     refine(SR.under u).du λH a b v e=>?_
     obtain⟨rfl,aa⟩:=e
     simp only[intType,aa]at hi
     cases a<;>first|exact R _ size none none l c (G.trans v) (.fc _ _) (.inl ⟨rfl,rfl⟩)|(simp at hi)
   |slice l c ha=>
    refine(SR.size g).du λZ size b G e=>?_
    obtain⟨rfl,_⟩:=e
    cases h1:V[1]? with
    |none=>exact R _ size _ _ l c G (.slice _ _ ha) (.inr ⟨_,_,rfl,rfl,ha⟩)
    |some u=>
     have hi:=ab u h1
     refine(SR.under u).du λH a b v e=>?_
     obtain⟨rfl,aa⟩:=e
     simp only[intType,aa]at hi
     cases a<;>first|exact R _ size _ _ l c (G.trans v) (.slice _ _ ha) (.inr ⟨_,_,rfl,rfl,ha⟩)|(simp at hi)
   |_=>exact .stuck
  |_=>exact .stuck
theorem SR.makeSlice{S:cm->Bool}(F:Fit P S D)(t:cg){C:ce}(N:VR ρ x y)(O:VR ρ z C):SV P ρ (Instr.makeSlice t x z) (Instr.makeSlice t y C):=by
 unfold Instr.makeSlice;refine(SR.under t).du λE a b d e=>?_;obtain⟨rfl,R⟩:=e;cases a with
 |slice c=>
  dsimp only;refine(SR.asInt (N.mono d)).du λG n m l e=>?_;subst e;refine(SR.asInt ((O.mono d).mono l)).du λH k m v e=>?_;subst e;refine(SR.info c).du λI i j w e=>?_;obtain⟨rfl,_⟩:=e;have tail:∀f,SV P f
   (do
    Go.askRoom ((IntKind.i64.wrap k).toNat*i.bytes);let r:=(IntKind.i64.wrap k).toNat*(<-Go.sizeOf c);let zero<-if r=0 then Pure.pure #[]else do Pure.pure (<-zeroValue c).cells
    let a<-Go.newRow c ((Array.range r).map (zero[·%zero.size]!));Pure.pure (.slice (some a) (IntKind.i64.wrap n).toNat (IntKind.i64.wrap k).toNat))
   (do
    Go.askRoom ((IntKind.i64.wrap k).toNat*i.bytes);let r:=(IntKind.i64.wrap k).toNat*(<-Go.sizeOf c);let zero<-if r=0 then Pure.pure #[]else do Pure.pure (<-zeroValue c).cells
    let a<-Go.newRow c ((Array.range r).map (zero[·%zero.size]!));Pure.pure (.slice (some a) (IntKind.i64.wrap n).toNat (IntKind.i64.wrap k).toNat)):=by
   intro f;refine(SR.askRoom _).du λJ _ _ _ _=>?_;refine(SR.size c).du λo s T _ e=>?_;obtain⟨rfl,_⟩:=e;dsimp only;split;refine SR.du (A:=λρ a b=>eT ρ a b) (.dT .nil) λg L M _ u=>?_;refine SR.du (SR.newRow c (CC u _)) λp q Q _ K=>?_;exact .dT (.slice _ _ K);refine(SR.zero F c).du λg L M _ u=>?_;refine SR.du (A:=λρ a b=>eT ρ a b) (.dT u.cells) λg L M _ u=>?_;refine SR.du (SR.newRow c (CC u _)) λp q Q _ K=>?_;exact .dT (.slice _ _ K)
  try dsimp only
  repeat' split
  all_goals first
   |exact tail _
   |exact SR.du (A:=λ_ _ _=>False) (SR.jc _ (.inr (.inl ⟨_,rfl⟩))) λ_ _ _ _ h=>h.elim
   |(refine SR.du (A:=λ_ a b=>a=b) (.choose λn=>.pure rfl) λo z C B e=>?_;subst e;exact SR.du (A:=λ_ _ _=>False) (SR.jc _ (.inr (.inl ⟨_,rfl⟩))) λ_ _ _ _ h=>h.elim)
 |_=>exact .stuck
inductive sF (ρ:cR):Deferred->Deferred->Prop
 |fn {f:cm} {cs tl xs xs':Array ce} (hS:ρ.S f=true) (h1:eT ρ cs tl) (h2:eT ρ xs xs'):sF ρ {target:=.fn (.func f) cs,args:=xs} {target:=.fn (.func f) tl,args:=xs'}
 |yield {l l':Nat} {xs xs':Array ce} (h:ρ.r l l') (h2:eT ρ xs xs'):sF ρ {target:=.fn (.yield l) #[],args:=xs} {target:=.fn (.yield l') #[],args:=xs'}
 |nil {xs xs':Array ce} (h2:eT ρ xs xs'):sF ρ {target:=.nil,args:=xs} {target:=.nil,args:=xs'}
 |collected {l l':Nat} (h:ρ.r l l'):sF ρ {target:=.collected l,args:=#[]} {target:=.collected l',args:=#[]}
inductive Bl (ρ:cR):Next->Next->Prop
 |value {v v':ce} (h:VR ρ v v'):Bl ρ (.value v) (.value v')
 |skip:Bl ρ .skip .skip
 |enter {f:cm} {xs xs':Array ce} (hS:ρ.S f=true) (h:eT ρ xs xs'):Bl ρ (.enter f xs) (.enter f xs')
 |round {l l':Nat} {f:cm} {xs xs':Array ce} {a b:Code} (hl:ρ.r l l') (hf:ρ.S f=true) (hh:ρ.hole f=false) (hd:ρ.df f=false) (ha:ρ.ok f a=true) (hb:ρ.ok f b=true) (h:eT ρ xs xs'):Bl ρ (.round l f xs a b) (.round l' f xs' a b)
 |defer {d d':Deferred} (h:sF ρ d d') (hd:ρ.Def):Bl ρ (.defer d) (.defer d')
abbrev SN(P:cf)(ρ:cR)(s a:Sem Next):Prop:=SR P Bl ρ s a
def SN.v{s a:Sem ce}(h:SV P ρ s a):SN P ρ (do Pure.pure (.value (<-s))) (do Pure.pure (.value (<-a))):=SR.du h λ_ _ _ _ b=>.dT (.value b)
def SN.u{s a:Sem Unit}(h:SE P ρ s a):SN P ρ (do s;Pure.pure .skip) (do a;Pure.pure .skip):=SR.du h λ_ _ _ _ _=>.dT .skip
structure Rj(P:cf)(ρ:cR):Prop where
 fn:∀f,ρ.S f=true->∃fn' c,ρ.fs[f]? =some fn'/\(fn'.name== "runtime.NumGoroutine")=false/\fn'.body=some c/\(ρ.hole f=false->P.funcs[f]? =some fn')
def Rj.mono{ρ b:cR}(h:Rj P ρ)(a:cR.Le ρ b):Rj P b:=⟨by rw[<-a.s,<-a.f,<-a.h];exact h.fn⟩
theorem SR.callFunc(F:Fit P ρ.S ρ.dim)(T:Rj P ρ)(f:cm)(i:ρ.S f=true)(h:eT ρ W X):SN P ρ (Go.callFunc f W) (Go.callFunc f X):=by obtain⟨q,c,k,l,m⟩:=F.fn f i;obtain⟨j,r,n,o,p,_⟩:=T.fn f i;unfold Go.callFunc;refine SR.prog.du λd a b g e=>?_;obtain⟨rfl,rfl⟩:=e;rw[k,show(a.ir d.fs).funcs[f]? =some j from by rw[<-n,<-g.f]];dsimp only;rw[l,m,o,p];exact .dT (.enter (g.s▸i) (h.mono g))
theorem SR.getLoop(h:ρ.r m k):SR P (λρ a b=>DY ρ a b) ρ (Instr.getLoop m) (Instr.getLoop k):=by
 unfold Instr.getLoop;refine SR.du (A:=λρ a b=>jJ ρ a b/\∀g t i,a≠ .cells g t i) (.getObj h λo j c e=>.pure ⟨c,e⟩) λf o j d c=>?_;obtain⟨c,e⟩:=c;cases c with
 |loop h=>exact .dT h
 |cells _ _=>exact absurd rfl (e _ _ _)
 |_=>exact .stuck
def JO(h:qo ρ M Y):∀(c:List Tmp) {d b:Array ce},eT ρ d b->
 eT ρ ((c.zip M).foldl (λa (x:Tmp×ce)=>a.setIfInBounds x.1 x.2) d) ((c.zip Y).foldl (λa (x:Tmp×ce)=>a.setIfInBounds x.1 x.2) b):=by
 induction h with
 |nil=>exactλc d b h=>by simpa using h
 |cons h _ f=>
  intro c d b e;cases c with
  |nil=>simpa using e
  |cons p c=>exact f c (e.set p h)
theorem SR.yield(h:ρ.r m k)(d:eT ρ W X):SN P ρ (Instr.yield m W) (Instr.yield k X):=by unfold Instr.yield;refine(SR.getLoop h).du λc r j b a=>?_;have e:=a.params;have f:=a.fn;have g:=a.assign;have i:=a.body;rw[<-e,<-d.size];split;exact .dead rfl;refine .dT ?_;rw[<-f,<-g,<-i];refine .round (b.r _ _ h) a.fnS a.fnH a.hd a.okA a.okB ?_;have:=JO (d.mono b).list r.params.toList a.tmps;rw[<-L3,<-L3,Array.toList_zip,Array.toList_zip];exact this
theorem SR.enterLoop{fn:FuncId}(TR:ρ.S fn=true)(kQ:ρ.hole fn=false){ts jr:Array Value}(ht:eT ρ ts jr)(ps:Array Tmp)(a b:Code)(ha:ρ.ok fn a=true)(hb:ρ.ok fn b=true)(ju:ρ.df fn=false){ar jD:Option Nat} (kR:(ar=none/\jD=none)\/∃l l',ar=some l/\jD=some l'/\ρ.r l l'):
 SR P (λρ (x y:Nat×List Deferred)=>ρ.r x.1 y.1/\((x.2=[]/\y.2=[])\/∃d d',x.2=[d]/\y.2=[d']/\sF ρ d d'/\∃b,d.target=.collected b)) ρ (Instr.enterLoop fn ts ps a b ar) (Instr.enterLoop fn jr ps a b jD):=by
 unfold Instr.enterLoop;have fin:∀mV (d d':Nat) (m m':List Deferred),cR.Le ρ mV->mV.r d d'->((m=[]/\m'=[])\/∃x x',m=[x]/\m'=[x']/\sF mV x x'/\∃b,x.target=.collected b)->
  SR P (λρ (x y:Nat×List Deferred)=>ρ.r x.1 y.1/\((x.2=[]/\y.2=[])\/∃d d',x.2=[d]/\y.2=[d']/\sF ρ d d'/\∃b,d.target=.collected b)) mV
   (do Pure.pure (<-newObj (.loop {state:=.ready,pending:=none,fn,tmps:=ts,params:=ps,assign:=a,body:=b,defers:=d}),m))
   (do Pure.pure (<-newObj (.loop {state:=.ready,pending:=none,fn,tmps:=jr,params:=ps,assign:=a,body:=b,defers:=d'}),m')):=by
  intro mV d d' m m' hle hd hm;refine SR.du (A:=λc8 a b=>c8.r a b/\cR.Le mV c8) (.new (.loop ⟨rfl,rfl,rfl,ht.mono hle,rfl,rfl,rfl,hd,hle.s▸TR,hle.o▸ha,hle.o▸hb,(λ_ e=>by cases e),hle.w▸ju,hle.h▸kQ⟩) λn n' hn hm _=>.pure ⟨cR.rW _ _ _ _ _,cR.tk _ _ _ _ _⟩) λRf x y tp Mi=>?_;refine .dT ⟨Mi.1,?_⟩;rcases hm with⟨rfl,rfl⟩|⟨x,x',rfl,rfl,hx,hb⟩
  ·exact .inl ⟨rfl,rfl⟩
  ·refine .inr ⟨x,x',rfl,rfl,?_,hb⟩;cases hx with
   |fn hS h1 h2=>exact .fn (Mi.2.s▸hS) (h1.mono Mi.2) (h2.mono Mi.2)
   |yield h h2=>exact .yield (Mi.2.r _ _ h) (h2.mono Mi.2)
   |nil h2=>exact .nil (h2.mono Mi.2)
   |collected h=>exact .collected (Mi.2.r _ _ h)
 rcases kR with⟨rfl,rfl⟩|⟨l,l',rfl,rfl,hl⟩
 ·dsimp only;refine SR.du (A:=λc8 a b=>c8.r a b) (.new .uh λn n' hn hm _=>.pure (cR.rW _ _ _ _ _)) λRf x y tp Mi=>?_;exact fin Rf x y _ _ tp Mi (.inr ⟨_,_,rfl,rfl,.collected Mi,_,rfl⟩)
 ·dsimp only;refine(SR.getLoop hl).du λRf x y tp Mi=>?_;exact fin Rf _ _ _ _ tp Mi.defers (.inl ⟨rfl,rfl⟩)
theorem SR.beginRound(h:ρ.r m k):SE P ρ (Instr.beginRound m) (Instr.beginRound k):=by
 unfold Instr.beginRound;refine(SR.getLoop h).du λc r g d a=>?_;refine SR.du (A:=λ_ _ _=>True) (.setObj (d.r _ _ h) (.loop ⟨rfl,a.pending,a.fn,a.tmps,a.params,a.assign,a.body,a.defers,a.fnS,a.okA,a.okB,a.okP,a.hd,a.fnH⟩) (λ_ _ _ e=>by cases e) (.pure trivial)) λf _ _ b _=>?_;rw[<-a.state];cases r.state with
 |ready=>exact .dT rfl
 |_=>exact SR.jc _ (.inr (.inl ⟨_,rfl⟩))
theorem SR.endRound(h:ρ.r m k)(j:Option Code)(l:∀c,j=some c->∀f,ρ.ok f c=true):SV P ρ (Instr.endRound m j) (Instr.endRound k j):=by unfold Instr.endRound;refine(SR.getLoop h).du λg r n b a=>?_;refine SR.du (A:=λ_ _ _=>True) (.setObj (b.r _ _ h) (.loop ⟨rfl,rfl,a.fn,a.tmps,a.params,a.assign,a.body,a.defers,a.fnS,a.okA,a.okB,b.o▸l,a.hd,a.fnH⟩) (λ_ _ _ e=>by cases e) (.pure trivial)) λi _ _ d _=>?_;exact .dT (.bool _)
theorem SR.endLoop(h:ρ.r m k):SR P (λρ a b=>a=b/\∀c,a=some c->∀f,ρ.ok f c=true) ρ (Instr.endLoop m) (Instr.endLoop k):=by
 unfold Instr.endLoop;refine(SR.getLoop h).du λg r q j d=>?_;have s:=d.state;have l:SR P (λρ a b=>a=b/\∀c,a=some c->∀f,ρ.ok f c=true) g (do Go.setObj m (.loop {r with state:=.exhausted});Pure.pure r.pending) (do Go.setObj k (.loop {q with state:=.exhausted});Pure.pure q.pending):=by refine SR.du (A:=λn _ _=>cR.Le g n) (.setObj (j.r _ _ h) (.loop ⟨rfl,d.pending,d.fn,d.tmps,d.params,d.assign,d.body,d.defers,d.fnS,d.okA,d.okB,d.okP,d.hd,d.fnH⟩) (λ_ _ _ e=>by cases e) (.pure (.refl _))) λp _ _ i t=>?_;exact .dT ⟨d.pending,λc e=>t.o▸d.okP c e⟩
 rw[<-s];split;exact SR.du (A:=λ_ _ _=>False) (SR.jc _ (.inr (.inl ⟨_,rfl⟩))) λ_ _ _ _ h=>h.elim;exact l
theorem SR.takeDeferred(h:ρ.r m k):SR P (λ_ a b=>a=[]/\b=[]) ρ (Instr.takeDeferred m) (Instr.takeDeferred k):=by
 unfold Instr.takeDeferred;refine SR.du (A:=λρ a b=>jJ ρ a b/\∀i t j,a≠ .cells i t j) (.getObj h λo l f g=>.pure ⟨f,g⟩) λd o l c f=>?_;obtain⟨f,g⟩:=f;cases f with
 |uh=>
  dsimp only;refine SR.du (A:=λ_ _ _=>True) (.setObj (c.r _ _ h) .taken (λ_ _ _ e=>by cases e) (.pure trivial)) λd _ _ c _=>?_;exact .dT ⟨rfl,rfl⟩
 |cells _ _=>exact absurd rfl (g _ _ _)
 |_=>exact .stuck
theorem SR.ofValue(h:VR ρ x y){xs xs':Array ce}(a:eT ρ xs xs'):SR P sF ρ (Deferred.ofValue x xs) (Deferred.ofValue y xs'):=by
 unfold Deferred.ofValue;cases h with
 |func b c d e f=>exact .dT (.fn b ⟨e,f⟩ (eT.append ⟨c,d⟩ a))
 |yield h=>exact .dT (by simpa using sF.yield h a)
 |nilFunc=>exact .dT (.nil a)
 |_=>exact .stuck
theorem SR.invoke(F:Fit P ρ.S ρ.dim)(T:Rj P ρ){d b:Deferred}(h:sF ρ d b):SN P ρ (Go.invoke d.target d.args) (Go.invoke b.target b.args):=by
 unfold Go.invoke;cases h with
 |fn c e a=>exact SR.callFunc F T _ c (a.append e)
 |yield h a=>exact SR.yield h a
 |nil a=>exact SR.jc _ (.inr (.inr (.inr rfl)))
 |collected h=>exact .stuck
def D8{c a:dj->ce}{b:Array dj}(h:∀x,jw ρ.S x=true->VR ρ (c x) (a x))(d:∀x∈b,jw ρ.S x=true):eT ρ (b.map c) (b.map a):=
 eT.map _ _ _ λx e=>h x (d x e)
def SR.exec(F:Fit P ρ.S ρ.dim)(T:Rj P ρ){ev ev':dj->ce}(j:∀x,jw ρ.S x=true->VR ρ (ev x) (ev' x))(J:D=true->ρ.Def)(K:∀v,ev (.const v)=v/\ev' (.const v)=v)(o:Oper)(Q:qP P ρ.S ρ.dim D o=true):SN P ρ (execOp ev o) (execOp ev' o):=by
 simp only[qP,ez,DU]at Q;obtain⟨g,p⟩:=Q;unfold execOp;cases V:o.op<;>simp only[V,GK,Op.operands]at g p;case move x=>exact .dT (.value (j x (g x (by simp))))
 case assign x=>exact .dT (.value (j x (g x (by simp))))
 case pick c a b=>
  refine(SR.asBool (j c (g c (by simp)))).du λG x y q e=>?_;subst e;refine .dT (.value ?_);split;exact(j a (g a (by simp))).mono q;exact(j b (g b (by simp))).mono q
 case alloc t=>exact SN.v (SR.alloc F t _)
 case box t x=>exact SN.v (SR.box t (j x (g x (by simp))))
 case build t O=>
  refine SN.v (SR.build F t ?_);have:=vK (ρ:=ρ) (ev:=ev) (ev':=ev') (l:=O.toList) λx A=>j _ (g _ (by simp;exact⟨x.1,by simpa using A⟩));simpa using this
 case buildSlice t n O=>
  refine SN.v (SR.buildSlice F t n ?_);have:=vK (ρ:=ρ) (ev:=ev) (ev':=ev') (l:=O.toList) λx A=>j _ (g _ (by simp;exact⟨x.1,by simpa using A⟩));simpa using this
 case load t a=>exact SN.v (SR.loadAt t (j a (g a (by simp))))
 case store t a x=>exact SN.u (SR.storeAt t (j a (g a (by simp))) (j x (g x (by simp))))
 case nilCheck x=>
  have A:=j x (g x (by simp));dsimp only;revert A;generalize ev x=v;generalize ev' x=v';intro A;cases A<;>first
   |exact SR.jc _ (.inr (.inr (.inr rfl)))
   |exact .dT (.value (by first|exact .bool _|exact .int _ _|exact .string _|exact .ptr ‹_›|exact .fc _ _|exact .slice _ _ ‹_›|exact .qN|exact .map ‹_›|exact .px|exact .chan ‹_›|exact .func ‹_› ‹_› ‹_› ‹_› ‹_›|exact .yield ‹_›|exact .iface _ ‹_›|exact .agg ‹_› ‹_›|exact .tuple ‹_› ‹_›|exact .CB ‹_› _))
 case binOp I t x y yt=>
  refine SN.v ?_;have A:=j x (g x (by simp));have N:=j y (g y (by simp));have R:(I=.eql\/I=.neq)->eK P 5 t=true:=by rintro(rfl|rfl)<;>simpa using p
  refine(SR.eqGuard F I t (λ_ _=>trivial) R x y A N).du λG _ _ q _=>?_;exact SR.binOp (dim:=ρ.dim) F I t R (A.mono q) (N.mono q)
 case unOp I t x=>exact SN.v (SR.unary I (j x (g x (by simp))))
 case convert s d x=>
  simp only[ez]at p;exact SN.v (SR.conv s d p.1 p.2 (j x (g x (by simp))))
 case makeFunc W fs cs=>
  cases W with
  |func f=>exact SN.v (.dT (.func p (by simp) (D8 j λx A=>g x (by simp[A])).at_ (by simp) (D8 j λx A=>g x (by simp[A])).at_))
  |_=>simp at p
 case makeMap t r=>
  refine SN.v (SR.makeMap t ?_);cases r with
  |none=>exact .none
  |some x=>exact .some (j x (g x (by simp)))
 case makeSlice t l c=>exact SN.v (SR.makeSlice F t (j l (g l (by simp))) (j c (g c (by simp))))
 case slice t x X Y Z=>
  have H:∀(y:Option dj),(∀z,y=some z->jw ρ.S z=true)->qR ρ (y.map ev) (y.map ev'):=by
   intro y N;cases y with
   |none=>exact .none
   |some z=>exact .some (j z (N z rfl))
  exact SN.v (SR.sliceAt t (j x (g x (by simp))) (H X λz e=>g z (by simp[e])) (H Y λz e=>g z (by simp[e])) (H Z λz e=>g z (by simp[e])))
 case fieldAddr s x i=>exact SN.v (SR.fieldAt s i (by simpa[GK]using p) (j x (g x (by simp))))
 case field s x i=>exact SN.v (SR.field s (j x (g x (by simp))) i)
 case indexAddr t x i=>exact SN.v (SR.indexAt t (j x (g x (by simp))) (j i (g i (by simp))))
 case index t x i=>exact SN.v (SR.index t (j x (g x (by simp))) (j i (g i (by simp))))
 case lookup t m k ok=>
  refine SN.v (SR.lookup F t (λkt e L=>?_) ok (j m (g m (by simp))) (j k (g k (by simp))));simp only[L,ez]at p;exact p.2
 case mapUpdate t m k x=>
  have M:ρ.dim=false:=by revert p;split;intro h;simp only[ez,yu]at h;exact h.1;intro h;cases h
  refine SN.u (SR.mapUpdate F M t (λkt e L=>?_) (j m (g m (by simp))) (j k (g k (by simp))) (j x (g x (by simp))));simp only[L,ez]at p;exact p.2
 case extract x i=>exact SN.v (SR.extract (j x (g x (by simp))) i)
 case call c=>
  obtain⟨B,C,E⟩:=c;cases B with
  |value f=>
   unfold resolve;dsimp only;refine SR.du (SR.ofValue (j f (g f (by simp[Call.operands]))) (D8 j λx A=>g x (by simp[Call.operands,A]))) λG d d' q M=>?_;exact SR.invoke (q.s▸q.d▸F) (T.mono q) M
  |builtin b=>
   unfold resolve;have w:eT ρ (C.map ev) (C.map ev'):=D8 j λx A=>g x (by simp[Call.operands,A]);simp only[ez]at p;obtain⟨h1,U⟩:=p;dsimp only;show SN P ρ (Go.builtin b E o.type _ (C.map ev)) (Go.builtin b E o.type _ (C.map ev'));cases b<;>first
    |(simp[Bf]at h1;done)
    |exact SN.v (SR.len E o.type w)
    |exact SN.v (SR.cap E o.type w)
    |exact SN.v (SR.max E o.type w)
    |exact SN.v (SR.min E o.type w)
    |(refine SN.v (SR.append F E o.type (λu L=>?_) w);simp only[L,yu]at U;exact U)
  |invoke r n=>simp at p
 case defer c=>
  obtain⟨B,C,E⟩:=c;cases B with
  |value f=>
   unfold resolve;dsimp only;refine SR.du (SR.ofValue (j f (g f (by simp[Call.operands]))) (D8 j λx A=>g x (by simp[Call.operands,A]))) λG d d' q M=>?_;exact .dT (.defer M ((J p).mono q))
  |_=>simp at p
 case panic x=>
  split at p;rename_i t k n;refine SN.v (?_:SV P ρ (Instr.panic (ev (.const (.iface t (.int k n))))) (Instr.panic (ev' (.const (.iface t (.int k n))))));rw[(K _).1,(K _).2];exact SR.goPanic (.iface _ (.int _ _)) (.inl (J p));cases p
 all_goals simp at p
end
end Go.cF
variable{F:Go.Frame}{K:cm}
namespace Go.cF
section
variable{P:cf}
structure Good(P:cf)(ρ:cR):Prop where
 fit:Fit P ρ.S ρ.dim
 ok:ρ.ok=λf=>gh P ρ.S ρ.dim (ρ.df f)
 code:∀f,ρ.S f=true->ρ.hole f=false->∃fn c,P.funcs[f]? =some fn/\fn.body=some c/\gh P ρ.S ρ.dim (ρ.df f) c=true
 two:Rj P ρ
 dh:ρ.Def->∀f,ρ.hole f=false
theorem Good.mono{b:cR}(h:Good P R)(a:cR.Le R b):Good P b:=⟨a.s▸a.d▸h.fit,by rw[<-a.o,<-a.s,<-a.d,<-a.w];exact h.ok,by rw[<-a.s,<-a.d,<-a.w,<-a.h];exact h.code,h.two.mono a,λ⟨f,c⟩ g=>by rw[<-a.h];exact h.dh ⟨f,by rw[a.w];exact c⟩ g⟩
inductive qp (P:cf) (ρ:cR) (f:cm):Item->Item->Prop
 |code {c:Code} (h:ρ.ok f c=true):qp P ρ f (.code c) (.code c)
 |inBlock (id:Nat):qp P ρ f (.inBlock id) (.inBlock id)
 |inLoop {c:Code} (h:ρ.ok f c=true):qp P ρ f (.inLoop c) (.inLoop c)
 |inScope {c:Code} (h:ρ.ok f c=true):qp P ρ f (.inScope c) (.inScope c)
 |inRegion {ops:Array Oper} (todo:List Nat) (h:∀(i:Nat) o,ops[i]? =some o->qP P ρ.S ρ.dim (ρ.df f) o=true):qp P ρ f (.inRegion ops todo) (.inRegion ops todo)
 |inRangeFunc {l l':Nat} (h:ρ.r l l'):qp P ρ f (.inRangeFunc l) (.inRangeFunc l')
 |endRangeFunc {l l':Nat} (h:ρ.r l l'):qp P ρ f (.endRangeFunc l) (.endRangeFunc l')
 |beginRound:qp P ρ f .beginRound .beginRound
inductive jo (P:cf) (ρ:cR) (f:cm):List Item->List Item->Prop
 |nil:jo P ρ f [] []
 |cons {x x':Item} {l l':List Item} (h:qp P ρ f x x') (t:jo P ρ f l l'):jo P ρ f (x::l) (x'::l')
inductive uk (ρ:cR):List Deferred->List Deferred->Prop
 |nil:uk ρ [] []
 |cons {x x':Deferred} {l l':List Deferred} (h:sF ρ x x') (hq:ρ.Def\/∃b,x.target=.collected b) (t:uk ρ l l'):uk ρ (x::l) (x'::l')
structure V4(ρ:cR)(a b:PanicEntry):Prop where
 v:VR ρ a.v b.v
 rcv:a.recovered=b.recovered
 ge:a.goexit=b.goexit
 ok:wM ρ a.v
inductive kD (ρ:cR):List PanicEntry->List PanicEntry->Prop
 |nil:kD ρ [] []
 |cons {x x':PanicEntry} {l l':List PanicEntry} (h:V4 ρ x x') (t:kD ρ l l'):kD ρ (x::l) (x'::l')
inductive wP (ρ:cR):FrameMode->FrameMode->Prop
 |run:wP ρ .run .run
 |returning:wP ρ .returning .returning
 |panicking {c c':List PanicEntry} (h:kD ρ c c'):wP ρ (.panicking c) (.panicking c')
structure dC(P:cf)(ρ:cR)(fr oQ:Frame):Prop where
 fn:fr.fn=oQ.fn
 fnS:ρ.S fr.fn=true/\ρ.hole fr.fn=false
 tmps:eT ρ fr.tmps oQ.tmps
 todo:jo P ρ fr.fn fr.todo oQ.todo
 defers:uk ρ fr.defers oQ.defers
 mode:wP ρ fr.mode oQ.mode
 kind:fr.kind=oQ.kind
 round:(fr.roundOf=none/\oQ.roundOf=none)\/∃l l',fr.roundOf=some l/\oQ.roundOf=some l'/\ρ.r l l'/\ρ.df fr.fn=false
inductive gN (P:cf) (ρ:cR):List Frame->List Frame->Prop
 |nil:gN P ρ [] []
 |cons {x x':Frame} {l l':List Frame} (h:dC P ρ x x') (t:gN P ρ l l'):gN P ρ (x::l) (x'::l')
def qp.mono{b:cR}(a:cR.Le R b){x e:Item}(h:qp P R K x e):qp P b K x e:=by
 cases h with
 |code h=>exact .code (a.o▸h)
 |inBlock f=>exact .inBlock f
 |inLoop h=>exact .inLoop (a.o▸h)
 |inScope h=>exact .inScope (a.o▸h)
 |inRegion c h=>exact .inRegion c (by rw[<-a.s,<-a.d,<-a.w];exact h)
 |inRangeFunc h=>exact .inRangeFunc (a.r _ _ h)
 |endRangeFunc h=>exact .endRangeFunc (a.r _ _ h)
 |beginRound=>exact .beginRound
theorem jo.mono{a:cR}(b:cR.Le R a){x c:List Item}(h:jo P R K x c):jo P a K x c:=by
 induction h with
 |nil=>exact .nil
 |cons h _ d=>exact .cons (h.mono b) d
theorem sF.mono{b:cR}(a:cR.Le R b){x d:Deferred}(h:sF R x d):sF b x d:=by
 cases h with
 |fn e f c=>exact .fn (a.s▸e) (f.mono a) (c.mono a)
 |yield h c=>exact .yield (a.r _ _ h) (c.mono a)
 |nil c=>exact .nil (c.mono a)
 |collected h=>exact .collected (a.r _ _ h)
theorem uk.mono{a:cR}(b:cR.Le R a){x c:List Deferred}(h:uk R x c):uk a x c:=by
 induction h with
 |nil=>exact .nil
 |cons h d _ e=>exact .cons (h.mono b) (d.imp (.mono b) id) e
theorem kD.mono{a:cR}(b:cR.Le R a){x c:List PanicEntry}(h:kD R x c):kD a x c:=by
 induction h with
 |nil=>exact .nil
 |cons h _ d=>exact .cons ⟨h.v.mono b,h.rcv,h.ge,h.ok.mono b⟩ d
theorem wP.mono{a:cR}(b:cR.Le R a){x c:FrameMode}(h:wP R x c):wP a x c:=by
 cases h with
 |run=>exact .run
 |returning=>exact .returning
 |panicking h=>exact .panicking (h.mono b)
theorem dC.mono{f:cR}(e:cR.Le R f){g:Frame}(h:dC P R F g):dC P f F g:=
 ⟨h.fn,⟨e.s▸h.fnS.1,e.h▸h.fnS.2⟩,h.tmps.mono e,h.todo.mono e,h.defers.mono e,h.mode.mono e,h.kind,h.round.imp id λ⟨l,i,a,b,c,d⟩=>⟨l,i,a,b,e.r _ _ c,e.w▸d⟩⟩
theorem gN.mono{a:cR}(b:cR.Le R a){x c:List Frame}(h:gN P R x c):gN P a x c:=by
 induction h with
 |nil=>exact .nil
 |cons h _ d=>exact .cons (h.mono b) d
def kD.append{a c b d:List PanicEntry}(h:kD R a c)(k:kD R b d):kD R (a++b) (c++d):=by
 induction h with
 |nil=>exact k
 |cons h _ e=>exact .cons h e
def uk.append{a c b d:List Deferred}(h:uk R a c)(k:uk R b d):uk R (a++b) (c++d):=by
 induction h with
 |nil=>exact k
 |cons h e _ f=>exact .cons h e f
theorem jo.exitTo(a:Nat){k b:List Item}(h:jo P R K k b):(exitTo a k=none/\exitTo a b=none)\/∃j c,exitTo a k=some j/\exitTo a b=some c/\jo P R K j c:=by
 induction h with
 |nil=>exact .inl ⟨rfl,rfl⟩
 |cons h t d=>
  cases h with
  |inBlock e=>
   simp only[Go.exitTo];split;exact .inr ⟨_,_,rfl,rfl,t⟩;exact d
  |_=>exact d
theorem pz{S:cm->Bool}:∀{c:Code} {l:Nat} {r:Code},gh P S D E c=true->findLabel c l=some r->gh P S D E r=true
 | .seq a b,l,r,h,e=>by simp only[gh,ez]at h;simp only[findLabel]at e;split at e;rename_i d f;cases e;simp only[gh,ez];exact⟨pz h.1 f,h.2⟩;exact pz h.2 e
 | .label g,l,r,h,e=>by simp only[findLabel]at e;split at e;cases e;rfl;cases e
 | .skip,_,_,_,e=>by simp[findLabel]at e
 | .region _ _ _,_,_,_,e=>by simp[findLabel]at e
 | .cond _ _ _,_,_,_,e=>by simp[findLabel]at e
 | .block _ _,_,_,_,e=>by simp[findLabel]at e
 | .loop _,_,_,_,e=>by simp[findLabel]at e
 | .rangeFunc _ _ _ _,_,_,_,e=>by simp[findLabel]at e
 | .exit _,_,_,_,e=>by simp[findLabel]at e
 | .scope _,_,_,_,e=>by simp[findLabel]at e
 | .goto _,_,_,_,e=>by simp[findLabel]at e
 | .ret,_,_,_,e=>by simp[findLabel]at e
 | .refuse _,_,_,_,e=>by simp[findLabel]at e
theorem jo.gotoIn(f:Good P R)(l:Nat){k a:List Item}(h:jo P R K k a):(gotoIn l k=none/\gotoIn l a=none)\/∃j d,gotoIn l k=some j/\gotoIn l a=some d/\jo P R K j d:=by
 induction h with
 |nil=>exact .inl ⟨rfl,rfl⟩
 |cons h t e=>
  cases h with
  | @inScope c b=>
   simp only[Go.gotoIn];cases g:findLabel c l with
   |none=>exact e
   |some r=>exact .inr ⟨_,_,rfl,rfl,.cons (.code (by rw[f.ok]at b⊢;exact pz b g)) (.cons (.inScope b) t)⟩
  |_=>exact e
theorem dC.eval{a:Frame}(h:dC P R F a)(x:dj)(b:jw R.S x=true):VR R (F.eval x) (a.eval x):=by
 cases x with
 |tmp t=>exact h.tmps.getD .undef t
 |const v=>exact oT b
 |global g=>simp[jw]at b
 |func f=>exact .func b rfl (λi v c h=>by simp at h) rfl (λi v c h=>by simp at h)
theorem dC.finish{l:Frame}(h:dC P R F l)(B:VR R x y):dC P R (F.finish x) (l.finish y):=by
 obtain⟨I,u,v,o,w,kind,J⟩:=F;obtain⟨C,p,q,m,r,s,D⟩:=l;obtain⟨b,c,a,z,e,f,g,j⟩:=h;simp only at b c a z e f g j;cases z with
 |nil=>exact⟨b,c,a,.nil,e,f,g,j⟩
 |cons E k=>
  cases E with
  | @inRegion t G n=>
   cases G with
   |nil=>exact⟨b,c,a,.cons (.inRegion _ n) k,e,f,g,j⟩
   |cons i A=>
    refine⟨b,c,?_,.cons (.inRegion _ n) k,e,f,g,j⟩;simp only[Frame.finish];cases(t[i]?).bind (·.dst)with
    |none=>exact a
    |some d=>exact a.set d B
  |inRangeFunc h=>exact⟨b,c,a,.cons (.endRangeFunc h) k,e,f,g,j⟩
  |beginRound=>exact⟨b,c,a,k,e,f,g,j⟩
  |code h=>exact⟨b,c,a,.cons (.code h) k,e,f,g,j⟩
  |inBlock H=>exact⟨b,c,a,.cons (.inBlock H) k,e,f,g,j⟩
  |inLoop h=>exact⟨b,c,a,.cons (.inLoop h) k,e,f,g,j⟩
  |inScope h=>exact⟨b,c,a,.cons (.inScope h) k,e,f,g,j⟩
  |endRangeFunc h=>exact⟨b,c,a,.cons (.endRangeFunc h) k,e,f,g,j⟩
theorem dC.raise{a:Frame}(h:dC P R F a){c c':List PanicEntry}(m:kD R c c'):dC P R (F.raise c) (a.raise c'):=by
 obtain⟨x,r,s,d,t,kind,y⟩:=F;obtain⟨v,n,o,b,p,q,w⟩:=a;obtain⟨e,f,g,i,j,u,k,l⟩:=h;simp only at e f g i j u k l;cases u with
 |run=>exact⟨e,f,g,i,j,.panicking m,k,l⟩
 |returning=>exact⟨e,f,g,i,j,.panicking m,k,l⟩
 |panicking h=>exact⟨e,f,g,i,j,.panicking (m.append h),k,l⟩
def dC.yC{a:Frame}(h:dC P R F a){k b:List Item}(c:jo P R F.fn k b):dC P R {F with todo:=k} {a with todo:=b}:=
 ⟨h.fn,h.fnS,h.tmps,c,h.defers,h.mode,h.kind,h.round⟩
def dC.Ea{a:Frame}(h:dC P R F a){k b:FrameMode}(c:wP R k b):dC P R {F with mode:=k} {a with mode:=b}:=
 ⟨h.fn,h.fnS,h.tmps,h.todo,h.defers,c,h.kind,h.round⟩
def dC.mW{a:Frame}(h:dC P R F a){k b:List Deferred}(c:uk R k b):dC P R {F with defers:=k} {a with defers:=b}:=
 ⟨h.fn,h.fnS,h.tmps,h.todo,c,h.mode,h.kind,h.round⟩
def Pj(a:Good P R)(b:R.S K=true)(d:R.hole K=false)(h:eT R W X)(k:CallKind):dC P R (Frame.enter P K W k) (Frame.enter (P.ir R.fs) K X k):=by
 obtain⟨n,c,f,g,i⟩:=a.code K b d;obtain⟨j,o,l,_,_,m⟩:=a.two.fn K b;have e:(P.ir R.fs).funcs[K]? =P.funcs[K]? :=by rw[m d];exact l
 refine⟨rfl,⟨b,d⟩,?_,?_,.nil,.run,rfl,.inl ⟨rfl,rfl⟩⟩;simp only[Frame.enter];rw[<-h.size,e];exact h.append (eT.replicate _ .undef);simp only[Frame.enter];rw[e];simp only[f,vI,g,kC];exact .cons (.code (by rw[a.ok];exact i)) .nil
def floor:Frame:={(default:Frame)with fn:=0,tmps:=#[],todo:=[.code (.refuse "floor")],defers:=[{target:=.nil,args:=#[]}],mode:=.run,kind:=.normal}
inductive GS (P:cf) (ρ:cR):Frame->Frame->Prop
 |fr {fr oQ:Frame} (h:dC P ρ fr oQ):GS P ρ fr oQ
 |hole {f:cm} (hS:ρ.S f=true) (hh:ρ.hole f=true) {xs xs':Array ce} (h:eT ρ xs xs'):GS P ρ (Frame.enter P f xs .normal) (Frame.enter (P.ir ρ.fs) f xs' .normal)
def rX(d:Good P R)(c:R.S K=true)(h:eT R W X)(k:CallKind)(b:k=.normal\/R.hole K=false):GS P R (Frame.enter P K W k) (Frame.enter (P.ir R.fs) K X k):=by
 cases a:R.hole K with
 |true=>
  rcases b with rfl|b;exact .hole c a h;rw[b]at a;cases a
 |false=>exact .fr (Pj d c a h k)
structure qB(P:cf)(ρ:cR)(cs:List Frame)(g g':cj):Prop where
 fr:GS P ρ g.frame g'.frame
 callers:∃X X',g.callers=X++[floor]/\g'.callers=X'++cs/\gN P ρ X X'
 st:g.status=.running/\g'.status=.running
 dy:g.dying=none/\g'.dying=none
 of:g.offers=none/\g'.offers=none
def yD(g:cj):Prop:=g.status=.running/\g.dying=none/\g.offers=none/\g.callers=[]/\(g.frame=floor\/∃c,g.frame=floor.raise c)
def dw(P:cf)(f:cR)(v u:cd)(g:List Frame)(s h:GStep):Prop:=
 match s with
 | .go d i _=>yD d\/∃a b e c,h=.go b e c/\fe f a v u i e c/\qB P a g d b
 | .ended _ _ _=>True
 |_=>False
def jQ{b:Array Event}{e:Event}(h:e∈seen P K b):e∈b:=by
 unfold seen at h;dsimp only at h;rw[<-L3]at h
 have c:∀(l:List Event) (x:Bool×Array Event),e∈(l.foldl (λ(x:Bool×Array Event) e=>match e.loc with| .mark (.extern f)=>((P.funcs[f]?).any (·.norace),x.2)|_=>(x.1,if(x.1&&!e.sync)=true then x.2 else x.2.push e)) x).2->e∈x.2\/e∈l:=by
  intro l;induction l with
  |nil=>exactλx h=>.inl h
  |cons a l d=>
   intro x h;simp only[mP]at h;rcases d _ h with h|h;split at h;exact .inl h;simp only at h;split at h;exact .inl h;rcases Array.mem_push.1 h with h|h;exact .inl h;exact .inr (by simp[h]);exact .inr (by simp[h])
 rcases c b.toList (_,#[]) h with h|h;simp at h;simpa using h
def fe.sub{a:cR}{d:cd}{f b:Array Event}(m:fe R a w t e d f)(h:∀c∈b,c∈f):fe R a w t e d b:=
 ⟨m.le,m.rel,m.vsize,m.usize,m.fresh,m.same,m.tX,m.warm,m.rows,m.tape,m.os,m.output,m.vtape,λc g=>m.evs c (h c g)⟩
end
end Go.cF
variable{Z:cj}
namespace Go.cF
section
variable{P:cf}{ρ:cR}{v u:cd}{cs:List Frame}
theorem gN.length{X a:List Frame}(h:gN P ρ X a):X.length=a.length:=by
 induction h with
 |nil=>rfl
 |cons _ _ b=>simp[b]
def dw.still(w:WR ρ v u){a:cj}(h:qB P ρ cs Z a){es:Array Event}:dw P ρ v u cs (.go Z v es) (.go a u):=
 .inr ⟨ρ,a,u,#[],rfl,fe.refl w,h⟩
theorem dw.run{q t:Type}{A:cR->q->t->Prop}{s:Sem q}{m:Sem t}(w:WR ρ v u)(h:SR P A ρ s m):(∃l d i,s.runT P v #[]=(.halt l d,i)/\l.dead=true)\/(∃a b d f c i e,s.runT P v #[]=(.ok a d,i)/\m.runT (P.ir ρ.fs) u #[]=(.ok b f,e)/\A c a b/\fe ρ c v u d f e)\/(∃a b d f c i e,s.runT P v #[]=(.halt (.panic a) d,i)/\m.runT (P.ir ρ.fs) u #[]=(.halt (.panic b) f,e)/\(VR c a b/\wM c a)/\fe ρ c v u d f e):=by
 have j:=h.run w #[] #[];unfold lX at j;generalize s.runT P v #[]=r at j⊢;obtain⟨r,k⟩:=r;cases r with
 |ok a d=>
  obtain⟨b,f,c,g,n,o,p⟩:=j;exact .inr (.inl ⟨a,b,d,f,c,k,g,rfl,by simpa using n,o,p⟩)
 |halt l d=>
  cases l with
  |panic x=>
   obtain⟨b,f,c,g,n,o,p⟩:=j;exact .inr (.inr ⟨x,b,d,f,c,k,g,rfl,by simpa using n,o,p⟩)
  |_=>exact .inl ⟨_,_,_,rfl,j⟩
theorem dw.after{b:cR}{j k:cd}{s l:GStep}{f a c:Array Event}(w:WR ρ v u)(m:fe ρ b v u j k c)(d:∀e∈a,e∈c)(n:dw P b j k cs s l):dw P ρ v u cs (GStep.after f s) (GStep.after a l):=by
 cases s with
 |go y z p=>
  rcases n with q|⟨g,h,r,i,rfl,t,x⟩;exact .inl q;exact .inr ⟨g,h,r,a++i,rfl,(m.sub d).trans w t,x⟩
 |ended o A p=>trivial
 |_=>exact n.elim
def jo.kind{k a:List Item}(h:jo P ρ K k a):(match k with| .call _ true _ _::_=>CallKind.wrapped|_=>.normal)=.normal/\(match a with| .call _ true _ _::_=>CallKind.wrapped|_=>.normal)=.normal:=by
 cases h with
 |nil=>exact⟨rfl,rfl⟩
 |cons h _=>cases h<;>exact⟨rfl,rfl⟩
def qB.mk'{b a:Frame}{X X':List Frame}(h:dC P ρ b a)(c:gN P ρ X X'):qB P ρ cs {frame:=b,callers:=X++[floor],status:=.running,dying:=none} {frame:=a,callers:=X'++cs,status:=.running,dying:=none}:=
 ⟨.fr h,⟨X,X',rfl,rfl,c⟩,⟨rfl,rfl⟩,⟨rfl,rfl⟩,⟨rfl,rfl⟩⟩
def qB.top{b a:Frame}{X X':List Frame}(h:GS P ρ b a)(c:gN P ρ X X'):qB P ρ cs {frame:=b,callers:=X++[floor],status:=.running,dying:=none} {frame:=a,callers:=X'++cs,status:=.running,dying:=none}:=
 ⟨h,⟨X,X',rfl,rfl,c⟩,⟨rfl,rfl⟩,⟨rfl,rfl⟩,⟨rfl,rfl⟩⟩
def IG{a b:Code}(d:ρ.r m k)(e:ρ.S K=true)(f:ρ.hole K=false)(g:ρ.df K=false)(i:ρ.ok K a=true)(j:ρ.ok K b=true)(h:eT ρ W X)(c:CallKind):dC P ρ (Frame.round m K W a b c) (Frame.round k K X a b c):=
 ⟨rfl,⟨e,f⟩,h,.cons (.code i) (.cons .beginRound (.cons (.code j) .nil)),.nil,.run,rfl,.inr ⟨m,k,rfl,rfl,d,g⟩⟩
def CH(G:Good P ρ)(w:WR ρ v u){q d:Frame}{X X':List Frame}(h:dC P ρ q d)(D:gN P ρ X X'){s E:Sem Next}(H:SN P ρ s E):dw P ρ v u cs (stepG.apply P true q (X++[floor]) none s v) (stepG.apply (P.ir ρ.fs) true d (X'++cs) none E u):=by
 have i:∀(r:Array Event),∀e∈seen (P.ir ρ.fs) d.fn (if(d.kind==CallKind.early)=true then #[]else r),e∈r:=by intro r e I;have:=jQ I;split at this;simp at this;exact this
 unfold stepG.apply;rcases dw.run w H with⟨x,F,es,e,o⟩|⟨a,b,F,J,y,es,g,e,z,l,m⟩|⟨a,b,F,J,y,es,g,e,z,l,m⟩;simp only[cX,e];cases x with
 |stuck s=>trivial
 |unsupported K=>cases K<;>first|trivial|cases o
 |_=>cases o
 simp only[cX,e,z];have A:=G.mono m.le;have p:=h.mono m.le;have j:=D.mono m.le;cases l with
 |value L=>exact dw.after w m (i g) (dw.still m.rel (qB.mk' (p.finish L) j))
 |skip=>exact dw.after w m (i g) (dw.still m.rel (qB.mk' (p.finish .undef) j))
 |enter M B=>
  refine dw.after w m (i g) ?_;have t:=dw.still (es:=#[]) m.rel (qB.top (cs:=cs) (X:=q::X) (X':=d::X') (m.le.f▸rX A M B .normal (.inl rfl)) (.cons p j));have n:=h.todo;generalize q.todo=k at n⊢;generalize d.todo=T at n⊢;cases n with
  |nil=>exact t
  |cons N _=>cases N<;>exact t
 |round O Q x o R S B=>
  exact dw.after w m (i g) (dw.still m.rel (qB.mk' (X:=q::X) (X':=d::X') (IG O Q x o R S B .normal) (.cons p j)))
 |defer o C=>
  exact dw.after w m (i g) (dw.still m.rel (qB.mk' ((p.mW (.cons o (.inl C) p.defers)).finish .undef) j))
 simp only[cX,e,z];exact dw.after w m (i g) (dw.still m.rel (qB.mk' ((h.mono m.le).raise (c:=[{v:=a,recovered:=false}]) (c':=[{v:=b,recovered:=false}]) (.cons ⟨l.1,rfl,rfl,l.2⟩ .nil)) (D.mono m.le)))
def yE(w:WR ρ v u){q j:Frame}{X r:List Frame}(h:dC P ρ q j)(g:gN P ρ X r)(C:VR ρ x y)(k i:Bool):dw P ρ v u cs (doReturn P k q (X++[floor]) none x v) (doReturn (P.ir ρ.fs) i j (r++cs) none y u):=by
 have F:=h.kind;cases g with
 |nil=>
  simp only[sM,doReturn];cases s:q.kind;all_goals simp only[]
  all_goals exact .inl ⟨rfl,rfl,rfl,rfl,.inl rfl⟩
 | @cons c n X r e g=>
  simp only[qn,doReturn];rw[<-F];have f:dC P ρ (match c.mode with
     | .panicking ({recovered:=true,..}::d)=>
      match d.dropWhile (!·.goexit)with
      |[]=>{c with mode:=.returning}
      |rest=>{c with mode:=.panicking rest}
     |_=>c)
   (match n.mode with
     | .panicking ({recovered:=true,..}::d)=>
      match d.dropWhile (!·.goexit)with
      |[]=>{n with mode:=.returning}
      |rest=>{n with mode:=.panicking rest}
     |_=>n):=by
   have z:=e.mode
   have A:∀{l o:List PanicEntry},kD ρ l o->kD ρ (l.dropWhile (!·.goexit)) (o.dropWhile (!·.goexit)):=by
    intro l o h;induction h with
    |nil=>exact .nil
    |cons h t G=>
     simp only[List.dropWhile_cons,<-h.ge];split;exact G;exact .cons h t
   revert z;generalize H:c.mode=R;generalize D:n.mode=I;intro z;cases z with
   |run=>exact e
   |returning=>exact e
   |panicking B=>
    cases B with
    |nil=>exact e
    | @cons p J l o K L=>
     obtain⟨S,M,T⟩:=p;obtain⟨N,O,Q⟩:=J;obtain⟨_,E,_⟩:=K;simp only at E;subst E;cases M with
     |false=>exact e
     |true=>
      dsimp only;have:=A L;revert this;generalize l.dropWhile (!·.goexit)=m;generalize o.dropWhile (!·.goexit)=U;intro this;cases this with
      |nil=>exact e.Ea .returning
      |cons a b=>exact e.Ea (.panicking (.cons a b))
  cases s:q.kind
  all_goals simp only[]
  exact dw.still w (qB.mk' (e.finish C) g);exact dw.still w (qB.mk' f g);exact dw.still w (qB.mk' (e.finish C) g);exact dw.still w (qB.mk' f g);exact dw.still w (qB.mk' e g)
def dw.ite{c:Prop} [Decidable c]{a b d:GStep}(e:c->dw P ρ v u cs a d)(f:¬c->dw P ρ v u cs b d):dw P ρ v u cs (if c then a else b) d:=by split;exact e ‹_›;exact f ‹_›
def mX(x:Good P ρ)(w:WR ρ v u){o i:Frame}{X X':List Frame}(h:dC P ρ o i)(D:gN P ρ X X'){d E:Deferred}(n:sF ρ d E)(p:ρ.Def):dw P ρ v u cs (callDeferred P o (X++[floor]) none d v) (callDeferred (P.ir ρ.fs) i (X'++cs) none E u):=by
 have j:∀(r:Array Event),∀e∈seen (P.ir ρ.fs) i.fn r,e∈r:=λr e H=>jQ H;unfold callDeferred;refine dw.ite (λ_=>trivial) λI=>?_;rw[cr (by intro J;apply I;revert J;have y:=h.mode;revert y;generalize o.mode=m;generalize i.mode=S;intro y;cases n<;>cases y<;>simp)];rcases dw.run w (SR.invoke x.fit x.two n)with⟨z,F,G,e,n⟩|⟨a,b,F,K,A,G,g,e,B,l,m⟩|⟨a,b,F,K,A,G,g,e,B,l,m⟩;simp only[e];cases z with
 |stuck s=>trivial
 |unsupported L=>cases L<;>first|trivial|cases n
 |_=>cases n
 simp only[e,B];have q:=x.mono m.le;have t:=h.mono m.le;have k:=D.mono m.le;cases l with
 |value T=>exact dw.after w m (j g) (dw.still m.rel (qB.mk' t k))
 |skip=>exact dw.after w m (j g) (dw.still m.rel (qB.mk' t k))
 |enter M C=>exact dw.after w m (j g) (dw.still m.rel (qB.top (X:=o::X) (X':=i::X') (m.le.f▸rX q M C .deferred (.inr (q.dh (p.mono m.le) _))) (.cons t k)))
 |round N O z n Q R C=>exact dw.after w m (j g) (dw.still m.rel (qB.mk' (X:=o::X) (X':=i::X') (IG N O z n Q R C .deferred) (.cons t k)))
 |defer n _=>exact dw.after w m (j g) (dw.still m.rel (qB.mk' t k))
 simp only[e,B];exact dw.after w m (j g) (dw.still m.rel (qB.mk' ((h.mono m.le).raise (c:=[{v:=a,recovered:=false}]) (c':=[{v:=b,recovered:=false}]) (.cons ⟨l.1,rfl,rfl,l.2⟩ .nil)) (D.mono m.le)))
theorem SR.results{fn:Func}(h:eT ρ W X):SV P ρ (results fn W) (results fn X):=by
 unfold Go.results
 have r:∀(l:List ResultVar) {g:cR},cR.Le ρ g->SR P (λρ a b=>qo ρ a b) g
  (l.mapM λx=>match x with| .tmp t=>Pure.pure (W.getD t undef)| .cell a t=>do Go.loadVar t (<-Go.asAddr (W.getD a undef)))
  (l.mapM λx=>match x with| .tmp t=>Pure.pure (X.getD t undef)| .cell a t=>do Go.loadVar t (<-Go.asAddr (X.getD a undef))):=by
  intro l;induction l with
  |nil=>intro g j;rw[List.mapM_nil,List.mapM_nil];exact .dT .nil
  |cons x l s=>
   intro g j;rw[List.mapM_cons,List.mapM_cons]
   have u:SV P g (match x with| .tmp t=>Pure.pure (W.getD t undef)| .cell a t=>do Go.loadVar t (<-Go.asAddr (W.getD a undef))) (match x with| .tmp t=>Pure.pure (X.getD t undef)| .cell a t=>do Go.loadVar t (<-Go.asAddr (X.getD a undef))):=by
    cases x with
    |tmp t=>exact .dT ((h.mono j).getD .undef t)
    |cell a t=>exact(SR.asAddr ((h.mono j).getD .undef a)).du λ_ _ _ _ v=>SR.loadVar t v
   refine SR.du u λi a b k e=>?_;refine SR.du (s (j.trans k)) λp c d m q=>?_;exact .dT (.cons (e.mono m) q)
 rw[Iz,Iz];refine SR.du (A:=λρ a b=>eT ρ a b) (SR.du (f:=λl=>Pure.pure l.toArray) (f':=λl=>Pure.pure l.toArray) (r fn.results.toList (.refl _)) λi a b _ e=>.dT e.array) λi a b _ e=>?_;refine .dT ?_;by_cases o:a.size=1;have n:b.size=1:=e.size▸o;rw[dif_pos o,dif_pos n];exact e.at_ 0 _ _ (ji (by omega)) (ji (by omega));have n:¬b.size=1:=e.size▸o;rw[dif_neg o,dif_neg n];exact e.Xv
def Mh(s:Good P ρ)(w:WR ρ v u){fr g:Frame}{X M:List Frame}(h:dC P ρ fr g)(o:gN P ρ X M)(p i:Bool):dw P ρ v u cs (unwind P p fr (X++[floor]) none v) (unwind (P.ir ρ.fs) i g (M++cs) none u):=by
 have E:∀(r:Array Event),∀e∈seen (P.ir ρ.fs) g.fn r,e∈r:=λr e F=>jQ F;unfold unwind;have t:=h.defers;revert t;generalize fr.defers=R;generalize g.defers=G;intro t;cases t with
 |nil=>
  dsimp only;have H:=h.mode;have z:=h.fn;revert H;generalize S:fr.mode=m;generalize N:g.mode=Z;intro H;cases H with
  |run=>trivial
  |panicking T=>
   dsimp only;have q:∀{fr:Frame} {Q:cf},(∃fn,Q.funcs[fr.fn]? =some fn)->fr.catches Q=false:=by rintro fr Q ⟨fn,j⟩;unfold Frame.catches;rw[j]
   obtain⟨fn,c,j,_,_⟩:=s.fit.fn _ h.fnS.1;obtain⟨x,U,I,_,_,_⟩:=s.two.fn _ h.fnS.1;rw[q ⟨fn,j⟩,q (fr:=g) (Q:=P.ir ρ.fs) ⟨x,z▸I⟩];simp only[iq,eo];cases o with
   |nil=>exact .inl ⟨rfl,rfl,rfl,rfl,.inr ⟨_,rfl⟩⟩
   |cons J o=>exact dw.still w (qB.mk' (J.raise T) o)
  |returning=>
   dsimp only;obtain⟨fn,c,j,_,_⟩:=s.fit.fn _ h.fnS.1;obtain⟨x,U,I,_,_,V⟩:=s.two.fn _ h.fnS.1;obtain rfl:fn=x:=by rw[V h.fnS.2]at j;exact(cE j).symm
   rw[<-z,j,show(P.ir ρ.fs).funcs[fr.fn]? =some fn from I];dsimp only;rcases dw.run w (SR.results (fn:=fn) h.tmps)with⟨O,A,B,e,t⟩|⟨a,b,A,K,y,B,l,e,C,k,m⟩|⟨a,b,A,K,y,B,l,e,C,k,m⟩;rw[e];cases O<;>trivial;rw[e,C];rw[m.le.f];exact dw.after w m (λe F=>jQ F) (yE m.rel (h.mono m.le) (o.mono m.le) k p i);rw[e];trivial
 | @cons d d' R G t L n=>
  cases t with
  |collected W=>
   dsimp only;rcases dw.run w (SR.takeDeferred W)with⟨O,A,B,e,t⟩|⟨a,b,A,K,y,B,l,e,C,k,m⟩|⟨a,b,A,K,y,B,l,e,C,k,m⟩;rw[e];trivial;rw[e,C];obtain⟨rfl,rfl⟩:=k;exact dw.after w m (E l) (dw.still m.rel (qB.mk' ((h.mono m.le).mW (n.mono m.le)) (o.mono m.le)));rw[e];trivial
  |fn Y j D=>exact mX s w (h.mW n) o (.fn Y j D) (L.resolve_right λ⟨_,h⟩=>by cases h)
  |yield j D=>exact mX s w (h.mW n) o (.yield j D) (L.resolve_right λ⟨_,h⟩=>by cases h)
  |nil D=>exact mX s w (h.mW n) o (.nil D) (L.resolve_right λ⟨_,h⟩=>by cases h)
def JP{a:Array Oper}(h:eT ρ W X)(j:Nat):yielded a W j=yielded a X j:=by
 unfold yielded;cases(a[j]?).bind (·.dst)with
 |none=>rfl
 |some d=>
  simp only[vI];rcases h.get? d with⟨b,c⟩|⟨v,f,b,c,e⟩;rw[b,c];rw[b,c];cases e<;>rfl
def Pk(D:Good P ρ)(w:WR ρ v u){k d:Frame}{X r:List Frame}(h:dC P ρ k d)(B:gN P ρ X r)(i g:Bool)(j:Option Code){lost lost':GStep}(E:∃o n p,lost=.ended o n p):(∀c,j=some c->∀f,ρ.ok f c=true)->dw P ρ v u cs (match k.roundOf with
    |none=>if(match j with|none|some .ret=>true|_=>false)=true then .go {frame:={k with mode:=.returning},callers:=X++[floor],status:=.running,dying:=none} v else lost
    |some l=>GStep.after (seen P k.fn ((Instr.endRound l j).runT P v #[]).2)<|match((Instr.endRound l j).runT P v #[]).1 with
     | .ok x w=>doReturn P i k (X++[floor]) none x w
     | .halt _ w=>.ended (.stuck "range over a function: no such loop" (k.pos P)) w)
  (match d.roundOf with
    |none=>if(match j with|none|some .ret=>true|_=>false)=true then .go {frame:={d with mode:=.returning},callers:=r++cs,status:=.running,dying:=none} u else lost'
    |some l=>GStep.after (seen (P.ir ρ.fs) d.fn ((Instr.endRound l j).runT (P.ir ρ.fs) u #[]).2)<|match((Instr.endRound l j).runT (P.ir ρ.fs) u #[]).1 with
     | .ok x w=>doReturn (P.ir ρ.fs) g d (r++cs) none x w
     | .halt _ w=>.ended (.stuck "range over a function: no such loop" (d.pos (P.ir ρ.fs))) w):=by
 have _:=D;intro F;rcases h.round with⟨s,t⟩|⟨l,K,s,t,G,_⟩;rw[s,t];dsimp only;have y:dC P ρ {k with mode:=.returning,roundOf:=none} {d with mode:=.returning,roundOf:=none}:=⟨h.fn,h.fnS,h.tmps,h.todo,h.defers,.returning,h.kind,.inl ⟨rfl,rfl⟩⟩;refine dw.ite (λH=>?_) λ_=>?_;rw[cx H];exact dw.still w (qB.mk' y B);obtain⟨o,n,p,rfl⟩:=E;trivial;rw[s,t];dsimp only;rcases dw.run w (SR.endRound G j F)with⟨L,n,p,e,M⟩|⟨a,b,n,I,z,p,A,e,C,q,m⟩|⟨a,b,n,I,z,p,A,e,C,q,m⟩;rw[e];trivial;rw[e,C,m.le.f];exact dw.after w m (λe J=>jQ J) (yE m.rel (h.mono m.le) (B.mono m.le) q i g);rw[e];trivial
end
section
variable{P:cf}{ρ:cR}{v u:cd}{cs:List Frame}
def fq(a:Good P ρ){c:Code}(h:gh P ρ.S ρ.dim (ρ.df K) c=true):ρ.ok K c=true:=by rw[a.ok];exact h
def rY(a:Good P ρ){c:Code}(h:(match c with| .ret| .exit _| .goto _=>true|_=>false)=true)(f:cm):ρ.ok f c=true:=by rw[a.ok];cases c<;>first|rfl|cases h
def Sv(q:Good P ρ)(w:WR ρ v u){z p:Frame}{X X':List Frame}(h:dC P ρ z p)(N:gN P ρ X X')(F L:Bool):dw P ρ v u cs (stepG.exec P F true z (X++[floor]) none v) (stepG.exec (P.ir ρ.fs) L true p (X'++cs) none u):=by
 have aa:=h.fn;have I:∀{k k':List Item},jo P ρ z.fn k k'->dw P ρ v u cs (.go {frame:={z with todo:=k},callers:=X++[floor],status:=.running,dying:=none} v) (.go {frame:={p with todo:=k'},callers:=X'++cs,status:=.running,dying:=none} u):=
  λC=>dw.still w (qB.mk' (h.yC C) N)
 have lv:=λ(j:Option Code)=>Pk (cs:=cs) (lost:=.ended (.stuck "exit, goto: no such block or label" (z.pos P)) v) (lost':=.ended (.stuck "exit, goto: no such block or label" (p.pos (P.ir ρ.fs))) u) q w h N F L j ⟨_,_,_,rfl⟩;have ah:=q.ok;have G:=h.todo;unfold stepG.exec;revert G lv;generalize ai:z.todo=k0;generalize ab:p.todo=ao;intro lv G;cases G with
 |nil=>exact lv none (λc e=>by cases e)
 | @cons x x' k k' hx C=>
  cases hx with
  | @code c M=>
   have g:=M;rw[ah]at g;dsimp only at g;cases c with
   |ret=>exact lv (some .ret) (λc e=>by cases e;exact rY q rfl)
   |skip=>exact I C
   |label l=>exact I C
   |seq a b=>
    simp only[gh,ez]at g;exact I (.cons (.code (fq q g.1)) (.cons (.code (fq q g.2)) C))
   |cond c a b=>
    simp only[gh,ez]at g;dsimp only;have R:=h.eval c g.1.1;revert R;generalize z.eval c=x;generalize p.eval c=x';intro R;cases R with
    |bool t=>
     refine I (.cons (.code ?_) C);split;exact fq q g.1.2;exact fq q g.2
    |_=>trivial
   |block K b=>
    exact I (.cons (.code (fq q g)) (.cons (.inBlock K) C))
   |loop b=>
    exact I (.cons (.code (fq q g)) (.cons (.inLoop (fq q g)) C))
   |scope b=>
    exact I (.cons (.code (fq q g)) (.cons (.inScope (fq q g)) C))
   |exit K=>
    dsimp only;rcases C.exitTo K with⟨D,E⟩|⟨j,j',D,E,hj⟩;rw[D,E];exact lv (some (.exit K)) (λc e=>by cases e;exact rY q rfl);rw[D,E];exact I hj
   |goto l=>
    dsimp only;rcases C.gotoIn q l with⟨D,E⟩|⟨j,j',D,E,hj⟩;rw[D,E];exact lv (some (.goto l)) (λc e=>by cases e;exact rY q rfl);rw[D,E];exact I hj
   |refuse ap=>trivial
   |rangeFunc f ps a b=>
    simp only[gh,ez]at g;simp only[yu]at g;dsimp only;rw[show(Instr.enterLoop p.fn p.tmps ps a b p.roundOf)=(Instr.enterLoop z.fn p.tmps ps a b p.roundOf)from by rw[aa]];rcases dw.run w (SR.enterLoop h.fnS.1 h.fnS.2 h.tmps ps a b (fq q g.1.2) (fq q g.2) g.1.1.1 (h.round.imp (λh=>h) λ⟨l,l',a,b,c,_⟩=>⟨l,l',a,b,c⟩))with⟨hh,T,es,e,hd⟩|⟨x,y,T,u1,A,es,U,e,e',H,m⟩|⟨x,y,T,u1,A,es,U,e,e',H,m⟩;rw[e];trivial;rw[e,e'];obtain⟨l,mk⟩:=x;obtain⟨l',ac⟩:=y;obtain⟨hl,ad⟩:=H;simp only at hl ad;have V:=q.mono m.le;have O:=h.mono m.le;have ae:uk A mk ac:=by rcases ad with⟨rfl,rfl⟩|⟨d,d',rfl,rfl,hd,hb⟩;exact .nil;exact .cons hd (.inr hb) .nil
    have af:dC P A {z with todo:=.inRangeFunc l::k,defers:=mk++z.defers} {p with todo:=.inRangeFunc l'::k',defers:=ac++p.defers}:=
     ⟨O.fn,O.fnS,O.tmps,.cons (.inRangeFunc hl) (C.mono m.le),ae.append O.defers,O.mode,O.kind,O.round⟩
    refine dw.after w m (λe W=>jQ W) ?_;dsimp only;rw[m.le.f];refine CH V m.rel af (N.mono m.le) ?_;unfold resolve;dsimp only;refine SR.du (SR.ofValue (af.eval f (m.le.s▸g.1.1.2)) (xs:=_) (xs':=_) ?_) λaj d d' ag hd=>SR.invoke ((V.mono ag).fit) ((V.mono ag).two) hd;simp only[List.map_toArray,jP,qK,Frame.eval];exact eT.one (.yield hl);rw[e];trivial
   |region K B draw=>
    simp only[gh,DU]at g;have J:∀(i:Nat) o,B[i]? =some o->qP P ρ.S ρ.dim (ρ.df z.fn) o=true:=λi o e=>g o (l7 e);dsimp only;cases draw with
    |false=>exact I (.cons (.inRegion _ J) C)
    |true=>
     simp only[Bool.not_true,iq,eo];rw[show Go.choose (.order p.fn K)=Go.choose (.order z.fn K)from by rw[aa]];have ak:SR P (λ_ (a b:Nat)=>a=b) ρ (Go.choose (.order z.fn K)) (Go.choose (.order z.fn K)):=.choose λn=>.pure rfl;have Q:=ak.run w #[] #[];unfold lX at Q;rw[mU,mU]at Q;simp only at Q;revert Q;generalize (Go.choose (.order z.fn K)).run P v=r;intro Q;cases r with
     |ok t T=>
      obtain⟨b,u1,A,aq,D,rfl,m⟩:=Q;have E:(Go.choose (.order z.fn K)).run (P.ir ρ.fs) u=.ok t u1:=cM Prod.fst D;rw[E];have O:=h.mono m.le;refine .inr ⟨A,_,u1,#[],rfl,m.sub (λe W=>by simp at W),?_⟩;refine qB.mk' (O.yC ?_) (N.mono m.le);have Y:∀(i:Nat) o,B[i]? =some o->qP P A.S A.dim (A.df z.fn) o=true:=by rw[<-m.le.s,<-m.le.d,<-m.le.w];exact J
      exact .cons (.inRegion _ Y) (C.mono m.le)
     |halt hh T=>trivial
  |inBlock K=>exact I C
  |inScope M=>exact I C
  |inLoop M=>exact I (.cons (.code M) (.cons (.inLoop M) C))
  |inRangeFunc hl=>trivial
  |beginRound=>
   dsimp only;refine CH q w h N ?_;rcases h.round with⟨D,E⟩|⟨l,l',D,E,Q,_⟩;rw[D,E];exact .dead rfl;rw[D,E];exact SR.du (SR.beginRound Q) λ_ _ _ _ _=>.dT .skip
  |endRangeFunc hl=>
   dsimp only;rcases dw.run w (SR.endLoop hl)with⟨hh,T,es,e,hd⟩|⟨x,y,T,u1,A,es,U,e,e',H,m⟩|⟨x,y,T,u1,A,es,U,e,e',H,m⟩
   ·rw[e];cases hh<;>first|trivial|(cases hd;done)
   rw[e,e'];obtain⟨rfl,hj⟩:=H;refine dw.after w m (λe W=>jQ W) (dw.still m.rel (qB.mk' ((h.mono m.le).yC ?_) (N.mono m.le)));cases x with
   |none=>exact C.mono m.le
   |some c=>exact .cons (.code (hj c rfl _)) (C.mono m.le)
   rw[e,e'];exact dw.after w m (λe W=>jQ W) (dw.still m.rel (qB.mk' ((h.mono m.le).raise (c:=[{v:=x,recovered:=false}]) (c':=[{v:=y,recovered:=false}]) (.cons ⟨H.1,rfl,rfl,H.2⟩ .nil)) (N.mono m.le)))
  | @inRegion B td J=>
   cases td with
   |nil=>exact I C
   |cons i an=>
    dsimp only;have hy:((B[i]?).map (Region.wanted · (yielded B z.tmps))).getD false=((B[i]?).map (Region.wanted · (yielded B p.tmps))).getD false:=by have:yielded B z.tmps=yielded B p.tmps:=funext (JP h.tmps);rw[this]
    rw[<-hy];refine dw.ite (λM=>?_) λM=>?_;rw[cx M];cases ho:B[i]? with
    |none=>rw[ho]at M;cases M
    |some o=>
     unfold stepG.oper;have D:z.oper?=some o:=by simp only[Frame.oper?,ai];exact ho
     have E:p.oper?=some o:=by simp only[Frame.oper?,ab];exact ho
     rw[D,E];dsimp only;have Z:=J i o ho;have hs:SN P ρ (execOp z.eval o) (execOp p.eval o):=SR.exec q.fit q.two (λx hx=>h.eval x hx) (λe=>⟨_,e⟩) (λ_=>⟨rfl,rfl⟩) o Z;have F:=CH (cs:=cs) q w h N hs;rcases h.round with⟨D,E⟩|⟨l,l',D,E,Q,al⟩;rw[D,E];exact F;rw[D,E];cases am:o.op<;>first|exact F|skip
     rename_i c;simp only[qP,ez,am,GK]at Z;exfalso;have:=Z.2;rw[al]at this;revert this;split<;>(intro h;cases h)
    rw[cr M];exact dw.still w (qB.mk' (h.finish .undef) N)
end
section
variable{P:cf}{ρ:cR}{v u:cd}{cs:List Frame}
def GU(p:Good P ρ)(w:WR ρ v u){g:cj}(h:qB P ρ cs Z g)(i:dC P ρ Z.frame g.frame)(d c:Bool):dw P ρ v u cs (stepG P d Z v) (stepG (P.ir ρ.fs) c g u):=by
 obtain⟨l,G,H,I,j⟩:=Z;obtain⟨e,D,E,F,f⟩:=g;obtain⟨_,⟨X,q,r,s,t⟩,⟨x,y⟩,⟨z,A⟩,B,C⟩:=h;simp only at r s x y z A B C i;subst r s x y z A B C;have n:=Sv (cs:=cs) p w i t d c;have k:=Mh (cs:=cs) p w i t d c;have o:=i.mode;unfold stepG;dsimp only;revert n k;generalize stepG.exec P d true l (X++[floor]) none v=a;generalize stepG.exec (P.ir ρ.fs) c true e (q++cs) none u=J;generalize unwind P d l (X++[floor]) none v=b;generalize unwind (P.ir ρ.fs) c e (q++cs) none u=K;intro n k;revert o;generalize l.mode=m;generalize e.mode=L;intro o;cases o with
 |run=>exact n
 |returning=>exact k
 |panicking _=>exact k
theorem yD.ended{P:cf}(h:yD Z)(a:Bool)(w:cd):∃o j k,stepG P a Z w=.ended o j k:=by obtain⟨l,m,n,p,b⟩:=Z;obtain⟨d,e,f,g,i⟩:=h;simp only at f d e g i;subst f d e g;rcases i with rfl|⟨c,rfl⟩;exact⟨_,_,_,rfl⟩;exact⟨_,_,_,rfl⟩
end
abbrev Ta:=Nat->Question->Nat
def cI(v:cd)(T:Ta):cd:={v with tape:=T}
def Mj{a:Type}:Result a->cd
 | .ok _ w=>w
 | .halt _ w=>w
def SB{b:Type}(T:Ta):Result b->Result b
 | .ok a w=>.ok a (cI w T)
 | .halt h w=>.halt h (cI w T)
def Ug{a:Type}:Result a->Prop
 | .ok _ _=>False
 | .halt h _=>h.dead=true
def Mk(v a:cd)(T:Ta):Prop:=∀j,v.drawn<=j->j<a.drawn->T j=v.tape j
structure lK(v v1:cd)(C:Ta->Prop):Prop where
 le:v.drawn<=v1.drawn
 tape:v1.tape=v.tape
 run:∀T,Mk v v1 T->C T
theorem lK.trans{v v1 c:cd}{C d:Ta->Prop}(h:v.drawn<=v1.drawn)(e:v1.tape=v.tape)(k:lK v1 c d)(g:∀T,Mk v v1 T->d T->C T):lK v c C:=
 ⟨cJ h k.le,k.tape.trans e,λT f=>g T (λj a b=>f j a (dl b k.le)) (k.run T λj a b=>by rw[e];exact f j (cJ h a) b)⟩
def SR.JR{Y Z:Type}{A:cR->Y->Z->Prop}{s:Sem Y}{s':Sem Z}(h:SR P A R s s'):
 ∀{v u:cd},WR R v u->∀d,Ug (s.runT P v d).1\/lK v (Mj (s.runT P v d).1) λT=>s.runT P (cI v T) d=(SB T (s.runT P v d).1,(s.runT P v d).2):=by
 induction h with
 | @pure R a b h=>exactλ{v u} f d=>.inr ⟨cz _,rfl,λT _=>rfl⟩
 | @load R a a' k F J _ j=>
  intro v u f d;cases G:v.cell? a with
  |none=>
   cases J with
   | @mk b c o s z=>
    obtain⟨hh,e,l⟩:=uj (P:=P) (a:=⟨b,o,s⟩) (at_:=(Mode.plain==Mode.atomic)) (f.noView z) (f.noPending z);refine .inl ?_;simp only[Sem.runT,G,e];exact l
  |some x=>
   obtain⟨O,aa,S⟩:=f.cell J G;rcases j x O S f (d.push ⟨.cell a,false,false⟩)with l|i;refine .inl ?_;simp only[Sem.runT,G];exact l;refine .inr ?_;have B:∀T,(cI v T).cell? a=some x:=λT=>G;simp only[Sem.runT,G,B];exact i
 | @store R a a' x O k F J S _ j=>
  intro v u f d;by_cases C:(∃g,x=.agg g)\/∃g,x=.tuple g;rcases C with⟨g,rfl⟩|⟨g,rfl⟩<;>exact .inl rfl;have B:∀(a:Addr) (v:cd) (d:Array Event),(Sem.store .plain a x k).runT P v d=(match v.cell? a with
   |some _=>if v.frozen? a then(.halt (.unsupported (.unsafePointer "a write to bytes that a string shares")) v,d)else k.runT P (v.setCell a x) (d.push ⟨.cell a,true,false⟩)
   |none=>match v.farStore P a x false with
    | .ok (w,D)=>k.runT P w (d++D.toArray.map (⟨.cell ·,true,false⟩))
    | .error h=>(.halt h v,d)):=by
   intro a v d;cases x<;>first|rfl|exact absurd (.inl ⟨_,rfl⟩) C|exact absurd (.inr ⟨_,rfl⟩) C
  cases K:v.cell? a with
  |none=>
   cases J with
   | @mk b c o s z=>
    obtain⟨hh,e,l⟩:=sQ (P:=P) (a:=⟨b,o,s⟩) (x:=x) (at_:=false) (f.noView z) (f.noPending z);refine .inl ?_;rw[B];simp only[K,e];exact l
  |some y=>
   by_cases hz:v.frozen? a=true;refine .inl ?_;rw[B];simp only[K,hz,cX];exact rfl;have H:v.frozen? a=false:=by simpa using hz
   obtain⟨hu,L⟩:=fe.store f J S K H;have M:∀T,(cI v T).cell? a=some y:=λT=>K;have e3:∀T,(cI v T).frozen? a=false:=λT=>H;have e4:∀T,(cI v T).setCell a x=cI (v.setCell a x) T:=λT=>rfl;simp only[B,K,H,M,e3,e4,iq,eo];rcases j L.rel (d.push ⟨.cell a,true,false⟩)with l|i;exact .inl l;exact .inr ⟨i.le,i.tape,i.run⟩
 | @new R o U k F ho _ j=>
  intro v u f d;have L:=fe.new f ho;rcases j v.heap.size u.heap.size f.Sq f.Ss (f.low _ (cz _)) L.rel d with l|i;exact .inl l;exact .inr ⟨i.le,i.tape,i.run⟩
 | @getObj R r Q k F z _ j=>
  intro v u f d;obtain⟨o,U,E,h2,h3⟩:=f.obj r Q z;by_cases i:∃g t n,o=.cells g t n;obtain⟨g,t,n,rfl⟩:=i;refine .inl ?_;simp only[Sem.runT,E];exact rfl;have p:∀g t n,o≠ .cells g t n:=λg t n e=>i ⟨g,t,n,e⟩;have B:∀{N:Type} (k:Obj->Sem N) (w:cd) (r:Nat) (o:Obj) (d:Array Event),w.heap[r]? =some o->(∀g t n,o≠ .cells g t n)->(Sem.getObj r k).runT P w d=(k o).runT P w (d.push ⟨.obj r,false,o.isChan⟩):=by intro N k w r o d h I;cases o<;>first|exact absurd rfl (I _ _ _)|simp only[Sem.runT,h]
  have M:∀T,(Sem.getObj r k).runT P (cI v T) d=(k o).runT P (cI v T) (d.push ⟨.obj r,false,o.isChan⟩):=λT=>B k _ r o d E p;simp only[B k v r o d E p,M];exact j o U (h3.plain p) p f _
 | @setObj R r Q x O k F z G V _ j=>
  intro v u f d;obtain⟨o,U,E,h2,h3⟩:=f.obj r Q z;by_cases i:∃g t n,o=.cells g t n;obtain⟨g,t,n,rfl⟩:=i;refine .inl ?_;simp only[Sem.runT,E];exact rfl;have p:∀g t n,o≠ .cells g t n:=λg t n e=>i ⟨g,t,n,e⟩;have B:∀{N:Type} (k:Sem N) (w:cd) (r:Nat) (x o:Obj) (d:Array Event),w.heap[r]? =some o->(∀g t n,o≠ .cells g t n)->(Sem.setObj r x k).runT P w d=k.runT P {w with heap:=w.heap.setIfInBounds r x} (d.push ⟨.obj r,true,x.isChan⟩):=by intro N k w r x o d h I;cases o<;>first|exact absurd rfl (I _ _ _)|simp only[Sem.runT,h]
  have M:∀T,(Sem.setObj r x k).runT P (cI v T) d=k.runT P (cI {v with heap:=v.heap.setIfInBounds r x} T) (d.push ⟨.obj r,true,x.isChan⟩):=λT=>B k _ r x o d E p;simp only[B k v r x o d E p,M];have L:=fe.setObj f z G E p V;rcases j L.rel (d.push ⟨.obj r,true,x.isChan⟩)with l|i;exact .inl l;exact .inr ⟨i.le,i.tape,i.run⟩
 | @shape R r Q k F z _ _ j ib=>
  intro v u f d;rcases f.shape z with⟨W,_⟩|⟨W,m,y,e,_⟩;exact j W _ f d;have h:=ib W m y f d;rw[<-e]at h;exact h
 | @choose R q k F _ j=>
  intro v u f d;by_cases hq:q.forced=true;simp only[Sem.runT,hq,cX];exact j 0 f d;have X:q.forced=false:=by simpa using hq
  simp only[Sem.runT,X,iq,eo];rcases j (q.cut (v.tape v.drawn q)) f.draw d with l|i;exact .inl l;refine .inr (lK.trans (v1:={v with drawn:=v.drawn+1}) (sP _) rfl i λT hT h=>?_);rw[show(cI v T).tape=T from rfl,show(cI v T).drawn=v.drawn from rfl,hT v.drawn (cz _) (Nat.lt_succ_self _)];exact h
 |program _ j=>exactλf d=>j f d
 | @noRoom R k F _ j=>exactλ{v u} f d=>j f _
 | @panic R x O h=>exactλ{v u} f d=>.inr ⟨cz _,rfl,λT _=>rfl⟩
 |dead l=>exactλ{v u} f d=>.inl l
 | @never R s s' h=>
  intro v u f d;obtain⟨hh,w',e,l⟩:=h v;refine .inl ?_;rw[mU,e];exact l
def dp(F:cd->GStep)(v:cd):Prop:=
 match F v with
 | .go b a c=>lK v a λT=>F (cI v T)=.go b (cI a T) c
 |_=>True
def lK.refl(v:cd){C:Ta->Prop}(h:∀T,C T):lK v v C:=⟨cz _,rfl,λT _=>h T⟩
theorem dp.go(v:cd)(g:cj)(a:Array Event):dp (λw=>.go g w a) v:=lK.refl v λ_=>rfl
theorem dp.ended(v:cd)(o:Outcome)(a:Array Event):dp (λw=>.ended o w a) v:=trivial
theorem dp.after{v:cd}{F:cd->GStep}(a:Array Event)(h:dp F v):dp (λw=>GStep.after a (F w)) v:=by
 unfold dp at*;dsimp only;revert h;generalize d:F v=x;intro h;cases x with
 |go e f b=>exact⟨h.le,h.tape,λT c=>by rw[h.run T c];rfl⟩
 |_=>trivial
def dp.ite{v:cd}{c:Prop} [Decidable c]{F b:cd->GStep}(h:c->dp F v)(d:¬c->dp b v):dp (λw=>if c then F w else b w) v:=by by_cases a:c;have:=h a;simp only[a,cX];exact this;have:=d a;simp only[a,eo];exact this
def dp.congr{v:cd}{F a:cd->GStep}(h:dp F v)(e:∀T,a (cI v T)=F (cI v T)):dp a v:=by
 have b:a v=F v:=e v.tape;unfold dp at*;rw[b];revert h;generalize F v=x;intro h;cases x with
 |go f g c=>exact⟨h.le,h.tape,λT d=>by rw[e];exact h.run T d⟩
 |_=>trivial
def Uh(s:GStep):Prop:=match s with| .go _ _ _=>False|_=>True
section
variable{P:cf}{ρ:cR}{v u:cd}{cs:List Frame}
theorem dp.run{p t:Type}{A:cR->p->t->Prop}{s:Sem p}{y:Sem t}(w:WR ρ v u)(h:SR P A ρ s y)(K:Result p->Array Event->GStep) (z:∀l d f,l.dead=true->Uh (K (.halt l d) f))
 (B:∀a b d o g f i,A g a b->fe ρ g v u d o i->dp (λw=>K (.ok a w) f) d)
 (C:∀a d f,dp (λw=>K (.halt (.panic a) w) f) d):
 dp (λw=>K (s.runT P w #[]).1 (s.runT P w #[]).2) v:=by
 rcases dw.run w h with⟨l,d,f,e,D⟩|⟨a,b,d,o,g,f,i,e,E,n,m⟩|⟨a,b,d,o,g,f,i,e,E,n,m⟩;have:=z l d f D;unfold dp;simp only[e];revert this;generalize K (.halt l d) f=x;intro F;cases x with
 |go _ _ _=>exact F.elim
 |_=>trivial
 have c:=h.JR w #[];rw[e]at c;rcases c with c|c;exact c.elim;have k:=B a b d o g f i n m;unfold dp at*;simp only[e];dsimp only at k;revert k;generalize G:K (.ok a d) f=x;intro k;cases x with
 |go H I q=>
  refine lK.trans c.le c.tape k λT r h=>?_;rw[c.run T λj a b=>r j a b];exact h
 |_=>trivial
 have c:=h.JR w #[];rw[e]at c;rcases c with c|c;exact absurd (show Halt.dead (.panic a)=true from c) (by intro l;cases l);have k:=C a d f;unfold dp at*;simp only[e];dsimp only at k;revert k;generalize G:K (.halt (.panic a) d) f=x;intro k;cases x with
 |go H I q=>
  refine lK.trans c.le c.tape k λT r h=>?_;rw[c.run T λj a b=>r j a b];exact h
 |_=>trivial
end
section
variable{P:cf}{ρ:cR}{v u:cd}{cs:List Frame}
def lK.runs{n o:Type}{A:cR->n->o->Prop}{s:Sem n}{p:Sem o}(w:WR ρ v u)(h:SR P A ρ s p):(∃j c d,s.runT P v #[]=(.halt j c,d)/\j.dead=true)\/
 (∃a b c l g d i,s.runT P v #[]=(.ok a c,d)/\A g a b/\fe ρ g v u c l i/\lK v c λT=>s.runT P (cI v T) #[]=(.ok a (cI c T),d))\/
 (∃a c d,s.runT P v #[]=(.halt (.panic a) c,d)/\lK v c λT=>s.runT P (cI v T) #[]=(.halt (.panic a) (cI c T),d)):=by
 have f:=h.JR w #[];rcases dw.run w h with⟨j,c,d,e,q⟩|⟨a,b,c,l,g,d,i,e,r,k,m⟩|⟨a,b,c,l,g,d,i,e,r,k,m⟩;exact .inl ⟨j,c,d,e,q⟩;rw[e]at f;rcases f with f|f;exact f.elim;exact .inr (.inl ⟨a,b,c,l,g,d,i,e,k,m,f⟩);rw[e]at f;rcases f with f|f;exact absurd (show Halt.dead (.panic a)=true from f) (by intro j;cases j);exact .inr (.inr ⟨a,c,d,e,f⟩)
def CI(w:WR ρ v u){fr:Frame}{cl:List Frame}{s s':Sem Next}(j:SN P ρ s s'):dp (λv=>stepG.apply P true fr cl none s v) v:=by
 rcases lK.runs w j with⟨l,g,h,e,i⟩|⟨a,b,g,t,n,h,o,e,f,m,c⟩|⟨a,g,h,e,c⟩;unfold dp stepG.apply;simp only[cX,e];cases l with
 |stuck s=>trivial
 |unsupported p=>cases p<;>first|trivial|cases i
 |_=>cases i
 unfold dp stepG.apply;simp only[cX,e];cases f with
 |enter x y=>
  have:∀(k:List Item) (X:CallKind->Prop),(X .normal)->(X .wrapped)->X (match k with| .call _ true _ _::_=>.wrapped|_=>.normal):=by intro k X q r;split;exact r;exact q
  refine⟨c.le,c.tape,λT d=>?_⟩;simp only[c.run T d];rfl
 |_=>
  refine⟨c.le,c.tape,λT d=>?_⟩;simp only[c.run T d];rfl
 unfold dp stepG.apply;simp only[cX,e];refine⟨c.le,c.tape,λT d=>?_⟩;simp only[c.run T d];rfl
def yG{fr:Frame}{cl:List Frame}(a:Bool)(x:ce)(b:cl≠[]):dp (λv=>doReturn P a fr cl none x v) v:=by
 cases cl with
 |nil=>exact absurd rfl b
 |cons c cl=>
  unfold dp doReturn;dsimp only;cases fr.kind<;>exact lK.refl v λT=>rfl
def mY(w:WR ρ v u){l:Frame}{n:List Frame}{d i:Deferred}(f:SN P ρ (Go.invoke d.target d.args) (Go.invoke i.target i.args)):dp (λv=>callDeferred P l n none d v) v:=by
 unfold callDeferred;refine dp.ite (λ_=>dp.ended v _ #[]) λ_=>?_;rcases lK.runs w f with⟨o,j,k,e,f⟩|⟨a,b,j,t,p,k,q,e,g,m,c⟩|⟨a,j,k,e,c⟩;unfold dp;simp only[e];cases o with
 |stuck s=>trivial
 |unsupported r=>cases r<;>first|trivial|cases f
 |_=>cases f
 unfold dp;simp only[e];cases g with
 |_=>
  refine⟨c.le,c.tape,λT h=>?_⟩;simp only[c.run T h];rfl
 unfold dp;simp only[e];refine⟨c.le,c.tape,λT h=>?_⟩;simp only[c.run T h];rfl
def Ml(i:Good P ρ)(w:WR ρ v u){fr j:Frame}{cl:List Frame}(p:cl≠[])(h:dC P ρ fr j)(f:Bool):dp (λv=>unwind P f fr cl none v) v:=by
 unfold unwind;have l:=h.defers;revert l;generalize fr.defers=F;generalize j.defers=x;intro l;cases l with
 |nil=>
  dsimp only;have z:=h.mode;revert z;generalize G:fr.mode=m;generalize E:j.mode=M;intro z;cases z with
  |run=>exact dp.ended v _ #[]
  |panicking g=>
   dsimp only;cases cl with
   |nil=>exact absurd rfl p
   |cons c cl=>
    dsimp only;split;exact dp.ended v _ #[];exact dp.go v _ #[]
  |returning=>
   dsimp only;obtain⟨fn,c,q,_,_⟩:=i.fit.fn _ h.fnS.1;rw[q];dsimp only;rcases lK.runs (P:=P) w (SR.results (fn:=fn) h.tmps)with⟨s,n,o,e,l⟩|⟨a,b,n,H,A,o,B,e,C,m,g⟩|⟨a,n,o,e,g⟩;unfold dp;simp only[e];cases s<;>trivial;have k:=yG (P:=P) (v:=n) (fr:=fr) (cl:=cl) f a p;have t:=dp.after (seen P fr.fn o) k;unfold dp at*;simp only[e];dsimp only at t;revert t;generalize GStep.after (seen P fr.fn o) (doReturn P f fr cl none a n)=y;intro t;cases y with
   |go N O I=>
    refine lK.trans g.le g.tape t λT D s=>?_;simp only[g.run T D];exact s
   |_=>trivial
   unfold dp;simp only[e];trivial
 | @cons d Q F x l J=>
  cases l with
  |collected K=>
   dsimp only;rcases lK.runs (P:=P) w (SR.takeDeferred K)with⟨s,n,o,e,l⟩|⟨a,b,n,H,A,o,B,e,C,m,g⟩|⟨a,n,o,e,g⟩;unfold dp;simp only[e];trivial;unfold dp;simp only[e];refine⟨g.le,g.tape,λT D=>?_⟩;simp only[g.run T D];rfl;unfold dp;simp only[e];trivial
  |fn L q r=>exact mY w (SR.invoke i.fit i.two (.fn L q r))
  |yield q r=>exact mY w (SR.invoke i.fit i.two (.yield q r))
  |nil r=>exact mY w (SR.invoke i.fit i.two (.nil r))
end
section
variable{P:cf}{ρ:cR}{v u:cd}{cs:List Frame}
def Pm(w:WR ρ v u){fr q:Frame}{cl:List Frame}(r:cl≠[])(h:dC P ρ fr q)(d:Bool)(j:Option Code)(o:Outcome):(∀c,j=some c->∀f,ρ.ok f c=true)->dp (λv=>
  (match fr.roundOf with
    |none=>if(match j with|none|some .ret=>true|_=>false)=true then .go {frame:={fr with mode:=.returning},callers:=cl,status:=.running,dying:=none} v else .ended o v
    |some l=>GStep.after (seen P fr.fn ((Instr.endRound l j).runT P v #[]).2)<|match((Instr.endRound l j).runT P v #[]).1 with
     | .ok x w=>doReturn P d fr cl none x w
     | .halt _ w=>.ended (.stuck "range over a function: no such loop" (fr.pos P)) w)) v:=by
 intro z;rcases h.round with⟨s,A⟩|⟨l,H,s,A,B,_⟩;rw[s];dsimp only;exact dp.ite (λ_=>dp.go v _ #[]) λ_=>dp.ended v _ #[];rw[s];dsimp only;rcases lK.runs (P:=P) w (SR.endRound B j z)with⟨t,g,i,e,I⟩|⟨a,b,g,J,C,i,D,e,E,m,n⟩|⟨a,g,i,e,n⟩;unfold dp;simp only[e];trivial;have k:=yG (P:=P) (v:=g) (fr:=fr) (cl:=cl) d a r;have p:=dp.after (seen P fr.fn i) k;unfold dp at*;simp only[e];dsimp only at p;revert p;generalize GStep.after (seen P fr.fn i) (doReturn P d fr cl none a g)=y;intro p;cases y with
 |go K L F=>
  refine lK.trans n.le n.tape p λT G t=>?_;simp only[n.run T G];exact t
 |_=>trivial
 unfold dp;simp only[e];trivial
theorem SC(hG:Good P ρ)(w:WR ρ v u){fr oQ:Frame}{cl:List Frame}(SD:cl≠[])(h:dC P ρ fr oQ)(main:Bool):
 dp (λv=>stepG.exec P main true fr cl none v) v:=by
 have Sw:=hG.ok;have lv:=λ(j:Option Code)=>Pm w SD h main j (.stuck "exit, goto: no such block or label" (fr.pos P));have yF:=h.todo;unfold stepG.exec;revert yF lv;generalize Uc:fr.todo=k0;generalize Sy:oQ.todo=YE;intro lv yF;cases yF with
 |nil=>exact lv none (λc e=>by cases e)
 | @cons x x' k k' hx hk=>
  cases hx with
  | @code c hc=>
   have tt:=hc;rw[Sw]at tt;dsimp only at tt;cases c with
   |ret=>exact lv (some .ret) (λc e=>by cases e;exact rY hG rfl)
   |cond c a b=>
    dsimp only;cases fr.eval c<;>first|exact dp.ended v _ #[]|exact dp.go v _ #[]
   |exit id=>
    dsimp only;cases exitTo id k with
    |none=>exact lv (some (.exit id)) (λc e=>by cases e;exact rY hG rfl)
    |some j=>exact dp.go v _ #[]
   |goto l=>
    dsimp only;cases gotoIn l k with
    |none=>exact lv (some (.goto l)) (λc e=>by cases e;exact rY hG rfl)
    |some j=>exact dp.go v _ #[]
   |refuse YF=>exact dp.ended v _ #[]
   |rangeFunc f ps a b=>
    simp only[gh,Bool.and_eq_true]at tt;simp only[Bool.not_eq_true']at tt;dsimp only;rcases lK.runs (P:=P) w (SR.enterLoop h.fnS.1 h.fnS.2 h.tmps ps a b (fq hG tt.1.2) (fq hG tt.2) tt.1.1.1 (h.round.imp id λ⟨l,l',a,b,c,_⟩=>⟨l,l',a,b,c⟩))with⟨hh,v1,es,e,hd⟩|⟨x,y,v1,u1,mV,es,Pa,e,Mi,m,Pn⟩|⟨x,v1,es,e,Pn⟩
    ·unfold dp;simp only[e];trivial
    ·obtain⟨l,mk⟩:=x;obtain⟨l',mk'⟩:=y;obtain⟨hl,Ud⟩:=Mi;simp only at hl Ud;have TS:=hG.mono m.le;have h':=h.mono m.le;have Sz:uk mV mk mk':=by
      rcases Ud with⟨rfl,rfl⟩|⟨d,d',rfl,rfl,hd,hb⟩
      ·exact .nil
      ·exact .cons hd (.inr hb) .nil
     have GT:dC P mV {fr with todo:=.inRangeFunc l::k,defers:=mk++fr.defers} {oQ with todo:=.inRangeFunc l'::k',defers:=mk'++oQ.defers}:=
      ⟨h'.fn,h'.fnS,h'.tmps,.cons (.inRangeFunc hl) (hk.mono m.le),Sz.append h'.defers,h'.mode,h'.kind,h'.round⟩
     have hs:SN P mV (do let d<-resolve (Frame.eval {fr with todo:=.inRangeFunc l::k,defers:=mk++fr.defers}) {callee:=.value f,args:=#[.const (.func (.yield l) #[] #[])],argTypes:=#[]} 0;invoke d.target d.args)
      (do let d<-resolve (Frame.eval {oQ with todo:=.inRangeFunc l'::k',defers:=mk'++oQ.defers}) {callee:=.value f,args:=#[.const (.func (.yield l') #[] #[])],argTypes:=#[]} 0;invoke d.target d.args):=by
      unfold resolve;dsimp only;refine SR.du (SR.ofValue (GT.eval f (m.le.s▸tt.1.1.2)) (xs:=_) (xs':=_) ?_) λRe d d' hle hd=>SR.invoke ((TS.mono hle).fit) ((TS.mono hle).two) hd;simp only[List.map_toArray,List.map_cons,List.map_nil,Frame.eval];exact eT.one (.yield hl)
     have k2:=dp.after (seen P fr.fn es) (CI (fr:={fr with todo:=.inRangeFunc l::k,defers:=mk++fr.defers}) (cl:=cl) m.rel hs);unfold dp at*;simp only[e];dsimp only at k2;revert k2;generalize GStep.after (seen P fr.fn es) (stepG.apply P true {fr with todo:=.inRangeFunc l::k,defers:=mk++fr.defers} cl none _ v1)=y;intro k2;cases y with
     |go g1 v2 Z5=>
      refine lK.trans Pn.le Pn.tape k2 λT hT hh=>?_;simp only[Pn.run T hT];exact hh
     |_=>trivial
    ·unfold dp;simp only[e];trivial
   |region id ops draw=>
    dsimp only;cases draw with
    |false=>exact dp.go v _ #[]
    |true=>
     simp only[Bool.not_true,Bool.false_eq_true,if_false];have V6:SR P (λ_ (a b:Nat)=>a=b) ρ (Go.choose (.order fr.fn id)) (Go.choose (.order fr.fn id)):=.choose λn=>.pure rfl;rcases lK.runs (P:=P) w V6 with⟨hh,v1,es,e,hd⟩|⟨x,y,v1,u1,mV,es,Pa,e,Mi,m,Pn⟩|⟨x,v1,es,e,Pn⟩
     ·have e1:(Go.choose (.order fr.fn id)).run P v=.halt hh v1:=by rw[Sem.runT_eq]at e;exact congrArg Prod.fst e
      unfold dp;simp only[e1]
     ·have e1:(Go.choose (.order fr.fn id)).run P v=.ok x v1:=by rw[Sem.runT_eq]at e;exact congrArg Prod.fst e
      unfold dp;simp only[e1];refine⟨Pn.le,Pn.tape,λT hT=>?_⟩;have e2:(Go.choose (.order fr.fn id)).run P (cI v T)=.ok x (cI v1 T):=by have:=Pn.run T hT;rw[Sem.runT_eq]at this;exact congrArg Prod.fst this
      simp only[e2]
     ·have e1:(Go.choose (.order fr.fn id)).run P v=.halt (.panic x) v1:=by rw[Sem.runT_eq]at e;exact congrArg Prod.fst e
      unfold dp;simp only[e1]
   |_=>exact dp.go v _ #[]
  |inRangeFunc hl=>exact dp.ended v _ #[]
  |beginRound=>
   dsimp only;refine CI (s':=(do oQ.roundOf.elim (Go.stuck "beginRound: no round") Instr.beginRound;Pure.pure .skip)) w ?_;rcases h.round with⟨e1,e2⟩|⟨l,l',e1,e2,hr,_⟩
   ·rw[e1,e2];exact .dead rfl
   ·rw[e1,e2];exact SR.du (SR.beginRound hr) λ_ _ _ _ _=>.dT .skip
  |endRangeFunc hl=>
   dsimp only;rcases lK.runs (P:=P) w (SR.endLoop hl)with⟨hh,v1,es,e,hd⟩|⟨x,y,v1,u1,mV,es,Pa,e,Mi,m,hc⟩|⟨x,v1,es,e,hc⟩
   ·unfold dp;simp only[e];cases hh<;>first|trivial|(cases hd;done)
   ·unfold dp;simp only[e];refine⟨hc.le,hc.tape,λT hT=>?_⟩;simp only[hc.run T hT];rfl
   ·unfold dp;simp only[e];refine⟨hc.le,hc.tape,λT hT=>?_⟩;simp only[hc.run T hT];rfl
  | @inRegion ops td JQ=>
   cases td with
   |nil=>exact dp.go v _ #[]
   |cons i rest=>
    dsimp only;refine dp.ite (λhc=>?_) λhc=>dp.go v _ #[];cases ho:ops[i]? with
    |none=>rw[ho]at hc;cases hc
    |some o=>
     unfold stepG.oper;have e1:fr.oper?=some o:=by simp only[Frame.oper?,Uc];exact ho
     rw[e1];dsimp only;have SA:=JQ i o ho;have hs:SN P ρ (execOp fr.eval o) (execOp oQ.eval o):=SR.exec hG.fit hG.two (λx hx=>h.eval x hx) (λe=>⟨_,e⟩) (λ_=>⟨rfl,rfl⟩) o SA;have main:=CI (fr:=fr) (cl:=cl) w hs;rcases h.round with⟨e1,e2⟩|⟨l,l',e1,e2,hr,V7⟩
     ·rw[e1];exact main
     ·rw[e1];cases Uf:o.op<;>first|exact main|skip
      rename_i c;simp only[qP,Bool.and_eq_true,Uf,GK]at SA;exfalso;have:=SA.2;rw[V7]at this;revert this;split<;>(intro h;cases h)
  |_=>exact dp.go v _ #[]
def SF(i:Good P ρ)(w:WR ρ v u){g:cj}{f:Frame}(b:g.callers≠[])(d:g.dying=none)(h:dC P ρ g.frame f)(a:Bool):
 dp (λv=>stepG P a g v) v:=by
 obtain⟨k,m,n,o,e⟩:=g;simp only at b d h;subst d;have l:=SC i w b h a;have j:=Ml i w b h a;unfold stepG;dsimp only;cases p:k.mode with
 |run=>simp only;exact l
 |returning=>simp only;exact j
 |panicking c=>simp only;exact j
end
end Go.cF
namespace Go.cF
open Go.Conc (G)
structure pA where
 fr:Frame
 cl:List Frame
 v:cd
def Below(v:cd)(T:Ta):Prop:=∀j,j<v.drawn->T j=v.tape j
inductive Reach (P:cf) (Stop:Frame->List Frame->cd->Prop):pA->Prop
 |here {c:pA} (h:Stop c.fr c.cl c.v):Reach P Stop c
 |next {c:pA} (h1:∀T,Below c.v T->∃(c1:pA) (es:Array Event),stepG P true (G c.fr c.cl) (cI c.v T)=.go (G c1.fr c1.cl) c1.v es)
  (h2:∀T (c1:pA) (es:Array Event),Below c.v T->stepG P true (G c.fr c.cl) (cI c.v T)=.go (G c1.fr c1.cl) c1.v es->Reach P Stop c1):Reach P Stop c
def Reach.step{P:cf}{Stop:Frame->List Frame->cd->Prop}{c:pA}(h:∀T:Ta,Below c.v T->∃a b d f,stepG P true (G c.fr c.cl) (cI c.v T)=.go (G a b) d f/\Reach P Stop ⟨a,b,d⟩):Reach P Stop c:=by refine .next (λT g=>?_) λT l f g e=>?_;obtain⟨a,b,d,f,e,_⟩:=h T g;exact⟨⟨a,b,d⟩,f,e⟩;obtain⟨a,b,d,m,n,o⟩:=h T g;rw[n]at e;injection e with p i q;injection p with j k;obtain⟨r,s,v⟩:=l;simp only at i j k;subst i j k;exact o
def Inv(P:cf)(c:pA):Prop:=∃a u b,Good P a/\(∀f,a.hole f=false)/\WR a c.v u/\qB P a [] (G c.fr c.cl) b
def WR.SG{v u:cd}(h:WR R v u)(T:Ta):WR R (cI v T) {u with tape:=λj q=>T (v.drawn+(j-u.drawn)) q}:=
 ⟨h.obj,h.low,λj q=>by show T (v.drawn+j) q=T (v.drawn+(u.drawn+j-u.drawn)) q;rw[Nat.add_sub_cancel_left]⟩
theorem Inv.cI{P:cf}{c:pA}(h:Inv P c)(T:Ta):Inv P {c with v:=cI c.v T}:=by obtain⟨a,u,b,d,e,f,g⟩:=h;exact⟨a,_,b,d,e,f.SG T,g⟩
theorem GS.frame{P:Program}{ρ:cR}(hh:∀f,ρ.hole f=false){fr oQ:Frame}(h:GS P ρ fr oQ):dC P ρ fr oQ:=by
 cases h with
 |fr h=>exact h
 |hole _ hf _=>rw[hh]at hf;cases hf
theorem Inv.callers{P:cf}{c:pA}(h:Inv P c):c.cl≠[]:=by obtain⟨f,u,g,i,j,k,b⟩:=h;obtain⟨X,l,e,_⟩:=b.callers;intro d;have a:c.cl=X++[floor]:=e;rw[d]at a;simp at a
def Inv.step{P:cf}{c:pA}(h:Inv P c):(∃o w a,stepG P true (G c.fr c.cl) c.v=.ended o w a)\/(∃d e a,stepG P true (G c.fr c.cl) c.v=.go d e a/\yD d)\/∃f g e a,stepG P true (G c.fr c.cl) c.v=.go (G f g) e a/\Inv P ⟨f,g,e⟩:=by
 obtain⟨B,u,C,l,n,x,p⟩:=h;have i:=GU l x p (p.fr.frame n) true true;revert i;generalize stepG P true (G c.fr c.cl) c.v=s;intro i;cases s with
 |go d e a=>
  rcases i with y|⟨j,k,z,A,_,m,b⟩;exact .inr (.inl ⟨d,e,a,rfl,y⟩);refine .inr (.inr ⟨d.frame,d.callers,e,a,?_,j,z,k,l.mono m.le,by rw[<-m.le.h];exact n,m.rel,?_⟩);obtain⟨D,E,F,H,I⟩:=d;have q:=b.st.1;have r:=b.dy.1;have t:=b.of.1;simp only at q r t;subst q r t;rfl;exact⟨b.fr,b.callers,⟨rfl,b.st.2⟩,⟨rfl,b.dy.2⟩,⟨rfl,b.of.2⟩⟩
 |ended o w a=>exact .inl ⟨o,w,a,rfl⟩
 |_=>exact i.elim
def Inv.JR{P:cf}{c:pA}(h:Inv P c):dp (λv=>stepG P true (G c.fr c.cl) v) c.v:=by have a:=h.callers;obtain⟨i,u,j,b,d,e,f⟩:=h;exact SF (g:=G c.fr c.cl) b e a rfl (f.fr.frame d) true
def Comes(P:cf)(Stop:Frame->List Frame->cd->Prop)(c:pA):Prop:=
 ∀T,Below c.v T->∃n a b v,runN P n (lone c.fr c.cl (cI c.v T))=.next (lone a b v)/\Stop a b v
section
variable{P:cf}{Stop:Frame->List Frame->cd->Prop}
def pB{c a:Frame}{d b:List Frame}{v e:cd}{f:Array Event}(h:stepG P true (G c d) v=.go (G a b) e f):Go.step P (lone c d v)=.next (lone a b e):=by refine step_lone_go ?_;have g:stepG P true {frame:=c,callers:=d,status:=.running,dying:=none} v=.go (G a b) e f:=h;rw[g];rfl
def mZ{a:Frame}{b:List Frame}{v c:cd}{o:Outcome}{d:Array Event}(h:stepG P true (G a b) v=.ended o c d):Go.step P (lone a b v)=.ended o c:=by refine step_lone_ended ?_;have e:stepG P true {frame:=a,callers:=b,status:=.running,dying:=none} v=.ended o c d:=h;rw[e];rfl
structure Ui(P:cf)(Stop:Frame->List Frame->cd->Prop)(c:pA):Prop where
 inv:Inv P c
 comes:Comes P Stop c
 not:¬Reach P Stop c
structure Uj(P:cf)(c c1:pA)(T:Ta):Prop where
 below:Below c.v T
 tape:c1.v.tape=T
 le:c.v.drawn<=c1.v.drawn
 step:∀L,(∀j,c.v.drawn<=j->j<c1.v.drawn->L j=T j)->stepG P true (G c.fr c.cl) (cI c.v L)=.go (G c1.fr c1.cl) (cI c1.v L) (match stepG P true (G c.fr c.cl) (cI c.v L)with| .go _ _ es=>es|_=>#[])
theorem Ui.next(B:∀i g v,Stop i g v->g≠[])(C:∀c T,Inv P c->Stop c.fr c.cl c.v->Stop c.fr c.cl (cI c.v T)){c:pA}(h:Ui P Stop c):∃N T,Uj P c N T/\Ui P Stop N:=by
 have Y:¬∀T:Ta,Below c.v T->∃b d f q,stepG P true (G c.fr c.cl) (cI c.v T)=.go (G b d) f q/\Reach P Stop ⟨b,d,f⟩:=λZ=>h.not (.step Z);have r:∀T,¬Stop c.fr c.cl (cI c.v T):=λT k=>h.not (.here (by have:=C {c with v:=cI c.v T} c.v.tape (h.inv.cI T) k;exact this))
 obtain⟨T,D⟩:=Classical.not_forall.1 Y;obtain⟨E,D⟩:=Classical.not_imp.1 D;have O:=h.inv.cI T;obtain⟨n,i,g,v,a,k⟩:=h.comes T E;have t:∀{T i g v n},runN P n (lone c.fr c.cl (cI c.v T))=.next (lone i g v)->Stop i g v->∃u,n=u+1:=by
  intro T i g v n a k;cases n with
  |zero=>
   exfalso;simp only[runN]at a;injection a with a;have s:c.fr=i/\c.cl=g/\cI c.v T=v:=by unfold lone at a;injection a with s l;simp only[Bd,qm]at l;have:=l.1;injection this with Q R;exact⟨Q,R,s⟩
   obtain⟨rfl,rfl,rfl⟩:=s;exact r T k
  |succ n=>exact⟨n,rfl⟩
 obtain⟨u,rfl⟩:=t a k;rcases O.step with⟨o,w,q,e⟩|⟨g1,f,q,e,S⟩|⟨b,d,f,q,e,x⟩;exfalso;simp only[runN,mZ e]at a;cases a;exfalso;obtain⟨b,d,st,dy,of⟩:=g1;have F:=S;obtain⟨U,V,W,X,h4⟩:=S;simp only at W U V X h4;subst W U V X;have e':stepG P true (G c.fr c.cl) (cI c.v T)=.go (G b []) f q:=e;simp only[runN,pB e']at a;cases u with
 |zero=>
  simp only[runN]at a;injection a with a;have s:[]=g:=by unfold lone at a;injection a with s l;simp only[Bd,qm]at l;have:=l.1;injection this with Q R
  exact B _ _ _ k s.symm
 |succ n=>
  obtain⟨o,w',aa,l⟩:=F.ended (P:=P) true f;simp only[runN,mZ (show stepG P true (G b []) f=_ from l)]at a;cases a
 have m:=O.JR;unfold dp at m;dsimp only at m;rw[e]at m;dsimp only at m;have p:∀L,(∀j,c.v.drawn<=j->j<f.drawn->L j=T j)->stepG P true (G c.fr c.cl) (cI c.v L)=.go (G b d) (cI f L) q:=λL H=>m.run L H;refine⟨⟨b,d,f⟩,T,⟨E,m.tape,m.le,λL H=>by rw[p L H]⟩,x,?_,λI=>D ⟨b,d,f,q,e,I⟩⟩;intro J y;have z:f.tape=T:=m.tape;have K:c.v.drawn<=f.drawn:=m.le;have M:Below c.v J:=λj A=>by rw[y j (dl A K)];show f.tape j=_;rw[z];exact E j A
 obtain⟨n,i,g,v,a,k⟩:=h.comes J M;obtain⟨u,rfl⟩:=t a k;have l:=p J λj _ A=>by rw[y j A];show f.tape j=_;rw[z]
 simp only[runN,pB l]at a;exact⟨u,i,g,v,a,k⟩
def qS(f:∀t s v,Stop t s v->s≠[])(d:∀c T,Inv P c->Stop c.fr c.cl c.v->Stop c.fr c.cl (cI c.v T)){c:pA}(D:Inv P c)(h:Comes P Stop c):Reach P Stop c:=by
 refine L5 λp=>?_;have E:Ui P Stop c:=⟨D,h,p⟩;let a:Nat->{c:pA//Ui P Stop c}:=λn=>Nat.rec ⟨c,E⟩ (λ_ x=>⟨Classical.choose (x.2.next f d),(iu (iu (x.2.next f d))).2⟩) n;have z:(a 0).1=c:=rfl;have u:∀n,∃T,Uj P (a n).1 (a (n+1)).1 T:=λn=>⟨Classical.choose (iu ((a n).2.next f d)),(iu (iu ((a n).2.next f d))).1⟩;have mono:∀n k,(a n).1.v.drawn<=(a (n+k)).1.v.drawn:=by
  intro n k;induction k with
  |zero=>exact cz _
  |succ k r=>
   obtain⟨T,i⟩:=u (n+k);exact cJ r i.le
 have e:∀n k j,j<(a n).1.v.drawn->(a (n+k)).1.v.tape j=(a n).1.v.tape j:=by
  intro n k j g;induction k with
  |zero=>rfl
  |succ k r=>
   obtain⟨T,i⟩:=u (n+k);rw[<-r,<-i.below j (dl g (mono n k))];show(a (n+k+1)).1.v.tape j=_;rw[i.tape]
 let L:Ta:=λj q=>open Classical in if l:∃n,j<(a n).1.v.drawn then(a (Classical.choose l)).1.v.tape j q else 0
 have A:∀n j,j<(a n).1.v.drawn->L j=(a n).1.v.tape j:=by intro n j g;funext q;have l:∃n,j<(a n).1.v.drawn:=⟨n,g⟩;show(open Classical in if l:∃n,j<(a n).1.v.drawn then(a (Classical.choose l)).1.v.tape j q else 0)=_;rw[dif_pos l];have B:=iu l;generalize Classical.choose l=m at B;rcases Nat.le_total m n with o|o;obtain⟨k,rfl⟩:=Nat.exists_eq_add_of_le o;rw[e m k j B];obtain⟨k,rfl⟩:=Nat.exists_eq_add_of_le o;rw[e n k j g]
 have w:∀n,∀k,runN P (n+k) (lone c.fr c.cl (cI c.v L))=runN P k (lone (a n).1.fr (a n).1.cl (cI (a n).1.v L)):=by
  intro n;induction n with
  |zero=>intro k;rw[cB];rfl
  |succ n r=>
   intro k;rw[show n+1+k=n+(k+1)from by omega,r (k+1)];obtain⟨T,i⟩:=u n;have:=i.step L λj _ g=>by rw[A (n+1) j g,i.tape]
   simp only[runN,pB this]
 obtain⟨k,t,s,v,F,G⟩:=h L λj g=>A 0 j g;have b:=w k 0;rw[mT,F]at b;simp only[runN]at b;injection b with b;have y:t=(a k).1.fr/\s=(a k).1.cl/\v=cI (a k).1.v L:=by unfold lone at b;injection b with y C;simp only[Bd,qm]at C;have:=C.1;injection this with H I;exact⟨H,I,y⟩
 obtain⟨rfl,rfl,rfl⟩:=y;refine(a k).2.not (.here ?_);have:=d {(a k).1 with v:=cI (a k).1.v L} (a k).1.v.tape ((a k).2.inv.cI L) G;exact this
end
section
variable{P:cf}
def Left(P:cf)(f:cm)(R:ce->cd->Prop)(a:Frame)(b:List Frame)(v:cd):Prop:=
 b=[floor]/\a.fn=f/\∃x,R x v/\a.leaving P v (.returned x)
def Left.callers{R:ce->cd->Prop}(b:Frame)(a:List Frame)(v:cd)(h:Left P K R b a v):a≠[]:=by rw[h.1];simp
theorem Left.cI{R:ce->cd->Prop}(f:∀x w T,R x w->R x (cI w T))(c:pA)(T:Ta)(g:Inv P c)(h:Left P K R c.fr c.cl c.v):Left P K R c.fr c.cl (cI c.v T):=by
 obtain⟨i,k,x,l,m,n,o,fn,p,q⟩:=h;refine⟨i,k,x,f _ _ _ l,m,n,o,fn,p,?_⟩;obtain⟨y,u,z,A,r,s,t⟩:=g;have d:=(SR.results (P:=P) (fn:=fn) (t.fr.frame r).tmps).JR s #[];rw[mU]at d;have e:(results fn (G c.fr c.cl).frame.tmps).run P c.v=.ok x c.v:=q;simp only[e]at d;rcases d with d|d;exact d.elim;have:=d.run T λj a b=>by simp only[Mj]at b;omega
 rw[mU]at this;exact cM Prod.fst this
def qT{R:ce->cd->Prop}(c:∀x b T,R x b->R x (cI b T))(d:Inv P ⟨Frame.enter P K W .normal,[floor],w⟩)
 (h:∀T,Below w T->Calls P K W (cI w T) λe a=>∃x,e=.returned x/\R x a):Reach P (Left P K R) ⟨Frame.enter P K W .normal,[floor],w⟩:=by
 refine qS Left.callers (Left.cI c) d λT f=>?_;obtain⟨e,a,g,⟨x,rfl,i⟩,j,k,l⟩:=h T f [floor];obtain⟨n,m⟩:=j;exact⟨n,g,[floor],a,m,rfl,k,x,i,l⟩
def Reach.follow{a:Frame->List Frame->cd->Prop}{c b:pA}{d:Array Event}{T:Ta}(h:Reach P a c)(f:¬a c.fr c.cl c.v)(g:Below c.v T) (e:stepG P true (G c.fr c.cl) (cI c.v T)=.go (G b.fr b.cl) b.v d):Reach P a b:=by
 cases h with
 |here h=>exact absurd h f
 |next j i=>exact i T b d g e
end
end Go.cF
variable{A B C:Nat->Prop}
namespace Go.cF
open Go.Conc
open Go.ConcN (sumTo upd sumTo_upd upd_ne upd_same)
def nU(X:Nat->Prop):Loc->Prop
 | .cell a=>X a.block
 | .obj r=>X r
 |_=>False
def qq(v u:cd):Ta:=λj q=>if j<v.drawn then v.tape j q else u.tape (u.drawn+(j-v.drawn)) q
def Bm(v u:cd):Below v (qq v u):=λj a=>by funext q;simp[qq,a]
theorem WR.qq{v u:cd}(h:HR R v u):WR R (cI v (qq v u)) u:=
 ⟨h.obj,h.low,λj q=>by show Go.cF.qq v u (v.drawn+j) q=_;unfold Go.cF.qq;rw[cr (by omega)];congr 2;omega⟩
def GV{v:cd}(l:∀b c,R.r b c->¬A c)(n:∀c,A c->c<k)(o:∀b c,R.r b c->c<m){e:Event}(h:VZ R v k m e):EvL (nU A) m e:=by rcases h with⟨a,i,b,rfl,g,_,_⟩|⟨r,i,b,rfl,g,_⟩|⟨a,i,rfl,p,j⟩|⟨r,i,rfl,p,j⟩|rfl;refine⟨λx d f=>?_,by simp,by simp,o _ _ g⟩;simp only[MemAct.ofEvent,MemAct.touch?,fI]at d;subst d;exact absurd f (l _ _ g);refine⟨λx d f=>?_,by simp,by simp,by simpa[MemAct.ofEvent,MemAct.low,Loc.low]using o _ _ g⟩;simp only[MemAct.ofEvent,MemAct.touch?,fI]at d;subst d;exact absurd f (l _ _ g);refine⟨λx d f=>?_,by simp,by simp,j⟩;simp only[MemAct.ofEvent,MemAct.touch?,fI]at d;subst d;have:=n _ f;omega;refine⟨λx d f=>?_,by simp,by simp,by simpa[MemAct.ofEvent,MemAct.low,Loc.low]using j⟩;simp only[MemAct.ofEvent,MemAct.touch?,fI]at d;subst d;have:=n _ f;omega;refine⟨λx d f=>?_,by simp,by simp,trivial⟩;simp[MemAct.ofEvent,MemAct.touch?]at d
structure Eb(P:cf)(fs:Array Func)(w0:cd)(ρ:cR)(X:Nat->Prop)(c:pA)(gs:Array cj)(a:cj)(w:cd)(t:Trace)(q:Nat->Nat):Prop where
 inv:Inv P c
 good:Good P ρ
 same:ρ.fs=fs
 at0:gs[0]? =some a
 gor:qB P ρ [] (G c.fr c.cl) a
 heap:HR ρ c.v w
 leavers:Leavers (P.ir fs) t gs q
 past:Past (nU X) w.heap.size t
 low:∀b,X b->b<w.heap.size
 apart:∀b c',ρ.r b c'->¬X c'
 old:∀b c',ρ.r b c'->c'<w0.heap.size->wN c.v b
 grown:w0.heap.size<=w.heap.size
 kept:∀c',c'<w0.heap.size->w.heap[c']? =w0.heap[c']?
 world:w.tape=w0.tape/\w.os=w0.os/\w.output=w0.output
 holes:(∀f,ρ.hole f=true->P.funcs[f]?≠fs[f]?)/\ρ.dim=false/\¬ρ.Def
inductive Path (P:cf) (Stop:Frame->List Frame->cd->Prop):pA->pA->Prop
 |one {c c1:pA} {T:Ta} {es:Array Event} (hn:¬Stop c.fr c.cl c.v) (hT:Below c.v T) (e:stepG P true (G c.fr c.cl) (cI c.v T)=.go (G c1.fr c1.cl) c1.v es):Path P Stop c c1
 |cons {c c1 c2:pA} {T:Ta} {es:Array Event} (hn:¬Stop c.fr c.cl c.v) (hT:Below c.v T) (e:stepG P true (G c.fr c.cl) (cI c.v T)=.go (G c1.fr c1.cl) c1.v es) (h:Path P Stop c1 c2):Path P Stop c c2
def Reach.Mm{P:cf}{a:Frame->List Frame->cd->Prop}{M:pA->Prop}(l:∀c,a c.fr c.cl c.v->M c) (p:∀c,Reach P a c->¬a c.fr c.cl c.v->(∀b,Path P a c b->M b)->M c):∀c,Reach P a c->M c:=by
 intro c q;have i:Reach P a c/\M c/\∀b,Path P a c b->Reach P a b/\M b:=by
  induction q with
  | @here c h=>
   refine⟨.here h,l c h,λb f=>?_⟩;cases f with
   |one g _ _=>exact absurd h g
   |cons g _ _ _=>exact absurd h g
  | @next c j r m=>
   have n:Reach P a c:=.next j r;have d:∀b,Path P a c b->Reach P a b/\M b:=by
    intro b f;cases f with
    |one g k e=>
     have:=m _ _ _ k e;exact⟨this.1,this.2.1⟩
    |cons g k e f=>
     have:=m _ _ _ k e;exact this.2.2 _ f
   refine⟨n,?_,d⟩;by_cases o:a c.fr c.cl c.v;exact l c o;exact p c n o λb f=>(d b f).2
 exact i.2.1
section
variable{P:cf}{fs:Array Func}{w0:cd}
theorem Eb.step{i:Frame->List Frame->cd->Prop}(U:∀fr V v,i fr V v->V≠[]){O:cR}{X:Nat->Prop}{c:pA}{Q:Array cj}{a:cj}{w:cd}{t:Trace}{q:Nat->Nat}(h:Eb P fs w0 O X c Q a w t q)(E:dC P O c.fr a.frame) (W:Reach P i c)(F:¬i c.fr c.cl c.v)(d:Nat):∃l s C u D,Path P i c l/\stepG (P.ir fs) true a (w.at d)=.go C u D/\fe O s (cI c.v (qq c.v (w.at d))) (w.at d) l.v u D/\Eb P fs w0 s X l ((Q.map (woken (P.ir fs) a C u)).setIfInBounds 0 C) C u (t++MemOp.ofEvents 0 a.frame.fn a.frame.place D) q:=by
 have Y:=h.same;subst Y;have hw:WR O (cI c.v (qq c.v (w.at d))) (w.at d):=WR.qq ⟨h.heap.obj,h.heap.low⟩;have Z:=Bm c.v (w.at d);have hs:=GU h.good hw h.gor E true true;have R:=h.inv.cI (qq c.v (w.at d));cases W with
 |here h=>exact absurd h F
 |next p S=>
  obtain⟨l,aa,e⟩:=p _ Z;have ab:=S _ l aa Z e;have hp:Path P i c l:=.one F Z e;have H:Inv P l:=by
   rcases R.step with⟨o,w',D,z⟩|⟨g1,v1,D,z,k⟩|⟨af,ag,v1,D,z,I⟩;rw[show stepG P true (G c.fr c.cl) (cI c.v (qq c.v (w.at d)))=_ from z]at e;cases e;rw[show stepG P true (G c.fr c.cl) (cI c.v (qq c.v (w.at d)))=_ from z]at e;injection e with e1 e2 e3;subst e1;exfalso;have ac:=k;obtain⟨k1,k2,k0,k3,k4⟩:=k;cases ab with
   |here h=>exact U _ _ _ h k3
   |next p S=>
    obtain⟨c2,ah,J⟩:=p l.v.tape λ_ _=>rfl;obtain⟨o,w',A,ad⟩:=ac.ended (P:=P) true (cI l.v l.v.tape);rw[ad]at J;cases J
   rw[show stepG P true (G c.fr c.cl) (cI c.v (qq c.v (w.at d)))=_ from z]at e;injection e with e1 e2 e3;injection e1 with e4 e5;obtain⟨fr,V,v⟩:=l;simp only at e2 e4 e5;subst e2 e4 e5;exact I
  rw[e]at hs;rcases hs with k|⟨s,C,u,A,z,m,hg⟩;exfalso;have:=H.callers;exact this k.2.2.2.1;refine⟨l,s,C,u,A,hp,z,m,H,h.good.mono m.le,m.le.f.symm,?_,hg,m.rel.hr,?_,?_,λb hb=>dl (h.low b hb) m.usize,λb n r K=>?_,λb n r L=>?_,cJ h.grown m.usize,λn L=>?_,⟨m.tape.trans h.world.1,m.os.trans h.world.2.1,m.output.trans h.world.2.2⟩,⟨λf E=>h.holes.1 f (by rw[m.le.h];exact E),m.le.d▸h.holes.2.1,λ⟨f,E⟩=>h.holes.2.2 ⟨f,by rw[m.le.w];exact E⟩⟩⟩;have M:0<Q.size:=(eP.1 h.at0).1;simp[M];refine⟨λj x T K=>?_,λj T=>?_⟩;have ae:0≠j:=by omega
  rw[eY ae,qF]at K;obtain⟨y,hy,rfl⟩:=ij.1 K;have hq:=h.leavers.old j y T hy;rw[woken_quitsD hq,Deaf_other t (by omega) _ (λop B=>by obtain⟨e,_,rfl⟩:=Go.Conc.mem_ofEvents B;rfl)];exact hq;have M:0<Q.size:=(eP.1 h.at0).1;rw[Deaf_other t (g:=j) (g':=0) (by simp at T;omega) (MemOp.ofEvents 0 a.frame.fn a.frame.place A) (λop B=>by obtain⟨e,_,rfl⟩:=Go.Conc.mem_ofEvents B;rfl)];exact h.leavers.above j (by simpa using T);have N:w.heap.size<=u.heap.size:=m.usize;refine(h.past.mono N).own λe he=>GV h.apart h.low (λb c W=>?_) (m.evs e he);exact dl (hw.TP W) N;rcases m.fresh b n r with p|⟨_,p⟩;exact h.apart b n p K;have:=h.low n K;have S:w.heap.size<=n:=p;omega;rcases m.fresh b n r with p|⟨_,p⟩;have R:wN (cI c.v (qq c.v (w.at d))) b:=h.old b n p L;exact R.keep (m.tX b R);have S:w.heap.size<=n:=p;have:=h.grown;omega;rw[m.same n (dl L h.grown) λb r=>h.old b n r L];exact h.kept n L
end
end Go.cF
