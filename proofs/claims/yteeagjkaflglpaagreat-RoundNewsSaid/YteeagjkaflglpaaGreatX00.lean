/- Laws that the proof needs, part 0. Conditions: none. -/
import Derived.Conc.Own
import Derived.Test.YteeagjkaflglpaaGreatRows
import Derived.Laws.Sem
import Derived.WalkKit
import Derived.WalkSpells
import Derived.WalkLawsBesides
set_option maxRecDepth 100000
set_option maxHeartbeats 8000000
set_option linter.all false
def DU:=@Array.all_eq_true_iff_forall_mem
def sE:=@Array.any_eq_true'
def Cz:=@Array.ext'
def L1:=@Array.ext_getElem?
def L3:=@Array.foldl_toList
def T4:=@Array.forIn_toList
def yq:=@Array.getD_eq_getD_getElem?
def vG:=@Array.getElem?_append_left
def yr:=@Array.getElem?_append_right
def ji:=@Array.getElem?_eq_getElem
def mO:=@Array.getElem?_eq_none
def eP:=@Array.getElem?_eq_some_iff
def qF:=@Array.getElem?_map
def sL:=@Array.getElem?_modify
def qG:=@Array.getElem?_push
def ue:=@Array.getElem?_replicate
def eY:=@Array.getElem?_setIfInBounds_ne
def jE:=@Array.getElem?_setIfInBounds_self_of_lt
def Iz:=@Array.mapM_eq_mapM_toList
def DV:=@Array.mem_append
def l7:=@Array.mem_of_getElem?
def Bd:=@Array.mk.injEq
def wL:=@Array.size_append
def ez:=@Bool.and_eq_true
def iq:=@Bool.false_eq_true
def yu:=@Bool.not_eq_true'
def L4:=@Bool.or_eq_true
def L5:=@Classical.byContradiction
def iu:=@Classical.choose_spec
def yw:=@Function.comp_def
def Ra:=@Go.Conc.Goes.stop
def l8:=@Iff.rfl
def yx:=@Int.mul_nonneg
def ql:=@Int.toNat_natCast
def jF:=@List.all_eq_true
def qm:=@List.cons.injEq
def qn:=@List.cons_append
def qH:=@List.drop_eq_getElem_cons
def l9:=@List.eq_nil_of_length_eq_zero
def L6:=@List.exists_of_findSome?_eq_some
def Rb:=@List.filter_eq_nil_iff
def ky:=@List.flatMap_cons
def uf:=@List.foldl_append
def mP:=@List.foldl_cons
def gU:=@List.getD_eq_getElem?_getD
def kz:=@List.getElem?_append_left
def mQ:=@List.getElem?_append_right
def Be:=@List.getElem?_cons_succ
def L8:=@List.getElem?_cons_zero
def ew:=@List.getElem?_eq_getElem
def IA:=@List.getElem?_eq_none
def gy:=@List.getElem?_eq_some_iff
def mR:=@List.getElem?_map
def IB:=@List.getElem?_toArray
def lI:=@List.getElem_append_left
def qI:=@List.getElem_append_right
def IC:=@List.getElem_cons_succ
def mS:=@List.getElem_cons_zero
def dt:=@List.getElem_mem
def fX:=@List.length_append
def dW:=@List.length_cons
def kV:=@List.length_map
def fC:=@List.length_nil
def qJ:=@List.length_set
def yy:=@List.length_take
def nQ:=@List.map_append
def jP:=@List.map_cons
def qK:=@List.map_nil
def gl:=@List.mem_append
def eQ:=@List.mem_cons
def eI:=@List.mem_cons_of_mem
def eR:=@List.mem_cons_self
def ug:=@List.mem_filter
def lJ:=@List.mem_flatMap
def jj:=@List.mem_map
def nR:=@List.mem_of_getElem?
def oS:=@List.mem_or_eq_of_mem_set
def eJ:=@List.mem_range
def fD:=@List.mem_singleton
def DX:=@List.mem_toArray
def sM:=@List.nil_append
def sN:=@List.not_mem_nil
def Rc:=@List.range'_succ
def kA:=@List.range_succ
def iP:=@List.size_toArray
def kX:=@List.take_length
def qL:=@List.take_of_length_le
def gP:=@List.take_succ_eq_append_getElem
def yz:=@Nat.add_assoc
def mT:=@Nat.add_zero
def yA:=@Nat.beq_refl
def gE:=@Nat.eq_of_beq_eq_true
def nS:=@Nat.eq_zero_or_pos
def sO:=@Nat.le_of_ble_eq_true
def cz:=@Nat.le_refl
def sP:=@Nat.le_succ
def Rd:=@Nat.le_succ_of_le
def cJ:=@Nat.le_trans
def dl:=@Nat.lt_of_lt_of_le
def yB:=@Nat.lt_of_not_le
def eA:=@Nat.lt_or_ge
def oq:=@Nat.mul_le_mul_right
def ot:=@Nat.mul_one
def vH:=@Nat.ne_of_beq_eq_false
def lf:=@Nat.sub_self
def cB:=@Nat.zero_add
def fN:=@Nat.zero_le
def fO:=@Ne.symm
def VW:=@Option.bind_eq_bind
def ti:=@Option.bind_eq_some_iff
def vI:=@Option.bind_some
def kC:=@Option.getD_some
def tj:=@Option.isSome_none
def ij:=@Option.map_eq_some_iff
def iX:=@Option.map_some
def cE:=@Option.some.inj
def fI:=@Option.some.injEq
def mU:=@Go.Sem.runT_eq
def qM:=@beq_iff_eq
def cM:=@congrArg
def jT:=@decide_eq_false
def jk:=@decide_eq_true_eq
def eo:=@if_false
def cr:=@if_neg
def cx:=@if_pos
def cX:=@if_true
def dQ:=@of_decide_eq_false
def cY:=@of_decide_eq_true
def ou:=@or_false
def GI:=@Go.Conc.stepG_block
def jl:=@Go.Conc.stepG_region
def iH:=@Go.Conc.stepG_region_end
def iv:=@Go.Conc.stepG_seq
def Sn:=@Go.Conc.stepG_skip
def lV:=@Go.wp_mono
def ow:=@Go.wp_region
def jU:=@Go.wp_seq
abbrev cd:=Go.World
abbrev ce:=Go.Value
abbrev cj:=Go.Goroutine
abbrev cf:=Go.Program
abbrev cg:=Go.TypeId
abbrev cm:=Go.FuncId
abbrev dj:=Go.Operand
namespace Go.Proofs.W
def jm(n:Nat):Code->Option Code
 | .region i o b=>if i=n then some (.region i o b)else none
 | .loop c=>jm n c
 | .seq a b=>(jm n a).or (jm n b)
 | .block _ c=>jm n c
 | .scope c=>jm n c
 | .cond _ a b=>(jm n a).or (jm n b)
 |_=>none
def opsOf:Code->Array Oper
 | .region _ ops _=>ops
 |_=>#[]
def fH(fn:Func)(n:Nat):Code:=(fn.body.bind (jm n)).getD .skip
end Go.Proofs.W
namespace Go.cF
structure cR where
 S:cm->Bool
 dim:Bool
 ok:cm->Code->Bool
 df:cm->Bool
 fs:Array Func
 hole:cm->Bool
 sh:Nat->Option Nat:=λ_=>none
 r:Nat->Nat->Prop
 inj₁:∀b c c',r b c->r b c'->c=c'
 inj₂:∀b b' c,r b c->r b' c->b=b'
structure cR.Le(ρ mV:cR):Prop where
 s:ρ.S=mV.S
 d:ρ.dim=mV.dim
 o:ρ.ok=mV.ok
 f:ρ.fs=mV.fs
 h:ρ.hole=mV.hole
 w:ρ.df=mV.df
 g:ρ.sh=mV.sh
 r:∀b c,ρ.r b c->mV.r b c
def cR.Le.refl(ρ:cR):cR.Le ρ ρ:=⟨rfl,rfl,rfl,rfl,rfl,rfl,rfl,λ_ _ h=>h⟩
theorem cR.Le.trans{a b c:cR}(h:cR.Le a b)(k:cR.Le b c):cR.Le a c:=⟨h.s.trans k.s,h.d.trans k.d,h.o.trans k.o,h.f.trans k.f,h.h.trans k.h,h.w.trans k.w,h.g.trans k.g,λx y z=>k.r _ _ (h.r x y z)⟩
def cR.ext(ρ:cR)(n m:Nat)(d:∀c,¬ρ.r n c)(e:∀b,¬ρ.r b m):cR where
 S:=ρ.S
 dim:=ρ.dim
 ok:=ρ.ok
 df:=ρ.df
 fs:=ρ.fs
 hole:=ρ.hole
 sh:=ρ.sh
 r:=λb c=>ρ.r b c\/(b=n/\c=m)
 inj₁:=by intro b c f h a;rcases h with h|h;rcases a with a|a;exact ρ.inj₁ _ _ _ h a;rw[a.1]at h;exact absurd h (d _);rcases a with a|a;rw[h.1]at a;exact absurd a (d _);rw[h.2,a.2]
 inj₂:=by intro b c f h a;rcases h with h|h;rcases a with a|a;exact ρ.inj₂ _ _ _ h a;rw[a.2]at h;exact absurd h (e _);rcases a with a|a;rw[h.2]at a;exact absurd a (e _);rw[h.1,a.1]
@[simp] def cR.VX (ρ:cR) (n m:Nat) (a:∀c,¬ρ.r n c) (d:∀b,¬ρ.r b m):(ρ.ext n m a d).fs=ρ.fs:=rfl
def cR.tk(ρ:cR)(n m:Nat)(a:∀c,¬ρ.r n c)(d:∀b,¬ρ.r b m):cR.Le ρ (ρ.ext n m a d):=⟨rfl,rfl,rfl,rfl,rfl,rfl,rfl,λ_ _ h=>.inl h⟩
def cR.rW(ρ:cR)(n m:Nat)(a:∀c,¬ρ.r n c)(d:∀b,¬ρ.r b m):(ρ.ext n m a d).r n m:=.inr ⟨rfl,rfl⟩
def cR.Def(ρ:cR):Prop:=∃f,ρ.df f=true
def cR.Def.mono{ρ a:cR}(b:cR.Le ρ a)(h:ρ.Def):a.Def:=by obtain⟨f,h⟩:=h;exact⟨f,b.w▸h⟩
def wM(ρ:cR)(v:ce):Prop:=ρ.Def\/∀t k n,v≠ .iface t (.int k n)
theorem wM.mono{ρ a:cR}(b:cR.Le ρ a){v:ce}(h:wM ρ v):wM a v:=h.imp (.mono b) id
inductive AR (ρ:cR):Addr->Addr->Prop
 |mk {b c:Nat} (o:Nat) (s:Option Nat) (h:ρ.r b c):AR ρ ⟨b,o,s⟩ ⟨c,o+(ρ.sh c).getD 0,s⟩
inductive VR (ρ:cR):ce->ce->Prop
 |bool (b:Bool):VR ρ (.bool b) (.bool b)
 |int (k:IntKind) (n:Int):VR ρ (.int k n) (.int k n)
 |string (s:ByteArray):VR ρ (.string s) (.string s)
 |iw:VR ρ (.pointer none) (.pointer none)
 |ptr {a a':Addr} (h:AR ρ a a'):VR ρ (.pointer (some a)) (.pointer (some a'))
 |fc (l c:Nat):VR ρ (.slice none l c) (.slice none l c)
 |slice {a a':Addr} (l c:Nat) (h:AR ρ a a'):VR ρ (.slice (some a) l c) (.slice (some a') l c)
 |qN:VR ρ (.map none) (.map none)
 |map {r r':Nat} (h:ρ.r r r'):VR ρ (.map (some r)) (.map (some r'))
 |px:VR ρ (.chan none) (.chan none)
 |chan {r r':Nat} (h:ρ.r r r'):VR ρ (.chan (some r)) (.chan (some r'))
 |func {f:cm} {fs VY cs tl:Array ce} (hS:ρ.S f=true) (h1:fs.size=VY.size) (h2:∀(i:Nat) v v',fs[i]? =some v->VY[i]? =some v'->VR ρ v v')
  (h3:cs.size=tl.size) (h4:∀(i:Nat) v v',cs[i]? =some v->tl[i]? =some v'->VR ρ v v'):VR ρ (.func (.func f) fs cs) (.func (.func f) VY tl)
 |yield {l l':Nat} (h:ρ.r l l'):VR ρ (.func (.yield l) #[] #[]) (.func (.yield l') #[] #[])
 |nilFunc:VR ρ .nilFunc .nilFunc
 |nilIface:VR ρ .nilIface .nilIface
 |iface (t:cg) {v v':ce} (h:VR ρ v v'):VR ρ (.iface t v) (.iface t v')
 |agg {cs tl:Array ce} (h1:cs.size=tl.size) (h2:∀(i:Nat) v v',cs[i]? =some v->tl[i]? =some v'->VR ρ v v'):VR ρ (.agg cs) (.agg tl)
 |tuple {cs tl:Array ce} (h1:cs.size=tl.size) (h2:∀(i:Nat) v v',cs[i]? =some v->tl[i]? =some v'->VR ρ v v'):VR ρ (.tuple cs) (.tuple tl)
 |CB (hd:ρ.dim=true) (a:Addr):VR ρ (.tuple #[]) (.pointer (some a))
structure eT(ρ:cR)(cs tl:Array ce):Prop where
 size:cs.size=tl.size
 at_:∀(i:Nat) v v',cs[i]? =some v->tl[i]? =some v'->VR ρ v v'
inductive qo (ρ:cR):List ce->List ce->Prop
 |nil:qo ρ [] []
 |cons {v v':ce} {l l':List ce} (h:VR ρ v v') (t:qo ρ l l'):qo ρ (v::l) (v'::l')
theorem qo.length{ρ:cR}{l l':List ce}(h:qo ρ l l'):l.length=l'.length:=by
 induction h with
 |nil=>rfl
 |cons _ _ a=>simp[a]
def qo.get{ρ:cR}{l l':List ce}(h:qo ρ l l'):∀(i:Nat) v a,l[i]? =some v->l'[i]? =some a->VR ρ v a:=by
 induction h with
 |nil=>intro i v a h;simp at h
 |cons h t d=>
  intro i v a b c;cases i with
  |zero=>simp at b c;subst b;subst c;exact h
  |succ i=>simp at b c;exact d i v a b c
theorem qo.of{ρ:cR}:∀{l l':List ce},l.length=l'.length->(∀(i:Nat) v a,l[i]? =some v->l'[i]? =some a->VR ρ v a)->qo ρ l l'
 |[],[],_,_=>.nil
 |[],_::_,h,_=>by simp at h
 |_::_,[],h,_=>by simp at h
 |v::l,a::l',h,k=>.cons (k 0 v a rfl rfl) (qo.of (by simpa using h) λi x b c d=>k (i+1) x b (by simpa using c) (by simpa using d))
def eT.list{ρ:cR}{cs a:Array ce}(h:eT ρ cs a):qo ρ cs.toList a.toList:=
 qo.of (by simpa using h.size) λi v b c d=>h.at_ i v b (by simpa using c) (by simpa using d)
def qo.array{ρ:cR}{l l':List ce}(h:qo ρ l l'):eT ρ l.toArray l'.toArray:=
 ⟨by simpa using h.length,λi v a b c=>h.get i v a (by simpa using b) (by simpa using c)⟩
def eT.mh{ρ:cR}{cs a:Array ce}(h:qo ρ cs.toList a.toList):eT ρ cs a:=by have:=h.array;simpa using this
def qo.append{ρ:cR}{a c b d:List ce}(h:qo ρ a c)(k:qo ρ b d):qo ρ (a++b) (c++d):=by
 induction h with
 |nil=>exact k
 |cons h _ e=>exact .cons h e
theorem qo.drop{ρ:cR}{a b:List ce}(h:qo ρ a b)(n:Nat):qo ρ (a.drop n) (b.drop n):=by
 induction h generalizing n with
 |nil=>simp;exact .nil
 |cons h t c=>
  cases n with
  |zero=>simpa using qo.cons h t
  |succ n=>simpa using c n
theorem qo.take{ρ:cR}{a b:List ce}(h:qo ρ a b)(n:Nat):qo ρ (a.take n) (b.take n):=by
 induction h generalizing n with
 |nil=>simp;exact .nil
 |cons h t c=>
  cases n with
  |zero=>simp;exact .nil
  |succ n=>simpa using qo.cons h (c n)
def VR.mono{ρ f:cR}(e:cR.Le ρ f){v m:ce}(h:VR ρ v m):VR f v m:=by
 have p:∀{a q},AR ρ a q->AR f a q:=λh=>by cases h with|mk o s h=>rw[e.g];exact .mk o s (e.r _ _ h)
 induction h with
 |bool b=>exact .bool b
 |int k n=>exact .int k n
 |string s=>exact .string s
 |iw=>exact .iw
 |ptr h=>exact .ptr (p h)
 |fc l c=>exact .fc l c
 |slice l c h=>exact .slice l c (p h)
 |qN=>exact .qN
 |map h=>exact .map (e.r _ _ h)
 |px=>exact .px
 |chan h=>exact .chan (e.r _ _ h)
 |func u i _ w _ j x=>exact .func (e.s▸u) i j w x
 |yield h=>exact .yield (e.r _ _ h)
 |nilFunc=>exact .nilFunc
 |nilIface=>exact .nilIface
 |iface t _ y=>exact .iface t y
 |agg i _ j=>exact .agg i j
 |tuple i _ j=>exact .tuple i j
 |CB z a=>exact .CB (e.d▸z) a
theorem eT.mono{ρ c:cR}(d:cR.Le ρ c){v e:Array ce}(h:eT ρ v e):eT c v e:=⟨h.size,λi x f a b=>(h.at_ i x f a b).mono d⟩
theorem qo.mono{ρ a:cR}(b:cR.Le ρ a){v c:List ce}(h:qo ρ v c):qo a v c:=by
 induction h with
 |nil=>exact .nil
 |cons h _ d=>exact .cons (h.mono b) d
def AR.mono{ρ b:cR}(c:cR.Le ρ b){a d:Addr}(h:AR ρ a d):AR b a d:=by cases h with|mk o s h=>rw[c.g];exact .mk o s (c.r _ _ h)
section
variable{ρ:cR}
theorem AR.add{a b:Addr}(h:AR ρ a b)(n:Nat):AR ρ (a.add n) (b.add n):=by
 cases h with
 |mk o s h=>
  unfold Addr.add;split;exact .mk o s h;have:=AR.mk (ρ:=ρ) (o+n) none h;rw[Nat.add_right_comm]at this;exact this
def AR.of{b c:Nat}(o:Nat)(s:Option Nat)(h:ρ.r b c)(a:ρ.sh c=none):AR ρ ⟨b,o,s⟩ ⟨c,o,s⟩:=by have:=AR.mk (ρ:=ρ) o s h;rwa[a]at this
theorem VR.undef:VR ρ undef undef:=.tuple rfl (λi v a h=>by simp at h)
def eT.nil:eT ρ #[] #[]:=⟨rfl,λi v a h=>by simp at h⟩
def eT.one{v a:ce}(h:VR ρ v a):eT ρ #[v] #[a]:=eT.mh (.cons h .nil)
def eT.L9{a c b d:ce}(h:VR ρ a c)(k:VR ρ b d):eT ρ #[a,b] #[c,d]:=eT.mh (.cons h (.cons k .nil))
theorem eT.push{cs a:Array ce}{v b:ce}(h:eT ρ cs a)(k:VR ρ v b):eT ρ (cs.push v) (a.push b):=
 eT.mh (by simpa using h.list.append (.cons k .nil))
theorem eT.append{a c b d:Array ce}(h:eT ρ a c)(k:eT ρ b d):eT ρ (a++b) (c++d):=
 eT.mh (by simpa using h.list.append k.list)
def eT.get?{cs a:Array ce}(h:eT ρ cs a)(i:Nat):(cs[i]? =none/\a[i]? =none)\/∃v d,cs[i]? =some v/\a[i]? =some d/\VR ρ v d:=by by_cases c:i<cs.size;have b:i<a.size:=h.size▸c;exact .inr ⟨cs[i],a[i],ji c,ji b,h.at_ i _ _ (ji c) (ji b)⟩;have b:¬i<a.size:=h.size▸c;exact .inl ⟨mO (by omega),mO (by omega)⟩
theorem eT.getD{cs f:Array ce}{d g:ce}(h:eT ρ cs f)(k:VR ρ d g)(i:Nat):VR ρ (cs.getD i d) (f.getD i g):=by
 have e:∀(a:Array ce) (d:ce),a.getD i d=(a[i]?).getD d:=λa d=>by simp[yq]
 rw[e,e];rcases h.get? i with⟨a,b⟩|⟨v,j,a,b,c⟩;rw[a,b];exact k;rw[a,b];exact c
def eT.set{cs c:Array ce}{v e:ce}(h:eT ρ cs c)(i:Nat)(k:VR ρ v e):eT ρ (cs.setIfInBounds i v) (c.setIfInBounds i e):=by refine⟨by simpa using h.size,λj x f a b=>?_⟩;rw[Array.getElem?_setIfInBounds]at a b;by_cases d:i=j;subst d;rw[cx rfl]at a b;split at a;split at b;cases a;cases b;exact k;cases b;cases a;rw[cr d]at a b;exact h.at_ j x f a b
theorem eT.replicate(n:Nat){v c:ce}(k:VR ρ v c):eT ρ (Array.replicate n v) (Array.replicate n c):=by refine⟨by simp,λj x d a b=>?_⟩;rw[ue]at a b;split at a;cases a;rename_i h;rw[cx h]at b;cases b;exact k;cases a
theorem eT.extract{cs c:Array ce}(h:eT ρ cs c)(a b:Nat):eT ρ (cs.extract a b) (c.extract a b):=by refine⟨by simp[h.size],λj x f d e=>?_⟩;rw[Array.getElem?_extract]at d e;split at d;split at e;exact h.at_ _ _ _ d e;cases e;cases d
theorem eT.map{α:Type}(f f':α->ce)(xs:Array α)(h:∀x∈xs,VR ρ (f x) (f' x)):eT ρ (xs.map f) (xs.map f'):=by refine⟨by simp,λj x d b a=>?_⟩;rw[qF]at b a;obtain⟨y,c,rfl⟩:=ij.1 b;rw[c]at a;cases a;exact h y (l7 c)
theorem VR.cells{v a:ce}(h:VR ρ v a):eT ρ v.cells a.cells:=by
 cases h<;>first
  |exact eT.one (by first|exact .bool _|exact .int _ _|exact .string _|exact .iw|exact .ptr ‹_›|exact .fc _ _|exact .slice _ _ ‹_›|exact .qN|exact .map ‹_›|exact .px|exact .chan ‹_›|exact .func ‹_› ‹_› ‹_› ‹_› ‹_›|exact .yield ‹_›|exact .nilFunc|exact .nilIface|exact .iface _ ‹_›|exact .tuple ‹_› ‹_›|exact .CB ‹_› _)
  |exact⟨‹_›,‹_›⟩
theorem eT.agg{cs a:Array ce}(h:eT ρ cs a):VR ρ (.agg cs) (.agg a):=.agg h.size h.at_
def eT.Xv{cs a:Array ce}(h:eT ρ cs a):VR ρ (.tuple cs) (.tuple a):=.tuple h.size h.at_
end
structure tn(ρ:cR)(e e':MapEntry):Prop where
 key:VR ρ e.key e'.key
 val:VR ρ e.val e'.val
 born:e.born=e'.born
structure DY(ρ:cR)(l l':Loop):Prop where
 state:l.state=l'.state
 pending:l.pending=l'.pending
 fn:l.fn=l'.fn
 tmps:eT ρ l.tmps l'.tmps
 params:l.params=l'.params
 assign:l.assign=l'.assign
 body:l.body=l'.body
 defers:ρ.r l.defers l'.defers
 fnS:ρ.S l.fn=true
 okA:ρ.ok l.fn l.assign=true
 okB:ρ.ok l.fn l.body=true
 okP:∀c,l.pending=some c->∀f,ρ.ok f c=true
 hd:ρ.df l.fn=false
 fnH:ρ.hole l.fn=false
def DZ(b:Nat×Nat)(a:Nat):Prop:=b.1<=a/\a<b.2
inductive jJ (ρ:cR):Obj->Obj->Prop
 |cells {cs tl:Array ce} {t:cg} {fz Vq:Nat×Nat} (h:eT ρ cs tl) (hf:∀off,DZ Vq off->DZ fz off):jJ ρ (.cells cs t fz) (.cells tl t Vq)
 |map {es Pa:Array MapEntry} {c:Nat} (h1:es.size=Pa.size) (h2:∀(i:Nat) e e',es[i]? =some e->Pa[i]? =some e'->tn ρ e e'):jJ ρ (.map es c) (.map Pa c)
 |loop {l l':Loop} (h:DY ρ l l'):jJ ρ (.loop l) (.loop l')
 |uh:jJ ρ (.deferred (some [])) (.deferred (some []))
 |taken:jJ ρ (.deferred none) (.deferred none)
 |number {a a':Addr} (l:Bool) (h:AR ρ a a'):jJ ρ (.number a l) (.number a' l)
theorem tn.mono{ρ a:cR}(b:cR.Le ρ a){e c:MapEntry}(h:tn ρ e c):tn a e c:=⟨h.key.mono b,h.val.mono b,h.born⟩
theorem DY.mono{ρ b:cR}(a:cR.Le ρ b){e c:Loop}(h:DY ρ e c):DY b e c:=
 ⟨h.state,h.pending,h.fn,h.tmps.mono a,h.params,h.assign,h.body,a.r _ _ h.defers,a.s▸h.fnS,a.o▸h.okA,a.o▸h.okB,a.o▸h.okP,a.w▸h.hd,a.h▸h.fnH⟩
theorem jJ.mono{ρ d:cR}(c:cR.Le ρ d){o o':Obj}(h:jJ ρ o o'):jJ d o o':=by
 cases h with
 |cells h f=>exact .cells (h.mono c) f
 |map g j=>exact .map g λi e k a b=>(j i e k a b).mono c
 |loop h=>exact .loop (h.mono c)
 |uh=>exact .uh
 |taken=>exact .taken
 |number l h=>exact .number l (h.mono c)
def qO:cg:=1000000007
structure T5(ρ:cR)(n:Nat)(o o':Obj):Prop where
 out:∃cs fz tl t' Vq,o=.cells cs qO fz/\o'=.cells tl t' Vq/\(∀off,off<cs.size->DZ fz off)/\∀(i:Nat) x,cs[i]? =some x->∃x',tl[i+n]? =some x'/\VR ρ x x'
def GJ(ρ:cR)(m:Option Nat)(o o':Obj):Prop:=(m=none/\jJ ρ o o')\/∃n,m=some n/\T5 ρ n o o'
theorem T5.mono{ρ a:cR}(b:cR.Le ρ a){n:Nat}{o o':Obj}(h:T5 ρ n o o'):T5 a n o o':=by obtain⟨e,f,c,g,d,j,k,l,m⟩:=h.out;exact⟨e,f,c,g,d,j,k,l,λi x p=>by obtain⟨q,r,s⟩:=m i x p;exact⟨q,r,s.mono b⟩⟩
theorem GJ.mono{ρ a:cR}(b:cR.Le ρ a){n:Option Nat}{o o':Obj}(h:GJ ρ n o o'):GJ a n o o':=h.imp (λx=>⟨x.1,x.2.mono b⟩) λ⟨n,e,x⟩=>⟨n,e,x.mono b⟩
structure HR(ρ:cR)(v u:cd):Prop where
 obj:∀b c,ρ.r b c->∃o o',v.heap[b]? =some o/\u.heap[c]? =some o'/\GJ ρ (ρ.sh c) o o'
 low:∀c,u.heap.size<=c->ρ.sh c=none
def HR.of{ρ:cR}{v u:cd}(a:∀c,ρ.sh c=none)(h:∀b c,ρ.r b c->∃o o',v.heap[b]? =some o/\u.heap[c]? =some o'/\jJ ρ o o'):HR ρ v u:=⟨λb c d=>by obtain⟨o,o',e,f,g⟩:=h b c d;exact⟨o,o',e,f,.inl ⟨a c,g⟩⟩,λc _=>a c⟩
structure WR(ρ:cR)(v u:cd):Prop where
 obj:∀b c,ρ.r b c->∃o o',v.heap[b]? =some o/\u.heap[c]? =some o'/\GJ ρ (ρ.sh c) o o'
 low:∀c,u.heap.size<=c->ρ.sh c=none
 tape:∀j q,v.tape (v.drawn+j) q=u.tape (u.drawn+j) q
def WR.hr{ρ:cR}{v u:cd}(h:WR ρ v u):HR ρ v u:=⟨h.obj,h.low⟩
def lt_of_heap{w:cd}{b:Nat}{o:Obj}(h:w.heap[b]? =some o):b<w.heap.size:=(eP.1 h).1
def wN(v:cd)(b:Nat):Prop:=∃c t d,v.heap[b]? =some (.cells c t d)/\∀a,a<c.size->DZ d a
def VZ(ρ:cR)(v:cd)(n m:Nat)(e:Event):Prop:=
 (∃a c b,e=⟨.cell a,c,false⟩/\ρ.r b a.block/\(∃d t f,v.heap[b]? =some (.cells d t f)/\d≠#[])/\(c=true->¬wN v b))\/
 (∃r c b,e=⟨.obj r,c,false⟩/\ρ.r b r/\¬wN v b)\/(∃a c,e=⟨.cell a,c,false⟩/\n<=a.block/\a.block<m)\/(∃r c,e=⟨.obj r,c,false⟩/\n<=r/\r<m)\/
 e=⟨.mark .noRoom,false,true⟩
structure fe(ρ mV:cR)(v u v' u':cd)(es:Array Event):Prop where
 le:cR.Le ρ mV
 rel:WR mV v' u'
 vsize:v.heap.size<=v'.heap.size
 usize:u.heap.size<=u'.heap.size
 fresh:∀b c,mV.r b c->ρ.r b c\/(v.heap.size<=b/\u.heap.size<=c)
 same:∀c,c<u.heap.size->(∀b,ρ.r b c->wN v b)->u'.heap[c]? =u.heap[c]?
 tX:∀b,wN v b->v'.heap[b]? =v.heap[b]?
 warm:∀b,b<v.heap.size->wN v' b->wN v b
 rows:∀b,b<v.heap.size->(∃cs t fz,v'.heap[b]? =some (.cells cs t fz)/\cs≠#[])->∃cs t fz,v.heap[b]? =some (.cells cs t fz)/\cs≠#[]
 tape:u'.tape=u.tape
 os:u'.os=u.os
 output:u'.output=u.output
 vtape:v'.tape=v.tape
 evs:∀e∈es,VZ ρ v u.heap.size u'.heap.size e
def wN.keep{v a:cd}{b:Nat}(h:wN v b)(k:a.heap[b]? =v.heap[b]?):wN a b:=by unfold wN at*;rwa[k]
def wN.lt{v:cd}{b:Nat}(h:wN v b):b<v.heap.size:=by obtain⟨_,_,_,h,_⟩:=h;exact lt_of_heap h
theorem fe.refl{ρ:cR}{v u:cd}(h:WR ρ v u):fe ρ ρ v u v u #[]:=
 ⟨.refl _,h,cz _,cz _,λ_ _ h=>.inl h,λ_ _ _=>rfl,λ_ _=>rfl,λ_ _ h=>h,λ_ _ h=>h,rfl,rfl,rfl,rfl,λe a=>by simp at a⟩
theorem fe.trans{ρ i l:cR}{v u C H t p:cd}{es w:Array Event}(J:WR ρ v u)(h:fe ρ i v u C H es)(k:fe i l C H t p w):fe ρ l v u t p (es++w):=by
 have D:∀b c,i.r b c->c<u.heap.size->ρ.r b c:=λb c d y=>(h.fresh b c d).elim id λx=>by omega
 have I:∀b c,i.r b c->b<v.heap.size->ρ.r b c:=λb c d y=>(h.fresh b c d).elim id λx=>by omega
 refine⟨h.le.trans k.le,k.rel,cJ h.vsize k.vsize,cJ h.usize k.usize,λb c d=>?_,λc y g=>?_,λb m=>?_,λb m g=>?_,λb m K=>h.rows b m (k.rows b (dl m h.vsize) K),k.tape.trans h.tape,k.os.trans h.os,k.output.trans h.output,
  k.vtape.trans h.vtape,λe z=>?_⟩
 rcases k.fresh b c d with j|⟨j,B⟩;exact h.fresh b c j;exact .inr ⟨cJ h.vsize j,cJ h.usize B⟩;rw[k.same c (dl y h.usize) λb d=>?_,h.same c y g];have A:=g b (D b c d y);exact A.keep (h.tX b A);have:=h.tX b m;rw[k.tX b (m.keep this),this];exact h.warm b m (k.warm b (dl m h.vsize) g);rcases DV.1 z with z|z;rcases h.evs e z with⟨a,f,b,rfl,d,E,g⟩|⟨r,f,b,rfl,d,g⟩|⟨a,f,rfl,q,s⟩|⟨r,f,rfl,q,s⟩|rfl;exact .inl ⟨a,f,b,rfl,d,E,g⟩;exact .inr (.inl ⟨r,f,b,rfl,d,g⟩);exact .inr (.inr (.inl ⟨a,f,rfl,q,dl s k.usize⟩));exact .inr (.inr (.inr (.inl ⟨r,f,rfl,q,dl s k.usize⟩)));exact .inr (.inr (.inr (.inr rfl)));have n:∀b,¬wN C b->¬wN v b:=λb F g=>F (g.keep (h.tX b g))
 have split:∀b c,i.r b c->(ρ.r b c/\b<v.heap.size)\/(u.heap.size<=c/\c<p.heap.size):=λb c d=>(h.fresh b c d).elim (λx=>.inl ⟨x,by
  obtain⟨o,_,G,_⟩:=J.obj b c x;exact lt_of_heap G⟩) λx=>.inr ⟨x.2,by
  obtain⟨_,o,_,G,_⟩:=h.rel.obj b c d;exact dl (lt_of_heap G) k.usize⟩
 rcases k.evs e z with⟨a,f,b,rfl,d,E,g⟩|⟨r,f,b,rfl,d,g⟩|⟨a,f,rfl,q,s⟩|⟨r,f,rfl,q,s⟩|rfl;rcases split _ _ d with⟨j,B⟩|j;exact .inl ⟨a,f,b,rfl,j,h.rows b B E,λx=>n b (g x)⟩;exact .inr (.inr (.inl ⟨a,f,rfl,j⟩));rcases split _ _ d with⟨j,B⟩|j;exact .inr (.inl ⟨r,f,b,rfl,j,n b g⟩);exact .inr (.inr (.inr (.inl ⟨r,f,rfl,j⟩)));exact .inr (.inr (.inl ⟨a,f,rfl,cJ h.usize q,s⟩));exact .inr (.inr (.inr (.inl ⟨r,f,rfl,cJ h.usize q,s⟩)));exact .inr (.inr (.inr (.inr rfl)))
abbrev _root_.Go.Program.ir(P:cf)(fs:Array Func):cf:={toTables:=P.toTables,funcs:=fs}
def _root_.Go.Halt.dead:Halt->Bool
 | .stuck _=>true
 | .unsupported (.initOrder _)=>false
 | .unsupported _=>true
 |_=>false
inductive SR (P:cf) {α β:Type} (A:cR->α->β->Prop):cR->Sem α->Sem β->Prop
 |pure {ρ:cR} {a:α} {b:β} (h:A ρ a b):SR P A ρ (.pure a) (.pure b)
 |load {ρ:cR} {a a':Addr} {k:ce->Sem α} {k':ce->Sem β} (ha:AR ρ a a') (h:∀v v',VR ρ v v'->SR P A ρ (k v) (k' v')):SR P A ρ (.load .plain a k) (.load .plain a' k')
 |store {ρ:cR} {a a':Addr} {v v':ce} {k:Sem α} {k':Sem β} (ha:AR ρ a a') (hv:VR ρ v v') (h:SR P A ρ k k'):SR P A ρ (.store .plain a v k) (.store .plain a' v' k')
 |new {ρ:cR} {o o':Obj} {k:Nat->Sem α} {k':Nat->Sem β} (ho:jJ ρ o o') (h:∀n n' hn hm,ρ.sh n'=none->SR P A (ρ.ext n n' hn hm) (k n) (k' n')):SR P A ρ (.new o k) (.new o' k')
 |getObj {ρ:cR} {r r':Nat} {k:Obj->Sem α} {k':Obj->Sem β} (hr:ρ.r r r') (h:∀o o',jJ ρ o o'->(∀cs t fz,o≠ .cells cs t fz)->SR P A ρ (k o) (k' o')):
  SR P A ρ (.getObj r k) (.getObj r' k')
 |setObj {ρ:cR} {r r':Nat} {o o':Obj} {k:Sem α} {k':Sem β} (hr:ρ.r r r') (ho:jJ ρ o o') (hc:∀cs t fz,o≠ .cells cs t fz) (h:SR P A ρ k k'):SR P A ρ (.setObj r o k) (.setObj r' o' k')
 |shape {ρ:cR} {r r':Nat} {k:Option (cg×Nat)->Sem α} {k':Option (cg×Nat)->Sem β} (hr:ρ.r r r') (h:ρ.sh r'=none->∀x,SR P A ρ (k x) (k' x)) (hb:ρ.sh r'≠none->∀m y,SR P A ρ (k (some (qO,m))) (k' (some y))):SR P A ρ (.shape r k) (.shape r' k')
 |choose {ρ:cR} {q:Question} {k:Nat->Sem α} {k':Nat->Sem β} (h:∀n,SR P A ρ (k n) (k' n)):SR P A ρ (.choose q k) (.choose q k')
 |program {ρ:cR} {k:cf->Sem α} {k':cf->Sem β} (h:SR P A ρ (k P) (k' (P.ir ρ.fs))):SR P A ρ (.program k) (.program k')
 |noRoom {ρ:cR} {k:Sem α} {k':Sem β} (h:SR P A ρ k k'):SR P A ρ (.mark .noRoom k) (.mark .noRoom k')
 |panic {ρ:cR} {v v':ce} (h:VR ρ v v') (hp:wM ρ v):SR P A ρ (.halt (.panic v)) (.halt (.panic v'))
 |dead {ρ:cR} {h:Halt} {s:Sem β} (hd:Halt.dead h=true):SR P A ρ (.halt h) s
 |never {ρ:cR} {s:Sem α} {s':Sem β} (h:∀w,∃hh w',s.run P w=.halt hh w'/\Halt.dead hh=true):SR P A ρ s s'
theorem SR.bind{P:cf}{α l z C:Type}{A:cR->α->l->Prop}{B:cR->z->C->Prop}{ρ:cR}{s:Sem α}{s':Sem l}{f:α->Sem z}{f':l->Sem C}(h:SR P A ρ s s') (k:∀d a b,cR.Le ρ d->A d a b->SR P B d (f a) (f' b)):SR P B ρ (s.bind f) (s'.bind f'):=by
 induction h with
 |pure h=>exact k _ _ _ (.refl _) h
 |load p _ c=>exact .load p λv F q=>c v F q k
 |store p q _ c=>exact .store p q (c k)
 |new g _ c=>exact .new g λn G D E i=>c n G D E i λd a b r=>k d a b ((cR.tk _ _ _ D E).trans r)
 |getObj j _ c=>exact .getObj j λo H g t=>c o H g t k
 |setObj j g t _ c=>exact .setObj j g t (c k)
 |shape j _ _ c I=>exact .shape j (λi x=>c i x k) λi m y=>I i m y k
 |choose _ c=>exact .choose λn=>c n k
 |program _ c=>exact .program (c k)
 |noRoom _ c=>exact .noRoom (c k)
 |panic h J=>exact .panic h J
 |dead u=>exact .dead u
 | @never ρ s s' h=>
  refine .never λw=>?_;obtain⟨K,L,e,u⟩:=h w;exact⟨K,L,by rw[Sem.run_bind',e];rfl,u⟩
def lX{α i:Type}(A:cR->α->i->Prop)(ρ:cR)(v u:cd)(r:Result α×Array Event)(r':Result i×Array Event)(e:Array Event):Prop:=
 match r.1 with
 | .ok a g=>∃b f c d,r'=(.ok b f,e++d)/\A c a b/\fe ρ c v u g f d
 | .halt (.panic x) g=>∃j f c d,r'=(.halt (.panic j) f,e++d)/\(VR c x j/\wM c x)/\fe ρ c v u g f d
 | .halt h _=>h.dead=true
theorem lX.dead{α b:Type}{A:cR->α->b->Prop}{ρ:cR}{v u w:cd}{h:Halt}(c:h.dead=true){es:Array Event}{r':Result b×Array Event}{a:Array Event}:lX (α:=α) A ρ v u (.halt h w,es) r' a:=by unfold lX;cases h<;>first|exact c|cases c
def lX.step{α n:Type}{A:cR->α->n->Prop}{ρ f:cR}{v u o p:cd}{r:Result α×Array Event}{r':Result n×Array Event}{e1 g:Array Event}(q:WR ρ v u) (m:fe ρ f v u o p e1)(h:lX A f o p r r' (g++e1)):lX A ρ v u r r' g:=by
 unfold lX at*;split;rename_i a w c;rw[c]at h;obtain⟨b,j,d,e,i,k,l⟩:=h;exact⟨b,j,d,e1++e,by rw[i,Array.append_assoc],k,m.trans q l⟩;rename_i x w c;rw[c]at h;obtain⟨b,j,d,e,i,k,l⟩:=h;exact⟨b,j,d,e1++e,by rw[i,Array.append_assoc],k,m.trans q l⟩
 ·rename_i c;rw[c]at h;split at h<;>first|exact h|(rename_i i;cases i;cases‹_›)|skip
  all_goals simp_all
section
variable{ρ:cR}{v u:cd}
def uj{P:cf}{a:Addr}{at_:Bool}(c:∀x y,v.heap[a.block]?≠some (.view x y))(d:∀x y,v.heap[a.block]?≠some (.pending x y)):∃h,v.farLoad P a at_=.error h/\h.dead=true:=by unfold World.farLoad;split;rename_i x y b;exact absurd b (c _ _);refine⟨_,rfl,?_⟩;unfold World.noCell;split;rename_i b;exact absurd b (d _ _);rfl;rfl
def sQ{P:cf}{a:Addr}{x:ce}{at_:Bool}(c:∀x y,v.heap[a.block]?≠some (.view x y))(d:∀x y,v.heap[a.block]?≠some (.pending x y)):∃h,v.farStore P a x at_=.error h/\h.dead=true:=by unfold World.farStore;split;rename_i x y b;exact absurd b (c _ _);refine⟨_,rfl,?_⟩;unfold World.noCell;split;rename_i b;exact absurd b (d _ _);rfl;rfl
def WR.noView(h:WR ρ v u){b c:Nat}(f:ρ.r b c):∀x y,v.heap[b]?≠some (.view x y):=by intro x y g;obtain⟨o,i,d,_,a⟩:=h.obj b c f;rw[g]at d;cases d;rcases a with⟨_,a⟩|⟨_,_,_,_,_,_,_,e,_⟩;cases a;cases e
def WR.noPending(h:WR ρ v u){b c:Nat}(f:ρ.r b c):∀x y,v.heap[b]?≠some (.pending x y):=by intro x y g;obtain⟨o,i,d,_,a⟩:=h.obj b c f;rw[g]at d;cases d;rcases a with⟨_,a⟩|⟨_,_,_,_,_,_,_,e,_⟩;cases a;cases e
def WR.cell(h:WR ρ v u){a i:Addr}(l:AR ρ a i){x:ce}(d:v.cell? a=some x):∃j,u.cell? i=some j/\VR ρ x j:=by
 cases l with
 | @mk b c o s m=>
  obtain⟨E,p,q,k,e⟩:=h.obj b c m;simp only[World.cell?,q]at d;rcases e with⟨r,e⟩|⟨n,t,F,G,w,H,z,rfl,rfl,A,f⟩;case inr=>
   simp only[World.cell?,k];cases s with
   |some s=>simp at d
   |none=>
    simp only[tj,iq,eo]at d⊢;rw[t];exact f o x d
  rw[r,Option.getD_none,mT];cases e with
  |cells f I=>
   simp only[World.cell?,k];cases s with
   |some s=>simp at d
   |none=>
    simp only[tj,iq,eo]at d⊢;rcases f.get? o with⟨g,_⟩|⟨y,B,g,C,D⟩;rw[g]at d;cases d;rw[g]at d;cases d;exact⟨B,C,D⟩
  |_=>cases d
def WR.shape(h:WR ρ v u){r r':Nat}(b:ρ.r r r'):(ρ.sh r'=none/\v.shape? r=u.shape? r')\/ρ.sh r'≠none/\∃m y,v.shape? r=some (qO,m)/\u.shape? r'=some y:=by
 obtain⟨o,k,c,d,a⟩:=h.obj r r' b;simp only[World.shape?,c,d];rcases a with⟨e,a⟩|⟨n,f,l,p,g,q,i,rfl,rfl,j,s⟩;refine .inl ⟨e,?_⟩;cases a with
 |cells h _=>simp[h.size]
 |_=>rfl
 exact .inr ⟨by rw[f];simp,_,_,rfl,rfl⟩
def WR.draw(h:WR ρ v u):WR ρ {v with drawn:=v.drawn+1} {u with drawn:=u.drawn+1}:=
 ⟨h.obj,h.low,λj q=>by have:=h.tape (1+j) q;simpa[yz]using this⟩
theorem fe.draw(h:WR ρ v u):fe ρ ρ v u {v with drawn:=v.drawn+1} {u with drawn:=u.drawn+1} #[]:=
 ⟨.refl _,h.draw,cz _,cz _,λ_ _ h=>.inl h,λ_ _ _=>rfl,λ_ _=>rfl,λ_ _ h=>h,λ_ _ h=>h,rfl,rfl,rfl,rfl,λe a=>by simp at a⟩
def fe.So{a:cR}{c b:cd}{es:Array Event}(m:fe ρ a v u c b #[])(h:∀e∈es,VZ ρ v u.heap.size b.heap.size e):fe ρ a v u c b es:=
 ⟨m.le,m.rel,m.vsize,m.usize,m.fresh,m.same,m.tX,m.warm,m.rows,m.tape,m.os,m.output,m.vtape,h⟩
def heap_setCell(w:cd)(a:Addr)(x:ce)(b:Nat):(w.setCell a x).heap[b]? =if b=a.block then(w.heap[b]?).map (λ
 | .cells c f d=>.cells (if a.spot.isSome then c else c.setIfInBounds a.off x) f d
 |o=>o)else w.heap[b]? :=by
 simp only[World.setCell,sL];by_cases h:a.block=b;subst h;simp only[cX];congr 1;rw[cr h,cr (λe=>h e.symm)]
def fe.store(h:WR ρ v u){a H:Addr}(W:AR ρ a H){x I y:ce}(X:VR ρ x I)(m:v.cell? a=some y)(J:v.frozen? a=false):u.frozen? H=false/\fe ρ ρ v u (v.setCell a x) (u.setCell H I) #[⟨.cell H,true,false⟩]:=by
 cases W with
 | @mk b c o s B=>
  obtain⟨ob,Y,p,Q,K⟩:=h.obj b c B;simp only[World.cell?,p]at m;rcases K with⟨R,K⟩|⟨n,hn,z,A,C,t',q,rfl,rfl,L,S⟩;case inr=>
   exfalso;cases s with
   |some s=>simp at m
   |none=>
    simp only[tj,iq,eo]at m;have g:=L o (eP.1 m).1;simp only[World.frozen?,p]at J;simp[g.1,g.2]at J
  rw[R,Option.getD_none,mT];cases K with
  | @cells z C t A q S T=>
   cases s with
   |some s=>simp at m
   |none=>
    simp only[tj,iq,eo]at m;have r:o<z.size:=(eP.1 m).1;have D:¬DZ A o:=by intro g;simp only[World.frozen?,p]at J;simp[g.1,g.2]at J
    have E:¬DZ q o:=λg=>D (T o g);have i:¬wN v b:=by rintro⟨_,_,_,e,d⟩;rw[p]at e;cases e;exact D (d o r)
    have F:∀j,(v.setCell ⟨b,o,none⟩ x).heap[j]? =if j=b then some (.cells (z.setIfInBounds o x) t A)else v.heap[j]? :=by intro j;rw[heap_setCell];by_cases f:j=b;subst f;simp[p];simp[f]
    have U:∀l,(u.setCell ⟨c,o,none⟩ I).heap[l]? =if l=c then some (.cells (C.setIfInBounds o I) t q)else u.heap[l]? :=by intro l;rw[heap_setCell];by_cases f:l=c;subst f;simp[Q];simp[f]
    refine⟨?_,.refl _,⟨λj l w=>?_,λl M=>h.low l (by simpa[World.setCell]using M),h.tape⟩,by simp[World.setCell],by simp[World.setCell],λ_ _ h=>.inl h,λl _ Z=>?_,λj k=>?_,λj _ k=>?_,λj _ k=>?_,rfl,rfl,rfl,rfl,?_⟩;simp only[World.frozen?,Q];simp only[DZ]at E;simp;omega;rw[F,U];by_cases f:j=b;subst f;obtain rfl:=ρ.inj₁ _ _ _ B w;rw[cx rfl,cx rfl];exact⟨_,_,rfl,rfl,.inl ⟨R,.cells (S.set o X) T⟩⟩;have G:l≠c:=λe=>f (ρ.inj₂ _ _ _ w (e▸B));rw[cr f,cr G];exact h.obj j l w;rw[U];by_cases f:l=c;subst f;exact absurd (Z b B) i;rw[cr f];rw[F];by_cases f:j=b;subst f;exact absurd k i;rw[cr f];by_cases f:j=b;subst f;obtain⟨_,_,_,e,d⟩:=k;rw[F,cx rfl]at e;cases e;exact⟨z,t,A,p,by simpa using d⟩;obtain⟨N,O,P,e,d⟩:=k;rw[F,cr f]at e;exact⟨N,O,P,e,d⟩;by_cases f:j=b;subst f;exact⟨z,t,A,p,λe=>by subst e;simp at r⟩;obtain⟨N,O,P,e,d⟩:=k;rw[F,cr f]at e;exact⟨N,O,P,e,d⟩;intro e V;simp at V;subst V;exact .inl ⟨⟨c,o,none⟩,true,b,rfl,B,⟨z,t,A,p,λe=>by subst e;simp at r⟩,λ_=>i⟩
  |_=>cases m
def mH(w:cd)(o:Obj)(b:Nat):({w with heap:=w.heap.push o}:cd).heap[b]? =if b=w.heap.size then some o else w.heap[b]? :=by simp only[qG]
def WR.V0(h:WR ρ v u){b c:Nat}(a:ρ.r b c):b<v.heap.size:=let⟨_,_,d,_,_⟩:=h.obj b c a;lt_of_heap d
def WR.TP(h:WR ρ v u){b c:Nat}(a:ρ.r b c):c<u.heap.size:=let⟨_,_,_,d,_⟩:=h.obj b c a;lt_of_heap d
def WR.Sq(h:WR ρ v u):∀c,¬ρ.r v.heap.size c:=λ_ a=>Nat.lt_irrefl _ (h.V0 a)
def WR.Ss(h:WR ρ v u):∀b,¬ρ.r b u.heap.size:=λ_ a=>Nat.lt_irrefl _ (h.TP a)
def fe.new(h:WR ρ v u){o o':Obj}(m:jJ ρ o o'):fe ρ (ρ.ext v.heap.size u.heap.size h.Sq h.Ss) v u {v with heap:=v.heap.push o} {u with heap:=u.heap.push o'} #[]:=by refine⟨cR.tk _ _ _ _ _,⟨λb c d=>?_,λc g=>h.low c (by simp at g;omega),h.tape⟩,by simp,by simp,λb c d=>?_,λc g _=>?_,λb f=>?_,λb f i=>?_,λb f i=>?_,rfl,rfl,rfl,rfl,λe n=>by simp at n⟩;rw[mH,mH];rcases d with d|⟨rfl,rfl⟩;rw[cr (Nat.ne_of_lt (h.V0 d)),cr (Nat.ne_of_lt (h.TP d))];obtain⟨x,p,q,r,s⟩:=h.obj b c d;exact⟨x,p,q,r,s.mono (cR.tk _ _ _ _ _)⟩;rw[cx rfl,cx rfl];exact⟨_,_,rfl,rfl,.inl ⟨h.low _ (cz _),m.mono (cR.tk _ _ _ _ _)⟩⟩;rcases d with d|⟨rfl,rfl⟩;exact .inl d;exact .inr ⟨cz _,cz _⟩;rw[mH,cr (Nat.ne_of_lt g)];rw[mH,cr (Nat.ne_of_lt f.lt)];obtain⟨j,k,l,e,a⟩:=i;rw[mH,cr (Nat.ne_of_lt f)]at e;exact⟨j,k,l,e,a⟩;obtain⟨j,k,l,e,a⟩:=i;rw[mH,cr (Nat.ne_of_lt f)]at e;exact⟨j,k,l,e,a⟩
def heap_set(w:cd)(r:Nat)(o:Obj)(b:Nat):({w with heap:=w.heap.setIfInBounds r o}:cd).heap[b]? =if b=r/\r<w.heap.size then some o else w.heap[b]? :=by simp only[Array.getElem?_setIfInBounds];by_cases h:r=b;subst h;by_cases a:r<w.heap.size;simp[a];simp[a];rw[cr h,cr (λe=>h e.1.symm)]
def fe.setObj(h:WR ρ v u){r r':Nat}(i:ρ.r r r'){o o' x:Obj}(E:jJ ρ o o')(A:v.heap[r]? =some x)(l:∀cs t w,x≠ .cells cs t w)(m:∀cs t w,o≠ .cells cs t w):fe ρ ρ v u {v with heap:=v.heap.setIfInBounds r o} {u with heap:=u.heap.setIfInBounds r' o'} #[⟨.obj r',true,false⟩]:=by
 have y:=h.V0 i;have F:=h.TP i;have d:¬wN v r:=by rintro⟨cs,t,w,e,_⟩;rw[A]at e;cases e;exact l _ _ _ rfl
 have z:ρ.sh r'=none:=by obtain⟨I,G,B,_,H⟩:=h.obj r r' i;rcases H with⟨z,_⟩|⟨_,_,_,_,_,_,_,rfl,_⟩;exact z;rw[A]at B;exact absurd (cE B) (l _ _ _)
 refine⟨.refl _,⟨λb c j=>?_,λc C=>h.low c (by simpa using C),h.tape⟩,by simp,by simp,λ_ _ h=>.inl h,λc C k=>?_,λb g=>?_,λb g k=>?_,λb g k=>?_,rfl,rfl,rfl,rfl,λe D=>?_⟩;rw[heap_set,heap_set];by_cases g:b=r;subst g;obtain rfl:=ρ.inj₁ _ _ _ i j;rw[cx ⟨rfl,y⟩,cx ⟨rfl,F⟩];exact⟨_,_,rfl,rfl,.inl ⟨z,E⟩⟩;have n:c≠r':=λe=>g (ρ.inj₂ _ _ _ j (e▸i));rw[cr (λe=>g e.1),cr (λe=>n e.1)];exact h.obj b c j;rw[heap_set];by_cases g:c=r';subst g;exact absurd (k r i) d;rw[cr (λe=>g e.1)];rw[heap_set];by_cases a:b=r;subst a;exact absurd g d;rw[cr (λe=>a e.1)];by_cases a:b=r;subst a;obtain⟨p,q,s,e,_⟩:=k;rw[heap_set,cx ⟨rfl,y⟩]at e;cases e;exact absurd rfl (m _ _ _);obtain⟨p,q,s,e,f⟩:=k;rw[heap_set,cr (λe=>a e.1)]at e;exact⟨p,q,s,e,f⟩;by_cases a:b=r;subst a;obtain⟨p,q,s,e,_⟩:=k;rw[heap_set,cx ⟨rfl,y⟩]at e;cases e;exact absurd rfl (m _ _ _);obtain⟨p,q,s,e,f⟩:=k;rw[heap_set,cr (λe=>a e.1)]at e;exact⟨p,q,s,e,f⟩;simp at D;subst D;exact .inr (.inl ⟨r',true,r,rfl,i,d⟩)
end
theorem jJ.isChan{ρ:cR}{o o':Obj}(h:jJ ρ o o')(b:∀cs t a,o≠ .cells cs t a):o'.isChan=false/\∀cs t a,o'≠ .cells cs t a:=by
 cases h with
 |cells _ _=>exact absurd rfl (b _ _ _)
 |_=>exact⟨rfl,λ_ _ _ e=>by cases e⟩
def GJ.plain{ρ:cR}{n:Option Nat}{o o':Obj}(h:GJ ρ n o o')(a:∀cs t b,o≠ .cells cs t b):jJ ρ o o':=by rcases h with⟨_,h⟩|⟨_,_,_,_,_,_,_,e,_⟩;exact h;exact absurd e (a _ _ _)
def SR.run{P:cf}{α β:Type}{A:cR->α->β->Prop}{ρ:cR}{s:Sem α}{s':Sem β}(h:SR P A ρ s s'):∀{v u:cd},WR ρ v u->∀es d:Array Event,lX A ρ v u (s.runT P v es) (s'.runT (P.ir ρ.fs) u d) d:=by
 induction h with
 | @pure ρ a b h=>exactλ{v u} f es d=>⟨b,u,ρ,#[],by simp[Sem.runT],h,fe.refl f⟩
 | @load ρ a W k C J _ l=>
  intro v u f es d;simp only[Sem.runT];cases z:v.cell? a with
  |none=>
   cases J with
   | @mk b c o s n=>
    obtain⟨hh,e,K⟩:=uj (P:=P) (a:=⟨b,o,s⟩) (at_:=(Mode.plain==Mode.atomic)) (f.noView n) (f.noPending n);simp only[e];exact lX.dead K
  |some x=>
   obtain⟨E,Y,X⟩:=f.cell J z;simp only[Y];refine lX.step (e1:=#[⟨.cell W,false,false⟩]) f ((fe.refl f).So λe F=>?_) ?_;simp at F;subst F;cases J with
   | @mk b c o s n=>
    refine .inl ⟨_,false,b,rfl,n,?_,λe=>by cases e⟩;simp only[World.cell?]at z;split at z;rename_i g t j Z;refine⟨g,t,j,Z,λe=>?_⟩;subst e;simp at z;cases z
   have:=l x E X f (es.push ⟨.cell a,false,false⟩) (d++#[⟨.cell W,false,false⟩]);rw[Array.append_singleton]at this;exact this
 | @store ρ a W x E k C J X _ l=>
  intro v u f es d;by_cases p:(∃g,x=.agg g)\/∃g,x=.tuple g;rcases p with⟨g,rfl⟩|⟨g,rfl⟩<;>exact lX.dead rfl;have L:¬((∃g,E=.agg g)\/∃g,E=.tuple g):=by rintro(⟨g,rfl⟩|⟨g,rfl⟩)<;>cases X;exact p (.inl ⟨_,rfl⟩);exact p (.inr ⟨_,rfl⟩)
  have e1:∀{G:Type} (P:cf) (k:Sem G) (x:ce),¬((∃g,x=.agg g)\/∃g,x=.tuple g)->∀(a:Addr) (v:cd) (es:Array Event),(Sem.store .plain a x k).runT P v es=(match v.cell? a with
   |some _=>if v.frozen? a then(.halt (.unsupported (.unsafePointer "a write to bytes that a string shares")) v,es)else k.runT P (v.setCell a x) (es.push ⟨.cell a,true,false⟩)
   |none=>match v.farStore P a x false with
    | .ok (w,B)=>k.runT P w (es++B.toArray.map (⟨.cell ·,true,false⟩))
    | .error h=>(.halt h v,es)):=by
   intro G P k x z a v es;cases x<;>first|rfl|exact absurd (.inl ⟨_,rfl⟩) z|exact absurd (.inr ⟨_,rfl⟩) z
  rw[e1 P k x p,e1 _ C E L];cases hy:v.cell? a with
  |none=>
   cases J with
   | @mk b c o s n=>
    obtain⟨hh,e,K⟩:=sQ (P:=P) (a:=⟨b,o,s⟩) (x:=x) (at_:=false) (f.noView n) (f.noPending n);simp only[e];exact lX.dead K
  |some y=>
   obtain⟨y',aa,_⟩:=f.cell J hy;simp only[aa];by_cases hz:v.frozen? a=true;simp only[hz,cX];exact lX.dead rfl;have S:v.frozen? a=false:=by simpa using hz
   obtain⟨hu,H⟩:=fe.store f J X hy S;simp only[S,hu];refine lX.step f H ?_;have:=l H.rel (es.push ⟨.cell a,true,false⟩) (d++#[⟨.cell W,true,false⟩]);simpa using this
 | @new ρ o M k C ho _ l=>
  intro v u f es d;have H:=fe.new f ho;refine lX.step f H ?_;have:=l v.heap.size u.heap.size f.Sq f.Ss (f.low _ (cz _)) H.rel es (d++#[]);simpa[Sem.runT]using this
 | @getObj ρ r D k C n _ l=>
  intro v u f es d;obtain⟨o,M,N,h2,I⟩:=f.obj r D n;by_cases T:∃g t j,o=.cells g t j;obtain⟨g,t,j,rfl⟩:=T;simp only[Sem.runT,N];exact lX.dead rfl;have i:∀g t j,o≠ .cells g t j:=λg t j e=>T ⟨g,t,j,e⟩;replace I:jJ ρ o M:=I.plain i;obtain⟨O,Q⟩:=I.isChan i;have e1:∀{G:Type} (P:cf) (k:Obj->Sem G) (w:cd) (r:Nat) (o:Obj) (es:Array Event),w.heap[r]? =some o->(∀g t j,o≠ .cells g t j)->(Sem.getObj r k).runT P w es=(k o).runT P w (es.push ⟨.obj r,false,o.isChan⟩):=by intro G P k w r o es h R;cases o<;>first|exact absurd rfl (R _ _ _)|simp only[Sem.runT,h]
  rw[e1 P k v r o es N i,e1 _ C u D M d h2 Q,O];refine lX.step (e1:=#[⟨.obj D,false,false⟩]) f ((fe.refl f).So λe F=>?_) ?_;simp at F;subst F;refine .inr (.inl ⟨D,false,r,rfl,n,?_⟩);rintro⟨g,t,j,e,_⟩;rw[N]at e;cases e;exact i _ _ _ rfl;have:=l o M I i f (es.push ⟨.obj r,false,o.isChan⟩) (d++#[⟨.obj D,false,false⟩]);simpa using this
 | @setObj ρ r D x E k C n z U _ l=>
  intro v u f es d;obtain⟨o,M,N,h2,I⟩:=f.obj r D n;by_cases T:∃g t j,o=.cells g t j;obtain⟨g,t,j,rfl⟩:=T;simp only[Sem.runT,N];exact lX.dead rfl;have i:∀g t j,o≠ .cells g t j:=λg t j e=>T ⟨g,t,j,e⟩;replace I:jJ ρ o M:=I.plain i;obtain⟨_,Q⟩:=I.isChan i;obtain⟨O,_⟩:=z.isChan U;have V:x.isChan=false:=by cases z<;>rfl
  have e1:∀{G:Type} (P:cf) (k:Sem G) (w:cd) (r:Nat) (x o:Obj) (es:Array Event),w.heap[r]? =some o->(∀g t j,o≠ .cells g t j)->(Sem.setObj r x k).runT P w es=k.runT P {w with heap:=w.heap.setIfInBounds r x} (es.push ⟨.obj r,true,x.isChan⟩):=by intro G P k w r x o es h R;cases o<;>first|exact absurd rfl (R _ _ _)|simp only[Sem.runT,h]
  rw[e1 P k v r x o es N i,e1 _ C u D E M d h2 Q,O,V];have H:=fe.setObj f n z N i U;refine lX.step f H ?_;have:=l H.rel (es.push ⟨.obj r,true,false⟩) (d++#[⟨.obj D,true,false⟩]);simpa using this
 | @shape ρ r D k C n _ _ l ib=>
  intro v u f es d;simp only[Sem.runT];rcases f.shape n with⟨hs,e⟩|⟨hs,m,y,e1,e2⟩;rw[e];exact l hs _ f es d;rw[e1,e2];exact ib hs _ _ f es d
 | @choose ρ q k C _ l=>
  intro v u f es d;simp only[Sem.runT];by_cases hq:q.forced=true;simp only[hq,cX];exact l 0 f es d;have ab:q.forced=false:=by simpa using hq
  simp only[ab,iq,eo];have ht:=f.tape 0 q;simp only[mT]at ht;rw[ht];refine lX.step f (fe.draw f) ?_;have:=l (q.cut (u.tape u.drawn q)) f.draw es (d++#[]);simpa using this
 |program _ l=>exactλf es d=>l f es d
 | @noRoom ρ k C _ l=>
  intro v u f es d;refine lX.step (e1:=#[⟨.mark .noRoom,false,true⟩]) f ((fe.refl f).So λe F=>?_) ?_;simp at F;exact .inr (.inr (.inr (.inr F)));have:=l f (es.push ⟨.mark .noRoom,false,true⟩) (d++#[⟨.mark .noRoom,false,true⟩]);simpa[Sem.runT]using this
 | @panic ρ x E h hp=>exactλ{v u} f es d=>⟨E,u,ρ,#[],by simp[Sem.runT],⟨h,hp⟩,fe.refl f⟩
 |dead K=>exactλ{v u} f es d=>lX.dead K
 | @never ρ s s' h=>
  intro v u f es d;obtain⟨hh,w',e,K⟩:=h v;rw[mU,e];exact lX.dead K
def ep:Nat->ce->Bool
 |_,.bool _|_,.int _ _|_,.string _|_,.pointer none|_,.slice none _ _|_,.map none|_,.chan none|_,.nilFunc|_,.nilIface=>true
 |d+1,.agg cs|d+1,.tuple cs=>cs.all (ep d)
 |d+1,.iface _ v=>ep d v
 |_,_=>false
theorem oT{ρ:cR}:∀{d:Nat} {v:ce},ep d v=true->VR ρ v v
 |d,.bool _,_=>.bool _
 |d,.int _ _,_=>.int _ _
 |d,.float _ _,h=>by cases d<;>simp[ep]at h
 |d,.complex _ _ _,h=>by cases d<;>simp[ep]at h
 |d,.string _,_=>.string _
 |d,.pointer none,_=>.iw
 |d,.slice none _ _,_=>.fc _ _
 |d,.map none,_=>.qN
 |d,.chan none,_=>.px
 |d,.nilFunc,_=>.nilFunc
 |d,.nilIface,_=>.nilIface
 |d+1,.agg cs,h=>by simp only[ep,DU]at h;exact .agg rfl λi v c a b=>by rw[a]at b;cases b;exact oT (h v (l7 a))
 |d+1,.tuple cs,h=>by simp only[ep,DU]at h;exact .tuple rfl λi v c a b=>by rw[a]at b;cases b;exact oT (h v (l7 a))
 |0,.agg _,h=>by simp[ep]at h
 |0,.tuple _,h=>by simp[ep]at h
 |d,.pointer (some _),h=>by cases d<;>simp[ep]at h
 |d,.slice (some _) _ _,h=>by cases d<;>simp[ep]at h
 |d,.map (some _),h=>by cases d<;>simp[ep]at h
 |d,.chan (some _),h=>by cases d<;>simp[ep]at h
 |d,.func _ _ _,h=>by cases d<;>simp[ep]at h
 |0,.iface _ _,h=>by simp[ep]at h
 |d+1,.iface _ v,h=>.iface _ (oT (d:=d) (by simpa[ep]using h))
def eK(P:cf):Nat->cg->Bool
 |0,_=>false
 |d+1,t=>match P.underlying t with
  |some .bool|some (.int _)|some .string|some (.slice _)=>true
  |some (.struct fs)=>!P.stoodInHeld t&&fs.all λf=>eK P d f.type
  |some (.array _ e)=>eK P d e
  |_=>false
def jw(S:cm->Bool):dj->Bool
 | .tmp _=>true
 | .const v=>ep 3 v
 | .global _=>false
 | .func f=>S f
def Bf:Builtin->Bool
 | .len| .cap| .append| .max| .min=>true
 |_=>false
def intType(P:cf)(t:cg):Bool:=match P.underlying t with|some (.int _)=>true|_=>false
def GK(P:cf)(S:cm->Bool)(dim a:Bool):Op->Bool
 | .move _| .assign _| .pick _ _ _| .alloc _| .box _ _| .build _ _| .buildSlice _ _ _| .load _ _| .store _ _ _| .unOp _ _ _| .makeSlice _ _ _| .slice _ _ _ _ _
 | .index _ _ _| .indexAddr _ _ _| .extract _ _| .field _ _ _| .makeMap _ _| .nilCheck _=>true
 | .lookup t _ _ _| .mapUpdate t _ _ _=>match P.underlying t with|some (.map k _)=>!dim&&eK P 5 k|_=>false
 | .makeFunc (.func f) _ _=>S f
 | .fieldAddr s _ i=>match P.underlying s with
  |some (.struct fs)=>match fs[i]? with
   |some f=>match P.info? f.type with|some j=>j.size !=0|none=>false
   |none=>false
  |_=>false
 | .binOp e t _ _ _=>match e with
  | .eql| .neq=>eK P 5 t
  |_=>intType P t
 | .convert s d _=>intType P s&&intType P d
 | .call c=>match c.callee with
  | .value _=>true
  | .builtin b=>Bf b&&(match b with| .append=>(match c.argTypes[1]? with|some t=>!intType P t|none=>true)|_=>true)
  | .invoke _ _=>false
 | .defer c=>match c.callee with
  | .value _=>a
  |_=>false
 | .panic x=>match x with
  | .const (.iface _ (.int _ _))=>a
  |_=>false
 |_=>false
def qP(P:cf)(S:cm->Bool)(dim a:Bool)(o:Oper):Bool:=o.op.operands.all (jw S)&&GK P S dim a o.op
def gh(P:cf)(S:cm->Bool)(dim d:Bool):Code->Bool
 | .skip| .exit _| .label _| .goto _| .ret| .refuse _=>true
 | .region _ ops _=>ops.all (qP P S dim d)
 | .seq a b=>gh P S dim d a&&gh P S dim d b
 | .cond c a b=>jw S c&&gh P S dim d a&&gh P S dim d b
 | .block _ c| .loop c| .scope c=>gh P S dim d c
 | .rangeFunc f _ a b=>!d&&jw S f&&gh P S dim d a&&gh P S dim d b
structure Fit(P:cf)(S:cm->Bool)(dim:Bool):Prop where
 zero:∀t i z,P.info? t=some i->i.zero=some z->ep 3 z=true
 fn:∀f,S f=true->∃fn c,P.funcs[f]? =some fn/\(fn.name== "runtime.NumGoroutine")=false/\fn.body=some c
 globals:P.globals.size=0
 depth:5<=P.depth
 bad:P.info? qO=none
abbrev SV(P:cf)(ρ:cR)(s s':Sem ce):Prop:=SR P (λρ a b=>VR ρ a b) ρ s s'
abbrev SE(P:cf)(ρ:cR){α:Type}(s s':Sem α):Prop:=SR P (λ_ a b=>a=b) ρ s s'
section
variable{P:cf}{ρ:cR}
def SR.du{α d e g:Type}{A:cR->α->d->Prop}{B:cR->e->g->Prop}{ρ:cR}{s:Sem α}{s':Sem d}{f:α->Sem e}{f':d->Sem g}(h:SR P A ρ s s') (k:∀c a b,cR.Le ρ c->A c a b->SR P B c (f a) (f' b)):SR P B ρ (s>>=f) (s'>>=f'):=SR.bind h k
def SR.dT{α c:Type}{A:cR->α->c->Prop}{a:α}{b:c}(h:A ρ a b):SR P A ρ (Pure.pure a) (Pure.pure b):=.pure h
theorem SR.stuck{α b:Type}{A:cR->α->b->Prop}{a:String}{s:Sem b}:SR P A ρ (Go.stuck (α:=α) a) s:=.dead rfl
def SR.fA{α a:Type}{A:cR->α->a->Prop}{u:Unsupported}{s:Sem a}(b:Halt.dead (.unsupported u)=true:=by rfl):SR P A ρ (Go.unsupported (α:=α) u) s:=.dead b
def SR.prog:SR P (λρ a b=>a=P/\b=P.ir ρ.fs) ρ Go.program Go.program:=.program (.pure ⟨rfl,rfl⟩)
def SR.qA{α q:Type}{A B:cR->α->q->Prop}{s:Sem α}{s':Sem q}(h:SR P A ρ s s')(k:∀d a b,cR.Le ρ d->A d a b->B d a b):SR P B ρ s s':=by
 induction h with
 |pure h=>exact .pure (k _ _ _ (.refl _) h)
 |load i _ c=>exact .load i λv u j=>c v u j k
 |store i j _ c=>exact .store i j (c k)
 |new e _ c=>exact .new e λn w r t f=>c n w r t f λd a b l=>k d a b ((cR.tk _ _ _ r t).trans l)
 |getObj g _ c=>exact .getObj g λo z e p=>c o z e p k
 |setObj g e p _ c=>exact .setObj g e p (c k)
 |shape g _ _ c C=>exact .shape g (λf x=>c f x k) λf m y=>C f m y k
 |choose _ c=>exact .choose λn=>c n k
 |program _ c=>exact .program (c k)
 |noRoom _ c=>exact .noRoom (c k)
 |panic h D=>exact .panic h D
 |dead E=>exact .dead E
 |never h=>exact .never h
def ff(fs:Array Func):(P.ir fs).underlying=P.underlying:=rfl
def jx(fs:Array Func):(P.ir fs).depth=P.depth:=rfl
def gW(fs:Array Func):(P.ir fs).bytesOf=P.bytesOf:=rfl
def gX(fs:Array Func):(P.ir fs).cellsOf=P.cellsOf:=rfl
theorem eB(fs:Array Func):∀(d:Nat) (t:cg),(P.ir fs).eqGuardType d t=P.eqGuardType d t
 |0,t=>by unfold Program.eqGuardType;rfl
 |d+1,t=>by unfold Program.eqGuardType;simp only[ff,eB fs d]
theorem qQ(fs:Array Func):∀(d:Nat),cellOfByte (P.ir fs) d=cellOfByte P d
 |0=>by funext t o;unfold cellOfByte;rfl
 |d+1=>by funext t o;unfold cellOfByte;rw[qQ fs d];rfl
theorem eL(fs:Array Func):∀(d:Nat),byteOfCell (P.ir fs) d=byteOfCell P d
 |0=>by funext t o;unfold byteOfCell;rfl
 |d+1=>by funext t o;unfold byteOfCell;rw[eL fs d];rfl
def fl(fs:Array Func):cellAtBytes (P.ir fs)=cellAtBytes P:=by funext d e c o b;unfold cellAtBytes;rw[eL,qQ];rfl
theorem Bg(fs:Array Func):∀(d:Nat),(P.ir fs).alikeButTags d=P.alikeButTags d
 |0=>by funext t o;unfold Program.alikeButTags;rfl
 |d+1=>by funext t o;unfold Program.alikeButTags;rw[Bg fs d]
def AZ(fs:Array Func):(P.ir fs).stoodInAs=P.stoodInAs:=by funext t;unfold Program.stoodInAs;rw[show(P.ir fs).depth=P.depth from rfl,Bg];rfl
def eN(fs:Array Func):(P.ir fs).stoodInHeld=P.stoodInHeld:=by funext t;unfold Program.stoodInHeld;rw[AZ]
def SR.info(t:cg):SR P (λ_ a b=>a=b/\P.info? t=some a) ρ (typeInfo t) (typeInfo t):=by
 unfold typeInfo;refine SR.prog.du λc a b _ h=>?_;obtain⟨rfl,rfl⟩:=h;try simp only[ff,jx,gX,gW,eB,eL,fl,eN]
 split;rename_i i d;exact .dT ⟨rfl,d⟩;exact .stuck
def SR.under(t:cg):SR P (λ_ a b=>a=b/\P.underlying t=some a) ρ (Go.underlying t) (Go.underlying t):=by
 unfold Go.underlying;refine SR.prog.du λc a b _ h=>?_;obtain⟨rfl,rfl⟩:=h;try simp only[ff,jx,gX,gW,eB,eL,fl,eN]
 split;rename_i i d;exact .dT ⟨rfl,d⟩;exact .stuck
theorem SR.size(t:cg):SR P (λ_ a b=>a=b/\∃i,P.info? t=some i/\a=i.size) ρ (Go.sizeOf t) (Go.sizeOf t):=by unfold Go.sizeOf;refine(SR.info t).du λc a b _ h=>?_;obtain⟨rfl,h⟩:=h;exact .dT ⟨rfl,a,h,rfl⟩
theorem SR.isAgg(t:cg):SE P ρ (Go.isAgg t) (Go.isAgg t):=by unfold Go.isAgg;refine(SR.under t).du λc a b _ h=>?_;obtain⟨rfl,h⟩:=h;split<;>exact .dT rfl
theorem SR.zero{S:cm->Bool}{dim:Bool}(F:Fit P S dim)(t:cg):SV P ρ (zeroValue t) (zeroValue t):=by unfold zeroValue;refine(SR.info t).du λc a b _ h=>?_;obtain⟨rfl,h⟩:=h;split;rename_i z d;exact .dT (oT (F.zero t a z h d));exact .fA
theorem SR.goPanic{α a:Type}{A:cR->α->a->Prop}{v b:ce}(h:VR ρ v b)(c:wM ρ v):SR P A ρ (Go.goPanic (α:=α) v) (Go.goPanic (α:=a) b):=.panic h c
def SR.jc{α f:Type}{A:cR->α->f->Prop}(e:RuntimeError)(g:(∃x y s c,e=.bounds x y s c)\/(∃m,e=.error m)\/(∃m,e=.plain m)\/e=.nilDeref):SR P A ρ (runtimePanic (α:=α) e) (runtimePanic (α:=f) e):=by
 unfold runtimePanic;refine SR.prog.du λi a b _ h=>?_;obtain⟨rfl,rfl⟩:=h;try simp only[ff,jx,gX,gW,eB,eL,fl,eN]
 rcases g with⟨x,y,s,c,rfl⟩|⟨m,rfl⟩|⟨m,rfl⟩|rfl;exact .panic (.iface _ (oT (d:=1) (by simp[ep]))) (.inr λ_ _ _ h=>by cases h);exact .panic (.iface _ (.string _)) (.inr λ_ _ _ h=>by cases h);exact .panic (.iface _ (.string _)) (.inr λ_ _ _ h=>by cases h);exact .panic (.iface _ (.string _)) (.inr λ_ _ _ h=>by cases h)
theorem SR.boundsPanic{α e:Type}{A:cR->α->e->Prop}(k:IntKind)(x y:Int)(c:BoundsCode):SR P A ρ (Go.boundsPanic (α:=α) k x y c) (Go.boundsPanic (α:=e) k x y c):=by unfold Go.boundsPanic;dsimp only;split;refine SR.du (A:=λ_ a b=>a=b) ?_ λd a b _ h=>?_;refine SR.du (A:=λ_ a b=>a=b) (.choose λn=>.pure rfl) λd a b _ h=>?_;subst h;exact .dT rfl;subst h;exact SR.jc _ (.inl ⟨_,_,_,_,rfl⟩);refine SR.du (A:=λ_ a b=>a=b) (.dT rfl) λd a b _ h=>?_;subst h;exact SR.jc _ (.inl ⟨_,_,_,_,rfl⟩)
def SR.ld{a b:Addr}(h:AR ρ a b):SV P ρ (Go.load a) (Go.load b):=.load h λ_ _ c=>.pure c
def SR.st{a b:Addr}{v c:ce}(h:AR ρ a b)(d:VR ρ v c):SE P ρ (Go.store a v) (Go.store b c):=.store h d (.pure rfl)
theorem SR.loadCellsFrom{a g:Addr}:∀(n i:Nat) {ρ:cR} {d c:Array ce},AR ρ a g->eT ρ d c->SR P (λρ a b=>eT ρ a b) ρ (Go.loadCellsFrom a i n d) (Go.loadCellsFrom g i n c)
 |0,_,_,_,_,_,f=>.dT f
 |n+1,i,_,_,_,h,f=>(SR.ld (h.add i)).du λ_ _ _ e j=>SR.loadCellsFrom n (i+1) (h.mono e) ((f.mono e).push j)
theorem SR.loadCells{a c:Addr}(h:AR ρ a c)(n:Nat):SR P (λρ a b=>eT ρ a b) ρ (Go.loadCells a n) (Go.loadCells c n):=SR.loadCellsFrom n 0 h .nil
theorem SR.storeCells{a d:Addr}:∀{vs b:List ce} (i:Nat) {ρ:cR},AR ρ a d->qo ρ vs b->SE P ρ (Go.storeCells a vs i) (Go.storeCells d b i)
 |[],_,i,_,_,h=>by cases h;exact .dT rfl
 |v::vs,_,i,ρ,e,h=>by
  cases h with
  |cons h t=>
   unfold Go.storeCells;refine(SR.st (e.add i) h).du λf _ _ c _=>?_;exact SR.storeCells (i+1) (e.mono c) (t.mono c)
theorem SR.loadVar{a g:Addr}(t:cg)(h:AR ρ a g):SV P ρ (Go.loadVar t a) (Go.loadVar t g):=by unfold Go.loadVar;refine(SR.isAgg t).du λi x m d j=>?_;subst j;split;refine(SR.size t).du λe n o b k=>?_;obtain⟨rfl,_⟩:=k;refine(SR.loadCells ((h.mono d).mono b) n).du λf c p _ l=>?_;exact .dT l.agg;exact SR.ld (h.mono d)
theorem SR.storeVar{a f:Addr}(t:cg){v c:ce}(h:AR ρ a f)(i:VR ρ v c):SE P ρ (Go.storeVar t a v) (Go.storeVar t f c):=by unfold Go.storeVar;refine(SR.size t).du λj n l b k=>?_;obtain⟨rfl,_⟩:=k;have g:=(i.mono b).cells;by_cases d:v.cells.size=n;have e:c.cells.size=n:=g.size▸d;simp only[d,e,ne_eq,not_true_eq_false,eo];exact(SR.storeCells 0 (h.mono b) g.list).qA λ_ _ _ _ _=>trivial;simp only[ne_eq,d,not_false_eq_true,cX];exact .stuck
theorem SR.newRow{cs c:Array ce}(t:cg)(h:eT ρ cs c):SR P (λρ a b=>AR ρ a b) ρ (Go.newRow t cs) (Go.newRow t c):=by unfold Go.newRow;refine SR.du (A:=λρ a b=>ρ.r a b/\ρ.sh b=none) (.new (.cells h λ_ h=>h) λn i j k e=>.pure ⟨cR.rW _ _ _ _ _,e⟩) λf a b g d=>?_;exact .dT (.of _ _ d.1 d.2)
theorem SR.newVar{v c:ce}(t:cg)(h:VR ρ v c):SR P (λρ a b=>AR ρ a b) ρ (Go.newVar t v) (Go.newVar t c):=SR.newRow t h.cells
theorem SR.part{cs c:Array ce}(t:cg)(h:eT ρ cs c)(b:Nat):SV P ρ (Go.part t cs b) (Go.part t c b):=by unfold Go.part;refine(SR.isAgg t).du λi x m d j=>?_;subst j;split;refine(SR.size t).du λe n o a k=>?_;obtain⟨rfl,_⟩:=k;exact .dT (((h.mono d).mono a).extract _ _).agg;rcases(h.mono d).get? b with⟨f,g⟩|⟨v,p,f,g,l⟩;rw[f];exact .stuck;rw[f,g];exact .dT l
def SR.intOf{v c:ce}(h:VR ρ v c):SR P (λ_ a b=>a=b/\v=.int a.1 a.2/\c=.int a.1 a.2) ρ (asIntOf v) (asIntOf c):=by cases h<;>first|exact .dT ⟨rfl,rfl,rfl⟩|exact .fA|exact .stuck
theorem SR.asInt{v c:ce}(h:VR ρ v c):SE P ρ (Go.asInt v) (Go.asInt c):=by unfold Go.asInt;refine(SR.intOf h).du λ_ a b _ h=>?_;obtain⟨rfl,_⟩:=h;exact .dT rfl
theorem SR.asBool{v a:ce}(h:VR ρ v a):SE P ρ (Go.asBool v) (Go.asBool a):=by cases h<;>first|exact .dT rfl|exact .stuck
theorem SR.asAddr{v c:ce}(h:VR ρ v c):SR P (λρ a b=>AR ρ a b) ρ (Go.asAddr v) (Go.asAddr c):=by cases h<;>first|exact .dT ‹_›|exact SR.jc _ (.inr (.inr (.inr rfl)))|exact .stuck
def SR.sure{v c:ce}(h:VR ρ v c):SR P (λρ a b=>AR ρ a b) ρ (Instr.sureAddr v) (Instr.sureAddr c):=by cases h<;>first|exact .dT ‹_›|exact .stuck
theorem SR.asAgg{v c:ce}(h:VR ρ v c):SR P (λρ a b=>eT ρ a b) ρ (Go.asAgg v) (Go.asAgg c):=by cases h<;>first|exact .dT ⟨‹_›,‹_›⟩|exact .stuck
end
end Go.cF
namespace Go.Proofs
open Go
noncomputable def V.xX:Code:=
 (Code.region 0 #[{dst:=some 9,op:=Op.move (.const (.bool true)),type:=4,pos:= "",after:=#[],guard:=none},{dst:=some 1,op:=Op.makeFunc (.func 227) #[] #[.tmp 0,.tmp 1,.tmp 2,.tmp 3,.tmp 4,.tmp 5,.tmp 6,.tmp 7,.tmp 8,.tmp 9],type:=0,pos:= "",after:=#[],guard:=none}] false).seq
 ((Code.region 1 #[{dst:=some 2,op:=Op.move (.const (.bool true)),type:=4,pos:= "",after:=#[],guard:=none},{dst:=some 2,op:=Op.move (.const (.bool false)),type:=4,pos:= "",after:=#[],guard:=none}] true).seq
 ((Code.cond (.tmp 2) ((Code.region 2 #[{dst:=some 3,op:=Op.box 200 (.tmp 1),type:=0,pos:= "",after:=#[],guard:=none}] false).seq (Code.region 3 #[{dst:=none,op:=Op.panic (.const (.iface 3 (.int .i64 7))),type:=0,pos:= "",after:=#[],guard:=none}] false)) .skip).seq
 ((Code.region 4 #[{dst:=some 3,op:=Op.build 245 #[(0,.tmp 0)],type:=245,pos:= "",after:=#[],guard:=none}] false).seq
 ((Code.region 5 #[{dst:=some 4,op:=Op.box 245 (.tmp 3),type:=0,pos:= "",after:=#[],guard:=none}] false).seq
 ((Code.region 6 #[{dst:=some 5,op:=Op.call {callee:=.value (.func 216),args:=#[.tmp 4],argTypes:=#[243]},type:=0,pos:= "",after:=#[],guard:=none}] false).seq
 ((Code.region 7 #[{dst:=some 6,op:=Op.fieldAddr 245 (.tmp 4) 3,type:=0,pos:= "",after:=#[],guard:=none}] false).seq
 ((Code.region 8 #[{dst:=some 7,op:=Op.load 199 (.tmp 6),type:=199,pos:= "",after:=#[],guard:=none}] false).seq
 Code.ret)))))))
noncomputable def V.f163:Func:={Tryz.f163 with ntmps:=9,results:=#[.tmp 7],body:=some V.xX}
section
variable(P:cf)(fs:Array Func)
abbrev V.sub:cf:=P.ir fs
theorem V.Ma(t:cg):(V.sub P fs).info? t=P.info? t:=rfl
theorem V.ID(t:cg):(V.sub P fs).underlying t=P.underlying t:=rfl
theorem V.py(t:cg)(w:cd):Sem.run (V.sub P fs) (typeInfo t) w=Sem.run P (typeInfo t) w:=by
 simp only[typeInfo,Sem.run_bind,run_program,Result.andThen_ok];cases P.info? t with
 |none=>simp only[run_stuck]
 |some i=>simp only[Sem.run_pure]
theorem V.nT(t:cg)(w:cd):Sem.run (V.sub P fs) (underlying t) w=Sem.run P (underlying t) w:=by
 simp only[underlying,Sem.run_bind,run_program,Result.andThen_ok,V.ID];cases P.underlying t with
 |none=>simp only[run_stuck]
 |some i=>simp only[Sem.run_pure]
theorem V.GO(t:cg)(w:cd):Sem.run (V.sub P fs) (sizeOf t) w=Sem.run P (sizeOf t) w:=by simp only[sizeOf,Sem.run_bind,V.py,Sem.run_pure]
theorem V.A0(t:cg)(w:cd):Sem.run (V.sub P fs) (zeroValue t) w=Sem.run P (zeroValue t) w:=by
 simp only[zeroValue,Sem.run_bind,V.py];cases Sem.run P (typeInfo t) w with
 |ok d w=>simp only[Result.andThen_ok];cases d.zero with
  |none=>simp only[run_unsupported]
  |some z=>simp only[Sem.run_pure]
 |halt h w=>simp only[Result.andThen_halt]
theorem V.JK(t:cg)(w:cd):Sem.run (V.sub P fs) (isAgg t) w=Sem.run P (isAgg t) w:=by
 simp only[isAgg,Sem.run_bind,V.nT];cases Sem.run P (underlying t) w with
 |ok d w=>
  simp only[Result.andThen_ok];split<;>simp only[Sem.run_pure]
 |halt h w=>simp only[Result.andThen_halt]
end
theorem V.JL(P:cf)(fs:Array Func):(V.sub P fs).depth=P.depth:=rfl
theorem V.xF(P:cf)(fs:Array Func)(n:Nat)(t:cg):(V.sub P fs).eqGuardType n t=P.eqGuardType n t:=Go.cF.eB fs n t
theorem V.xG(P:cf)(fs:Array Func)(t:cg):(V.sub P fs).stoodInHeld t=P.stoodInHeld t:=congrFun (Go.cF.eN fs) t
noncomputable def V.prog:cf:=V.sub Tryz.prog (Tryz.funcs.setIfInBounds 163 V.f163)
theorem V.GP(P:cf)(fs:Array Func):(V.sub P fs).toTables=P.toTables:=rfl
@[simp] theorem V.Bh:V.prog.toTables=Tryz.prog.toTables:=V.GP _ _
@[simp] theorem V.sR (t:cg):V.prog.underlying t=Tryz.prog.underlying t:=V.ID _ _ _
@[simp] theorem V.IE (t:cg):V.prog.info? t=Tryz.prog.info? t:=V.Ma _ _ _
@[simp] theorem V.D5 (t:cg) (w:cd):Sem.run V.prog (typeInfo t) w=Sem.run Tryz.prog (typeInfo t) w:=V.py _ _ _ _
@[simp] theorem V.sizeOf_eq (t:cg) (w:cd):Sem.run V.prog (sizeOf t) w=Sem.run Tryz.prog (sizeOf t) w:=V.GO _ _ _ _
@[simp] theorem V.vJ (t:cg) (w:cd):Sem.run V.prog (underlying t) w=Sem.run Tryz.prog (underlying t) w:=V.nT _ _ _ _
@[simp] theorem V.T6 (t:cg) (w:cd):Sem.run V.prog (isAgg t) w=Sem.run Tryz.prog (isAgg t) w:=V.JK _ _ _ _
@[simp] theorem V.Ph (t:cg) (w:cd):Sem.run V.prog (zeroValue t) w=Sem.run Tryz.prog (zeroValue t) w:=V.A0 _ _ _ _
@[simp] theorem V.T7:V.prog.depth=Tryz.prog.depth:=V.JL _ _
@[simp] theorem V.Mb (n:Nat) (t:cg):V.prog.eqGuardType n t=Tryz.prog.eqGuardType n t:=V.xF _ _ _ _
@[simp] theorem V.Mc (t:cg):V.prog.stoodInHeld t=Tryz.prog.stoodInHeld t:=V.xG _ _ _
end Go.Proofs
