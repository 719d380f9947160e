/- Laws that the proof needs, part 0. Conditions: none. -/
import Derived.Conc.Own
import Derived.Test.YteeagjkaflglpaaGreatRows
import Derived.JoinedOf
import Derived.KernelRfl
import Derived.Conc.LeavingOf
import Derived.Carry
import Derived.ChangeSlices
import Derived.WideShapes
import Derived.Laws.Sem
import Derived.Conc.Events
import Derived.WalkKit
import Derived.WalkSpells
import Derived.WalkLawsBesides
import Derived.Conc.WgGenN3
set_option maxRecDepth 100000
set_option maxHeartbeats 8000000
set_option linter.all false
def uM:=@Array.all_eq_true_iff_forall_mem
def qv:=@Array.any_eq_true'
def A9:=@Array.ext'
def KM:=@Array.ext_getElem?
def KN:=@Array.foldl_toList
def SJ:=@Array.forIn_toList
def wx:=@Array.getD_eq_getD_getElem?
def wz:=@Array.getElem?_append_left
def zO:=@Array.getElem?_append_right
def iY:=@Array.getElem?_eq_getElem
def lT:=@Array.getElem?_eq_none
def eU:=@Array.getElem?_eq_some_iff
def qw:=@Array.getElem?_map
def mR:=@Array.getElem?_modify
def nS:=@Array.getElem?_push
def sj:=@Array.getElem?_replicate
def eo:=@Array.getElem?_setIfInBounds_ne
def kI:=@Array.getElem?_setIfInBounds_self_of_lt
def Ho:=@Array.mapM_eq_mapM_toList
def Cs:=@Array.mem_append
def mo:=@Array.mem_of_getElem?
def Ab:=@Array.mk.injEq
def Ac:=@Array.size_append
def dW:=@Bool.and_eq_true
def ik:=@Bool.false_eq_true
def tE:=@Bool.not_eq_true'
def Hp:=@Bool.or_eq_true
def Hq:=@Classical.byContradiction
def iN:=@Classical.choose_spec
def Ct:=@Function.comp_def
def iO:=@Go.Conc.Goes.stop
def mS:=@Iff.rfl
def Cu:=@Int.mul_nonneg
def mT:=@Int.toNat_natCast
def mU:=@List.all_eq_true
def pZ:=@List.cons.injEq
def qx:=@List.cons_append
def sn:=@List.drop_eq_getElem_cons
def oL:=@List.eq_nil_of_length_eq_zero
def KP:=@List.exists_of_findSome?_eq_some
def KQ:=@List.filter_eq_nil_iff
def mV:=@List.flatMap_cons
def xo:=@List.foldl_append
def qa:=@List.foldl_cons
def jG:=@List.getD_eq_getElem?_getD
def nT:=@List.getElem?_append_left
def oM:=@List.getElem?_append_right
def Ad:=@List.getElem?_cons_succ
def Hr:=@List.getElem?_cons_zero
def eV:=@List.getElem?_eq_getElem
def Hs:=@List.getElem?_eq_none
def iI:=@List.getElem?_eq_some_iff
def so:=@List.getElem?_map
def Cv:=@List.getElem?_toArray
def nU:=@List.getElem_append_left
def vA:=@List.getElem_append_right
def Ht:=@List.getElem_cons_succ
def oN:=@List.getElem_cons_zero
def ef:=@List.getElem_mem
def jA:=@List.length_append
def eI:=@List.length_cons
def tF:=@List.length_map
def fB:=@List.length_nil
def xp:=@List.length_set
def KT:=@List.length_take
def vB:=@List.map_append
def lq:=@List.map_cons
def vC:=@List.map_nil
def jH:=@List.mem_append
def eO:=@List.mem_cons
def iw:=@List.mem_cons_of_mem
def iP:=@List.mem_cons_self
def xq:=@List.mem_filter
def sq:=@List.mem_flatMap
def mq:=@List.mem_map
def vD:=@List.mem_of_getElem?
def tG:=@List.mem_or_eq_of_mem_set
def gR:=@List.mem_range
def iJ:=@List.mem_singleton
def Cw:=@List.mem_toArray
def sr:=@List.nil_append
def mu:=@List.not_mem_nil
def Hu:=@List.range'_succ
def oO:=@List.range_succ
def gK:=@List.size_toArray
def mW:=@List.take_length
def vE:=@List.take_of_length_le
def jc:=@List.take_succ_eq_append_getElem
def vF:=@Nat.add_assoc
def mX:=@Nat.add_zero
def vG:=@Nat.beq_refl
def gM:=@Nat.eq_of_beq_eq_true
def mY:=@Nat.eq_zero_or_pos
def qb:=@Nat.le_of_ble_eq_true
def cJ:=@Nat.le_refl
def tH:=@Nat.le_succ
def SK:=@Nat.le_succ_of_le
def cZ:=@Nat.le_trans
def dE:=@Nat.lt_of_lt_of_le
def xr:=@Nat.lt_of_not_le
def fj:=@Nat.lt_or_ge
def qy:=@Nat.mul_le_mul_right
def oi:=@Nat.mul_one
def uN:=@Nat.ne_of_beq_eq_false
def mZ:=@Nat.sub_self
def cG:=@Nat.zero_add
def fV:=@Nat.zero_le
def gh:=@Ne.symm
def Uy:=@Option.bind_eq_bind
def sM:=@Option.bind_eq_some_iff
def sN:=@Option.bind_some
def jI:=@Option.getD_some
def sO:=@Option.isSome_none
def il:=@Option.map_eq_some_iff
def jJ:=@Option.map_some
def cO:=@Option.some.inj
def fO:=@Option.some.injEq
def lB:=@Go.Sem.runT_eq
def ol:=@beq_iff_eq
def cT:=@congrArg
def kR:=@decide_eq_false
def iQ:=@decide_eq_true_eq
def eF:=@if_false
def cy:=@if_neg
def cB:=@if_pos
def dF:=@if_true
def ee:=@of_decide_eq_false
def dO:=@of_decide_eq_true
def jW:=@or_false
def qz:=@Go.Conc.stepG_block
def gi:=@Go.Conc.stepG_region
def cE:=@Go.Conc.stepG_region_end
def cI:=@Go.Conc.stepG_seq
def eJ:=@Go.Conc.stepG_skip
def kz:=@Go.wp_mono
def om:=@Go.wp_region
def jX:=@Go.wp_seq
abbrev cn:=Go.World
abbrev cq:=Go.Value
abbrev cx:=Go.Goroutine
abbrev cA:=Go.Program
abbrev cw:=Go.TypeId
abbrev dH:=Go.FuncId
abbrev dw:=Go.Operand
abbrev i64:=Go.Value.int .i64
abbrev cY(b o:Nat):Go.Addr:=⟨b,o,none⟩
abbrev dI(b:Nat):Go.Value:=.pointer (some ⟨b,0,none⟩)
abbrev j7(b n c:Nat):Go.Value:=.slice (some ⟨b,0,none⟩) n c
abbrev cz:=List Nat
abbrev cN:=Nat->Prop
abbrev ek:=Option Go.Addr
abbrev cU:=Go.World->Prop
abbrev dr:=List Go.Value
abbrev dU:=Array Go.Value
abbrev nd:=Go.Value->Go.World->Prop
abbrev gC:=List Int
abbrev sd(w:Go.World)(b:Nat)(a:Array Go.Value)(t:Go.TypeId):Prop:=w.heap[b]? =some (.cells a t)
abbrev Ba(b o:Nat):Go.Value:=.pointer (some ⟨b,o,none⟩)
abbrev Uz(b o n c:Nat):Go.Value:=.slice (some ⟨b,o,none⟩) n c
abbrev Bb(b o:Nat):Option Go.Addr:=some ⟨b,o,none⟩
abbrev jK:Go.Value:=.slice none 0 0
abbrev fR:=Go.undef
abbrev Go.World.me(w:Go.World):Nat:=w.heap.size
abbrev List.kq{a:Type}(l:List a):Nat:=l.length
variable{m k i j o p s d:Nat}{w t e:cn}{T U:cw}{h:Go.Addr}{D E:Bool}{P:cA}
namespace Go.Proofs.YteeagjkaflglpaaGreat
open Go.ChangeShapes Go.WideShapes Go.ChangeAt Go.RowKit Go.Conc
def xt:cz:=(List.range 883).map λi=>0x1bbbefdd2f26eebbe92e64c3be1d9979efdf9fd79c3dd7e5e7bf7e7f5e70f741932ebd986be4ddd77d25cc9877c3b32f3dfbf3faf387bafcbcf7efcfebce1ee839f7cb3b26eebbe92e64c3be1d9979efdf9fd79c3dd7e5e7bf7e7f5e70f741cf5ecc35f26eebbe92e64c3be1d9979efdf9fd79c3dd7e5e7bf7e7f5e70f741cf3ef9993775df4973261df0eccbcf7efcfebce1eebf2f3dfbf3faf387ba0e9cf0ccc9bbaefa4b9930ef87665e7bf7e7f5e70f75f979efdf9fd79c3dd072cbd3341c9bbaefa4b9930ef87665e7bf7e7f5e70f75f979efdf9fd79c3dd065eb1326eebbe92e64c3be1d9979efdf9fd79c3dd7e5e7bf7e7f5e70f741cf2ebc35326eebbe92e64c3be1d9979efdf9fd79c3dd7e5e7bf7e7f5e70f741932e4d3db4c4c9bbaefa4b9930ef87665e7bf7e7f5e70f75f979efdf9fd79c3dd074e797a72dfa29e4ddd77d25cc9877c3b32f3dfbf3faf387bafcbcf7efcfebce1ee839eed39f2c2c9bbaefa4b9930ef87665e7bf7e7f5e70f75f979efdf9fd79c3dd074e7be664ddd77d25cc9877c3b32f3dfbf3faf387bafcbcf7efcfebce1ee83265e59716debbb2d2c9bbaefa4b9930ef87665e7bf7e7f5e70f75f979efdf9fd79c3dd072cba79e18b93775df4973261df0eccbcf7efcfebce1eebf2f3dfbf3faf387ba0e99b2ccc9bbaefa4b9930ef87665e7bf7e7f5e70f75f979efdf9fd79c3dd072cbd30ccc9bbaefa4b9930ef87665e7bf7e7f5e70f75f979efdf9fd79c3dd064cbdb965a793775df4973261df0eccbcf7efcfebce1eebf2f3dfbf3faf387ba0e9cf2f7cb1b26eebbe92e64c3be1d9979efdf9fd79c3dd7e5e7bf7e7f5e70f741cf761d94326eebbe92e64c3be1d9979efdf9fd79c3dd7e5e7bf7e7f5e70f741932f3e597b65a593775df4973261df0eccbcf7efcfebce1eebf2f3dfbf3faf387ba0e797b72cb4f26eebbe92e64c3be1d9979efdf9fd79c3dd7e5e7bf7e7f5e70f741d30a0e9d71a064cb2e362df132cadd8b460e33316ce596272ddb32c2e30b962e19e4c6d7333c4d5be560d9ce36199cb372d5937cad9bb0c787132c98593941cf9e5ddcb0e8/128^i%128
def SL:Tryz.pinned.checked.prog.initOrder=String.ofList (xt.map Char.ofNat):=by kernel_rfl
def N6:Tryz.pinned.checked.prog.initOrder.toList=xt.map Char.ofNat:=by rw[SL,String.toList_ofList]
def N7:(behindMainWord (wordsSigns (xt.map Char.ofNat))).head?=some "cut".toList:=by kernel_rfl
def N8:∃r,behindMainWord (wordsSigns (xt.map Char.ofNat))= "cut".toList::r:=by
 have h:=N7;revert h;generalize behindMainWord (wordsSigns (xt.map Char.ofNat))=l;intro h;cases l with
 |nil=>cases h
 |cons x r=>exact⟨r,by rw[cO h]⟩
def t1:("cut".toList== "gc".toList)=false:=by kernel_rfl
def t2:("cut".toList== "spec".toList)=false:=by kernel_rfl
def t3:("cut".toList== "cut".toList)=true:=by kernel_rfl
def t4:("cut".toList== "carried".toList)=false:=by kernel_rfl
def t5(r:List (List Char)):(stripLifts liftWords ("cut".toList::r))=([], "cut".toList::r):=by kernel_rfl
def t9:((some "cut".toList:Option (List Char))==some "cut".toList)=true:=by kernel_rfl
def t10:([]:List String).contains "finals" =false:=by kernel_rfl
def t11:([]:List String).contains "reflectrows" =false:=by kernel_rfl
def t12:([]:List String).contains "leanrows" =false:=by kernel_rfl
def N9(P:cA)(r:List (List Char))(h:behindMainWord (wordsSigns P.initOrder.toList)= "cut".toList::r):P.make=some .cut:=by unfold Program.make;rw[h];dsimp only;rw[t1,t2,t3,Bool.or_self,cy Bool.false_ne_true,Bool.true_or,cB rfl]
def Cx(P:cA)(r:List (List Char))(h:behindMainWord (wordsSigns P.initOrder.toList)= "cut".toList::r)(a:P.laysLater=false)(b:P.bearsReflect=false)(c:P.doorFits []=true):P.mayEnter=true:=by unfold Program.mayEnter;rw[h];dsimp only;rw[t5,t1,t2,t4,a,b,c];dsimp only;rw[List.head?_cons,t9,t10,t11,t12];rfl
def zP(P:cA)(r:List (List Char))(h:behindMainWord (wordsSigns P.initOrder.toList)= "cut".toList::r):P.liftsFinal=false:=by unfold Program.liftsFinal Program.headLifts;rw[h];kernel_rfl
def Bc:∃r,behindMainWord (wordsSigns Tryz.pinned.checked.prog.initOrder.toList)= "cut".toList::r:=by rw[N6];exact N8
def t6:Tryz.pinned.checked.prog.laysLater=false:=by kernel_rfl
def t7:Tryz.pinned.checked.prog.bearsReflect=false:=by kernel_rfl
def t8:Tryz.pinned.checked.prog.doorFits []=true:=by kernel_rfl
def Oa:Tryz.pinned.checked.prog.mayEnter=true:=Bc.elim λr h=>Cx _ r h t6 t7 t8
def KU:Tryz.pinned.checked.prog.liftsFinal=false:=Bc.elim λr h=>zP _ r h
def KV:Tryz.pinned.checked.prog.make=some .cut:=Bc.elim λr h=>N9 _ r h
def kA(h:D=true)(k:E=true):(D&&E)=true:=by rw[h,k];rfl
def Tryz.own:ownKnob Tryz.prog.godebug=none:=by kernel_rfl
def Tryz.laidOut:laidOutB Tryz.prog=true:=by kernel_rfl
def Tryz.KX:Tryz.prog.cellsOf 3=1:=by kernel_rfl
def Tryz.vH:Tryz.prog.underlying 27=some (.slice 3):=by kernel_rfl
def Tryz.IK:Tryz.prog.underlying 3=some (.int .i64):=by kernel_rfl
def Tryz.SM:Tryz.prog.underlying 4=some .bool:=by kernel_rfl
def IL{r:Reach}(b:P.underlying T=some (.slice U))(a:Value.okWide P w r m T (.slice (some h) k i)):h.spot=none/\∃x,w.shape? h.block=some x:=by simp only[Value.okWide,b,Cell.okWide,Cell.ok]at a;obtain⟨_,_,_,c,d,cells,e,_⟩:=a;exact⟨c,_,e⟩
def t14:(Rows.roundLogsRow.lifted==false)=true:=by kernel_rfl
def Ob:(Rows.roundLogsRow.lifted==Tryz.pinned.checked.prog.liftsFinal)=true:=(cT (λx=>Rows.roundLogsRow.lifted==x) KU).trans t14
def t13:(some Make.cut==some Rows.roundLogsRow.make)=true:=by kernel_rfl
def Oc:(Tryz.pinned.checked.prog.make==some Rows.roundLogsRow.make)=true:=(cT (λx=>x==some Rows.roundLogsRow.make) KV).trans t13
def FG:joinedFacts Tryz.pinned.checked.prog 20 Tryz.f20 Rows.roundLogsSpec Rows.roundLogsRow=true:=by unfold joinedFacts;exact(kA (kA (kA (kA (kA (kA (kA (kA (kA (kA (kA (kA (kA (kA (kA (kA (kA (kA (kA (kA (kA (kA (kA (kA (kA (kA (kA (kA (kA (kA (kA (by kernel_rfl) (by kernel_rfl)) (by kernel_rfl)) (by kernel_rfl)) (by kernel_rfl)) (by kernel_rfl)) (by kernel_rfl)) (by kernel_rfl)) (by kernel_rfl)) (by kernel_rfl)) (by kernel_rfl)) (by kernel_rfl)) (by kernel_rfl)) (by kernel_rfl)) (by kernel_rfl)) (by kernel_rfl)) (by kernel_rfl)) (by kernel_rfl)) (by kernel_rfl)) (by kernel_rfl)) (by kernel_rfl)) (by kernel_rfl)) (by kernel_rfl)) (by kernel_rfl)) (by kernel_rfl)) Oa) Ob) Oc) (by kernel_rfl)) (by kernel_rfl)) (by kernel_rfl)) (by kernel_rfl))
end Go.Proofs.YteeagjkaflglpaaGreat
namespace Go.Proofs.W
def jL(n:Nat):Code->Option Code
 | .region i o b=>if i=n then some (.region i o b)else none
 | .loop c=>jL n c
 | .seq a b=>(jL n a).or (jL n b)
 | .block _ c=>jL n c
 | .scope c=>jL n c
 | .cond _ a b=>(jL n a).or (jL n b)
 |_=>none
def opsOf:Code->Array Oper
 | .region _ a _=>a
 |_=>#[]
def fU(a:Func)(n:Nat):Code:=(a.body.bind (jL n)).getD .skip
end Go.Proofs.W
variable{x y z:cq}{W X:Array cq}{M Y:List cq}
namespace Go.cP
structure dm where
 S:dH->Bool
 dim:Bool
 ok:dH->Code->Bool
 df:dH->Bool
 fs:Array Func
 hole:dH->Bool
 sh:Nat->Option Nat:=λ_=>none
 r:Nat->Nat->Prop
 mg:∀b c c',r b c->r b c'->c=c'
 oq:∀b b' c,r b c->r b' c->b=b'\/(sh b≠none/\sh b'≠none)
structure dm.Le(ρ nM:dm):Prop where
 s:ρ.S=nM.S
 d:ρ.dim=nM.dim
 o:ρ.ok=nM.ok
 f:ρ.fs=nM.fs
 h:ρ.hole=nM.hole
 w:ρ.df=nM.df
 g:ρ.sh=nM.sh
 r:∀b c,ρ.r b c->nM.r b c
def dm.Le.refl(ρ:dm):dm.Le ρ ρ:=⟨rfl,rfl,rfl,rfl,rfl,rfl,rfl,λ_ _ h=>h⟩
theorem dm.Le.trans{a b c:dm}(h:dm.Le a b)(k:dm.Le b c):dm.Le a c:=⟨h.s.trans k.s,h.d.trans k.d,h.o.trans k.o,h.f.trans k.f,h.h.trans k.h,h.w.trans k.w,h.g.trans k.g,λx y z=>k.r _ _ (h.r x y z)⟩
def dm.ext(ρ:dm)(n m:Nat)(d:∀c,¬ρ.r n c)(e:∀b,¬ρ.r b m):dm where
 S:=ρ.S
 dim:=ρ.dim
 ok:=ρ.ok
 df:=ρ.df
 fs:=ρ.fs
 hole:=ρ.hole
 sh:=ρ.sh
 r:=λb c=>ρ.r b c\/(b=n/\c=m)
 mg:=by intro b c f h a;rcases h with h|h;rcases a with a|a;exact ρ.mg _ _ _ h a;rw[a.1]at h;exact absurd h (d _);rcases a with a|a;rw[h.1]at a;exact absurd a (d _);rw[h.2,a.2]
 oq:=by intro b c f h a;rcases h with h|h;rcases a with a|a;exact ρ.oq _ _ _ h a;rw[a.2]at h;exact absurd h (e _);rcases a with a|a;rw[h.2]at a;exact absurd a (e _);exact .inl (by rw[h.1,a.1])
@[simp] def dm.UA (ρ:dm) (n m:Nat) (a:∀c,¬ρ.r n c) (d:∀b,¬ρ.r b m):(ρ.ext n m a d).fs=ρ.fs:=rfl
def dm.sP(ρ:dm)(n m:Nat)(a:∀c,¬ρ.r n c)(d:∀b,¬ρ.r b m):dm.Le ρ (ρ.ext n m a d):=⟨rfl,rfl,rfl,rfl,rfl,rfl,rfl,λ_ _ h=>.inl h⟩
def dm.rH(ρ:dm)(n m:Nat)(a:∀c,¬ρ.r n c)(d:∀b,¬ρ.r b m):(ρ.ext n m a d).r n m:=.inr ⟨rfl,rfl⟩
def dm.Def(ρ:dm):Prop:=∃f,ρ.df f=true
def dm.Def.mono{ρ a:dm}(b:dm.Le ρ a)(h:ρ.Def):a.Def:=by obtain⟨f,h⟩:=h;exact⟨f,b.w▸h⟩
def sv(ρ:dm)(v:cq):Prop:=ρ.Def\/∀t k n,v≠ .iface t (.int k n)
theorem sv.mono{ρ a:dm}(b:dm.Le ρ a)(h:sv ρ x):sv a x:=h.imp (.mono b) id
inductive AR (ρ:dm):Addr->Addr->Prop
 |mk {b c:Nat} (o:Nat) (s:Option Nat) (h:ρ.r b c):AR ρ ⟨b,o,s⟩ ⟨c,o+(ρ.sh b).getD 0,s⟩
inductive VR (ρ:dm):cq->cq->Prop
 |bool (b:Bool):VR ρ (.bool b) (.bool b)
 |int (k:IntKind) (n:Int):VR ρ (.int k n) (.int k n)
 |string (s:ByteArray):VR ρ (.string s) (.string s)
 |iR:VR ρ (.pointer none) (.pointer none)
 |ptr {a a':Addr} (h:AR ρ a a'):VR ρ (.pointer (some a)) (.pointer (some a'))
 |fF (l c:Nat):VR ρ (.slice none l c) (.slice none l c)
 |slice {a a':Addr} (l c:Nat) (h:AR ρ a a'):VR ρ (.slice (some a) l c) (.slice (some a') l c)
 |qA:VR ρ (.map none) (.map none)
 |map {r r':Nat} (h:ρ.r r r'):VR ρ (.map (some r)) (.map (some r'))
 |po:VR ρ (.chan none) (.chan none)
 |chan {r r':Nat} (h:ρ.r r r'):VR ρ (.chan (some r)) (.chan (some r'))
 |func {f:dH} {fs UB cs rI:Array cq} (hS:ρ.S f=true) (h1:fs.size=UB.size) (h2:∀(i:Nat) v v',fs[i]? =some v->UB[i]? =some v'->VR ρ v v')
  (h3:cs.size=rI.size) (h4:∀(i:Nat) v v',cs[i]? =some v->rI[i]? =some v'->VR ρ v v'):VR ρ (.func (.func f) fs cs) (.func (.func f) UB rI)
 |yield {l l':Nat} (h:ρ.r l l'):VR ρ (.func (.yield l) #[] #[]) (.func (.yield l') #[] #[])
 |nilFunc:VR ρ .nilFunc .nilFunc
 |nilIface:VR ρ .nilIface .nilIface
 |iface (t:cw) {v v':cq} (h:VR ρ v v'):VR ρ (.iface t v) (.iface t v')
 |agg {cs rI:Array cq} (h1:cs.size=rI.size) (h2:∀(i:Nat) v v',cs[i]? =some v->rI[i]? =some v'->VR ρ v v'):VR ρ (.agg cs) (.agg rI)
 |tuple {cs rI:Array cq} (h1:cs.size=rI.size) (h2:∀(i:Nat) v v',cs[i]? =some v->rI[i]? =some v'->VR ρ v v'):VR ρ (.tuple cs) (.tuple rI)
 |Bd (hd:ρ.dim=true) (a:Addr):VR ρ (.tuple #[]) (.pointer (some a))
structure fc(ρ:dm)(cs rI:Array cq):Prop where
 size:cs.size=rI.size
 at_:∀(i:Nat) v v',cs[i]? =some v->rI[i]? =some v'->VR ρ v v'
inductive qc (ρ:dm):List cq->List cq->Prop
 |nil:qc ρ [] []
 |cons {v v':cq} {l l':List cq} (h:VR ρ v v') (t:qc ρ l l'):qc ρ (v::l) (v'::l')
theorem qc.length{ρ:dm}(h:qc ρ M Y):M.length=Y.length:=by
 induction h with
 |nil=>rfl
 |cons _ _ a=>simp[a]
def qc.get{ρ:dm}(h:qc ρ M Y):∀(i:Nat) v a,M[i]? =some v->Y[i]? =some a->VR ρ v a:=by
 induction h with
 |nil=>intro i v a h;simp at h
 |cons h t d=>
  intro i v a b c;cases i with
  |zero=>simp at b c;subst b;subst c;exact h
  |succ i=>simp at b c;exact d i v a b c
theorem qc.of{ρ:dm}:∀{l a:dr},l.length=a.length->(∀(i:Nat) v b,l[i]? =some v->a[i]? =some b->VR ρ v b)->qc ρ l a
 |[],[],_,_=>.nil
 |[],_::_,h,_=>by simp at h
 |_::_,[],h,_=>by simp at h
 |v::l,b::a,h,k=>.cons (k 0 v b rfl rfl) (qc.of (by simpa using h) λi x c d e=>k (i+1) x c (by simpa using d) (by simpa using e))
def fc.list{ρ:dm}(h:fc ρ W X):qc ρ W.toList X.toList:=
 qc.of (by simpa using h.size) λi v a b c=>h.at_ i v a (by simpa using b) (by simpa using c)
def qc.array{ρ:dm}(h:qc ρ M Y):fc ρ M.toArray Y.toArray:=
 ⟨by simpa using h.length,λi v a b c=>h.get i v a (by simpa using b) (by simpa using c)⟩
def fc.ku{ρ:dm}(h:qc ρ W.toList X.toList):fc ρ W X:=by have:=h.array;simpa using this
def qc.append{ρ:dm}{b a:dr}(h:qc ρ M Y)(k:qc ρ b a):qc ρ (M++b) (Y++a):=by
 induction h with
 |nil=>exact k
 |cons h _ c=>exact .cons h c
theorem qc.drop{ρ:dm}(h:qc ρ M Y)(n:Nat):qc ρ (M.drop n) (Y.drop n):=by
 induction h generalizing n with
 |nil=>simp;exact .nil
 |cons h t a=>
  cases n with
  |zero=>simpa using qc.cons h t
  |succ n=>simpa using a n
theorem qc.take{ρ:dm}(h:qc ρ M Y)(n:Nat):qc ρ (M.take n) (Y.take n):=by
 induction h generalizing n with
 |nil=>simp;exact .nil
 |cons h t a=>
  cases n with
  |zero=>simp;exact .nil
  |succ n=>simpa using qc.cons h (a n)
def VR.mono{ρ f:dm}(e:dm.Le ρ f)(h:VR ρ x y):VR f x y:=by
 have m:∀{a p},AR ρ a p->AR f a p:=λh=>by cases h with|mk o s h=>rw[e.g];exact .mk o s (e.r _ _ h)
 induction h with
 |bool b=>exact .bool b
 |int k n=>exact .int k n
 |string s=>exact .string s
 |iR=>exact .iR
 |ptr h=>exact .ptr (m h)
 |fF l c=>exact .fF l c
 |slice l c h=>exact .slice l c (m h)
 |qA=>exact .qA
 |map h=>exact .map (e.r _ _ h)
 |po=>exact .po
 |chan h=>exact .chan (e.r _ _ h)
 |func q i _ u _ j v=>exact .func (e.s▸q) i j u v
 |yield h=>exact .yield (e.r _ _ h)
 |nilFunc=>exact .nilFunc
 |nilIface=>exact .nilIface
 |iface t _ w=>exact .iface t w
 |agg i _ j=>exact .agg i j
 |tuple i _ j=>exact .tuple i j
 |Bd z a=>exact .Bd (e.d▸z) a
theorem fc.mono{ρ c:dm}(d:dm.Le ρ c)(h:fc ρ W X):fc c W X:=⟨h.size,λi x e a b=>(h.at_ i x e a b).mono d⟩
theorem qc.mono{ρ a:dm}(b:dm.Le ρ a)(h:qc ρ M Y):qc a M Y:=by
 induction h with
 |nil=>exact .nil
 |cons h _ c=>exact .cons (h.mono b) c
def AR.mono{ρ a:dm}(b:dm.Le ρ a){d:Addr}(c:AR ρ h d):AR a h d:=by cases c with|mk o s c=>rw[b.g];exact .mk o s (b.r _ _ c)
section
variable{ρ:dm}
theorem AR.add{a b:Addr}(h:AR ρ a b)(n:Nat):AR ρ (a.add n) (b.add n):=by
 cases h with
 |mk o s h=>
  unfold Addr.add;split;exact .mk o s h;have:=AR.mk (ρ:=ρ) (o+n) none h;rw[Nat.add_right_comm]at this;exact this
def AR.of(o:Nat)(s:Option Nat)(h:ρ.r m k)(a:ρ.sh m=none):AR ρ ⟨m,o,s⟩ ⟨k,o,s⟩:=by have:=AR.mk (ρ:=ρ) o s h;rwa[a]at this
theorem VR.undef:VR ρ undef undef:=.tuple rfl (λi v a h=>by simp at h)
def fc.nil:fc ρ #[] #[]:=⟨rfl,λi v a h=>by simp at h⟩
def fc.one(h:VR ρ x y):fc ρ #[x] #[y]:=fc.ku (.cons h .nil)
def fc.KY{a:cq}(h:VR ρ x y)(k:VR ρ z a):fc ρ #[x,z] #[y,a]:=fc.ku (.cons h (.cons k .nil))
theorem fc.push(h:fc ρ W X)(k:VR ρ x y):fc ρ (W.push x) (X.push y):=
 fc.ku (by simpa using h.list.append (.cons k .nil))
theorem fc.append{b a:dU}(h:fc ρ W X)(k:fc ρ b a):fc ρ (W++b) (X++a):=
 fc.ku (by simpa using h.list.append k.list)
def fc.get?(h:fc ρ W X)(i:Nat):(W[i]? =none/\X[i]? =none)\/∃v c,W[i]? =some v/\X[i]? =some c/\VR ρ v c:=by by_cases b:i<W.size;have a:i<X.size:=h.size▸b;exact .inr ⟨W[i],X[i],iY b,iY a,h.at_ i _ _ (iY b) (iY a)⟩;have a:¬i<X.size:=h.size▸b;exact .inl ⟨lT (by omega),lT (by omega)⟩
theorem fc.getD(h:fc ρ W X)(k:VR ρ x y)(i:Nat):VR ρ (W.getD i x) (X.getD i y):=by
 have e:∀(a:dU) (x:cq),a.getD i x=(a[i]?).getD x:=λa x=>by simp[wx]
 rw[e,e];rcases h.get? i with⟨a,b⟩|⟨v,d,a,b,c⟩;rw[a,b];exact k;rw[a,b];exact c
def fc.set(h:fc ρ W X)(i:Nat)(k:VR ρ x y):fc ρ (W.setIfInBounds i x) (X.setIfInBounds i y):=by refine⟨by simpa using h.size,λj d e a b=>?_⟩;rw[Array.getElem?_setIfInBounds]at a b;by_cases c:i=j;subst c;rw[cB rfl]at a b;split at a;split at b;cases a;cases b;exact k;cases b;cases a;rw[cy c]at a b;exact h.at_ j d e a b
theorem fc.replicate(n:Nat)(k:VR ρ x y):fc ρ (Array.replicate n x) (Array.replicate n y):=by refine⟨by simp,λj c d a b=>?_⟩;rw[sj]at a b;split at a;cases a;rename_i h;rw[cB h]at b;cases b;exact k;cases a
theorem fc.extract(h:fc ρ W X)(a b:Nat):fc ρ (W.extract a b) (X.extract a b):=by refine⟨by simp[h.size],λj x e c d=>?_⟩;rw[Array.getElem?_extract]at c d;split at c;split at d;exact h.at_ _ _ _ c d;cases d;cases c
theorem fc.map{c:Type}(f d:c->cq)(a:Array c)(h:∀x∈a,VR ρ (f x) (d x)):fc ρ (a.map f) (a.map d):=by refine⟨by simp,λj x i e b=>?_⟩;rw[qw]at e b;obtain⟨y,g,rfl⟩:=il.1 e;rw[g]at b;cases b;exact h y (mo g)
theorem VR.cells{v a:cq}(h:VR ρ v a):fc ρ v.cells a.cells:=by
 cases h<;>first
  |exact fc.one (by first|exact .bool _|exact .int _ _|exact .string _|exact .iR|exact .ptr ‹_›|exact .fF _ _|exact .slice _ _ ‹_›|exact .qA|exact .map ‹_›|exact .po|exact .chan ‹_›|exact .func ‹_› ‹_› ‹_› ‹_› ‹_›|exact .yield ‹_›|exact .nilFunc|exact .nilIface|exact .iface _ ‹_›|exact .tuple ‹_› ‹_›|exact .Bd ‹_› _)
  |exact⟨‹_›,‹_›⟩
theorem fc.agg{b a:dU}(h:fc ρ b a):VR ρ (.agg b) (.agg a):=.agg h.size h.at_
def fc.VD(h:fc ρ W X):VR ρ (.tuple W) (.tuple X):=.tuple h.size h.at_
end
end Go.cP
variable{R:Go.cP.dm}{O Q:Go.Obj}
namespace Go.cP
structure sQ(ρ:dm)(e e':MapEntry):Prop where
 key:VR ρ e.key e'.key
 val:VR ρ e.val e'.val
 born:e.born=e'.born
structure Cy(ρ:dm)(l l':Loop):Prop where
 state:l.state=l'.state
 pending:l.pending=l'.pending
 fn:l.fn=l'.fn
 tmps:fc ρ l.tmps l'.tmps
 params:l.params=l'.params
 assign:l.assign=l'.assign
 body:l.body=l'.body
 defers:ρ.r l.defers l'.defers
 fnS:ρ.S l.fn=true
 okA:ρ.ok l.fn l.assign=true
 okB:ρ.ok l.fn l.body=true
 okP:∀c,l.pending=some c->∀f,ρ.ok f c=true
 hd:ρ.df l.fn=false
 fnH:ρ.hole l.fn=false
def Cz(b:Nat×Nat)(a:Nat):Prop:=b.1<=a/\a<b.2
inductive jM (ρ:dm):Obj->Obj->Prop
 |cells {cs rI:Array cq} {t:cw} {fz T3:Nat×Nat} (h:fc ρ cs rI) (hf:∀off,Cz T3 off->Cz fz off):jM ρ (.cells cs t fz) (.cells rI t T3)
 |map {es Od:Array MapEntry} {c:Nat} (h1:es.size=Od.size) (h2:∀(i:Nat) e e',es[i]? =some e->Od[i]? =some e'->sQ ρ e e'):jM ρ (.map es c) (.map Od c)
 |loop {l l':Loop} (h:Cy ρ l l'):jM ρ (.loop l) (.loop l')
 |tI:jM ρ (.deferred (some [])) (.deferred (some []))
 |taken:jM ρ (.deferred none) (.deferred none)
 |number {a a':Addr} (l:Bool) (h:AR ρ a a'):jM ρ (.number a l) (.number a' l)
theorem sQ.mono{a:dm}(b:dm.Le R a){e c:MapEntry}(h:sQ R e c):sQ a e c:=⟨h.key.mono b,h.val.mono b,h.born⟩
theorem Cy.mono{b:dm}(a:dm.Le R b){e c:Loop}(h:Cy R e c):Cy b e c:=
 ⟨h.state,h.pending,h.fn,h.tmps.mono a,h.params,h.assign,h.body,a.r _ _ h.defers,a.s▸h.fnS,a.o▸h.okA,a.o▸h.okB,a.o▸h.okP,a.w▸h.hd,a.h▸h.fnH⟩
theorem jM.mono{d:dm}(c:dm.Le R d)(h:jM R O Q):jM d O Q:=by
 cases h with
 |cells h f=>exact .cells (h.mono c) f
 |map g j=>exact .map g λi e k a b=>(j i e k a b).mono c
 |loop h=>exact .loop (h.mono c)
 |tI=>exact .tI
 |taken=>exact .taken
 |number l h=>exact .number l (h.mono c)
def sR:cw:=1000000007
structure SO(ρ:dm)(n:Nat)(o o':Obj):Prop where
 out:∃cs fz rI t' T3,o=.cells cs sR fz/\o'=.cells rI t' T3/\(∀off,off<cs.size->Cz fz off)/\∀(i:Nat) x,cs[i]? =some x->∃x',rI[i+n]? =some x'/\VR ρ x x'
def Hv(a:dm)(m:Option Nat)(o b:Obj):Prop:=(m=none/\jM a o b)\/∃n,m=some n/\SO a n o b
theorem SO.mono{a:dm}(b:dm.Le R a)(h:SO R m O Q):SO a m O Q:=by obtain⟨e,f,c,g,d,j,k,l,n⟩:=h.out;exact⟨e,f,c,g,d,j,k,l,λi x o=>by obtain⟨p,q,r⟩:=n i x o;exact⟨p,q,r.mono b⟩⟩
theorem Hv.mono{a:dm}(b:dm.Le R a){n:Option Nat}(h:Hv R n O Q):Hv a n O Q:=h.imp (λx=>⟨x.1,x.2.mono b⟩) λ⟨n,e,x⟩=>⟨n,e,x.mono b⟩
structure HR(ρ:dm)(v u:cn):Prop where
 obj:∀b c,ρ.r b c->∃o o',v.heap[b]? =some o/\u.heap[c]? =some o'/\Hv ρ (ρ.sh b) o o'
 low:∀b,v.heap.size<=b->ρ.sh b=none
def HR.of(d:∀c,R.sh c=none)(h:∀b c,R.r b c->∃o a,w.heap[b]? =some o/\t.heap[c]? =some a/\jM R o a):HR R w t:=⟨λb c e=>by obtain⟨o,a,f,g,i⟩:=h b c e;exact⟨o,a,f,g,.inl ⟨d b,i⟩⟩,λc _=>d c⟩
structure WR(ρ:dm)(v u:cn):Prop where
 obj:∀b c,ρ.r b c->∃o o',v.heap[b]? =some o/\u.heap[c]? =some o'/\Hv ρ (ρ.sh b) o o'
 low:∀b,v.heap.size<=b->ρ.sh b=none
 tape:∀j q,v.tape (v.drawn+j) q=u.tape (u.drawn+j) q
def WR.hr(h:WR R w t):HR R w t:=⟨h.obj,h.low⟩
def lt_of_heap(h:w.heap[m]? =some O):m<w.heap.size:=(eU.1 h).1
def wA(v:cn)(b:Nat):Prop:=∃c t d,v.heap[b]? =some (.cells c t d)/\∀a,a<c.size->Cz d a
def UC(d:dm)(v:cn)(n m:Nat)(e:Event):Prop:=
 (∃a c b,e=⟨.cell a,c,false⟩/\d.r b a.block/\(∃f t g,v.heap[b]? =some (.cells f t g)/\f≠#[])/\(c=true->¬wA v b))\/
 (∃r c b,e=⟨.obj r,c,false⟩/\d.r b r/\¬wA v b)\/(∃a c,e=⟨.cell a,c,false⟩/\n<=a.block/\a.block<m)\/(∃r c,e=⟨.obj r,c,false⟩/\n<=r/\r<m)\/
 e=⟨.mark .noRoom,false,true⟩
structure eT(ρ nM:dm)(v u v' u':cn)(es:Array Event):Prop where
 le:dm.Le ρ nM
 rel:WR nM v' u'
 vsize:v.heap.size<=v'.heap.size
 usize:u.heap.size<=u'.heap.size
 fresh:∀b c,nM.r b c->ρ.r b c\/(v.heap.size<=b/\u.heap.size<=c)
 same:∀c,c<u.heap.size->(∀b,ρ.r b c->wA v b)->u'.heap[c]? =u.heap[c]?
 tC:∀b,wA v b->v'.heap[b]? =v.heap[b]?
 warm:∀b,b<v.heap.size->wA v' b->wA v b
 rows:∀b,b<v.heap.size->(∃cs t fz,v'.heap[b]? =some (.cells cs t fz)/\cs≠#[])->∃cs t fz,v.heap[b]? =some (.cells cs t fz)/\cs≠#[]
 tape:u'.tape=u.tape
 os:u'.os=u.os
 output:u'.output=u.output
 vtape:v'.tape=v.tape
 evs:∀e∈es,UC ρ v u.heap.size u'.heap.size e
def wA.keep(h:wA w m)(k:t.heap[m]? =w.heap[m]?):wA t m:=by unfold wA at*;rwa[k]
def wA.lt(h:wA w m):m<w.heap.size:=by obtain⟨_,_,_,h,_⟩:=h;exact lt_of_heap h
theorem eT.refl(h:WR R w t):eT R R w t w t #[]:=
 ⟨.refl _,h,cJ _,cJ _,λ_ _ h=>.inl h,λ_ _ _=>rfl,λ_ _=>rfl,λ_ _ h=>h,λ_ _ h=>h,rfl,rfl,rfl,rfl,λe a=>by simp at a⟩
theorem eT.trans{i l:dm}{G u p:cn}{H v:Array Event}(K:WR R w t)(h:eT R i w t e G H)(k:eT i l e G u p v):eT R l w t u p (H++v):=by
 have C:∀b c,i.r b c->c<t.heap.size->R.r b c:=λb c d y=>(h.fresh b c d).elim id λx=>by omega
 have I:∀b c,i.r b c->b<w.heap.size->R.r b c:=λb c d y=>(h.fresh b c d).elim id λx=>by omega
 refine⟨h.le.trans k.le,k.rel,cZ h.vsize k.vsize,cZ h.usize k.usize,λb c d=>?_,λc y g=>?_,λb m=>?_,λb m g=>?_,λb m L=>h.rows b m (k.rows b (dE m h.vsize) L),k.tape.trans h.tape,k.os.trans h.os,k.output.trans h.output,
  k.vtape.trans h.vtape,λJ z=>?_⟩
 rcases k.fresh b c d with j|⟨j,B⟩;exact h.fresh b c j;exact .inr ⟨cZ h.vsize j,cZ h.usize B⟩;rw[k.same c (dE y h.usize) λb d=>?_,h.same c y g];have A:=g b (C b c d y);exact A.keep (h.tC b A);have:=h.tC b m;rw[k.tC b (m.keep this),this];exact h.warm b m (k.warm b (dE m h.vsize) g);rcases Cs.1 z with z|z;rcases h.evs J z with⟨a,f,b,rfl,d,D,g⟩|⟨r,f,b,rfl,d,g⟩|⟨a,f,rfl,q,s⟩|⟨r,f,rfl,q,s⟩|rfl;exact .inl ⟨a,f,b,rfl,d,D,g⟩;exact .inr (.inl ⟨r,f,b,rfl,d,g⟩);exact .inr (.inr (.inl ⟨a,f,rfl,q,dE s k.usize⟩));exact .inr (.inr (.inr (.inl ⟨r,f,rfl,q,dE s k.usize⟩)));exact .inr (.inr (.inr (.inr rfl)));have n:∀b,¬wA e b->¬wA w b:=λb E g=>E (g.keep (h.tC b g))
 have split:∀b c,i.r b c->(R.r b c/\b<w.heap.size)\/(t.heap.size<=c/\c<p.heap.size):=λb c d=>(h.fresh b c d).elim (λx=>.inl ⟨x,by
  obtain⟨o,_,F,_⟩:=K.obj b c x;exact lt_of_heap F⟩) λx=>.inr ⟨x.2,by
  obtain⟨_,o,_,F,_⟩:=h.rel.obj b c d;exact dE (lt_of_heap F) k.usize⟩
 rcases k.evs J z with⟨a,f,b,rfl,d,D,g⟩|⟨r,f,b,rfl,d,g⟩|⟨a,f,rfl,q,s⟩|⟨r,f,rfl,q,s⟩|rfl;rcases split _ _ d with⟨j,B⟩|j;exact .inl ⟨a,f,b,rfl,j,h.rows b B D,λx=>n b (g x)⟩;exact .inr (.inr (.inl ⟨a,f,rfl,j⟩));rcases split _ _ d with⟨j,B⟩|j;exact .inr (.inl ⟨r,f,b,rfl,j,n b g⟩);exact .inr (.inr (.inr (.inl ⟨r,f,rfl,j⟩)));exact .inr (.inr (.inl ⟨a,f,rfl,cZ h.usize q,s⟩));exact .inr (.inr (.inr (.inl ⟨r,f,rfl,cZ h.usize q,s⟩)));exact .inr (.inr (.inr (.inr rfl)))
abbrev _root_.Go.Program.it(P:cA)(a:Array Func):cA:={toTables:=P.toTables,funcs:=a}
def _root_.Go.Halt.dead:Halt->Bool
 | .stuck _=>true
 | .unsupported (.initOrder _)=>false
 | .unsupported _=>true
 |_=>false
inductive SR (P:cA) {α β:Type} (A:dm->α->β->Prop):dm->Sem α->Sem β->Prop
 |pure {ρ:dm} {a:α} {b:β} (h:A ρ a b):SR P A ρ (.pure a) (.pure b)
 |load {ρ:dm} {a a':Addr} {k:cq->Sem α} {k':cq->Sem β} (ha:AR ρ a a') (h:∀v v',VR ρ v v'->SR P A ρ (k v) (k' v')):SR P A ρ (.load .plain a k) (.load .plain a' k')
 |store {ρ:dm} {a a':Addr} {v v':cq} {k:Sem α} {k':Sem β} (ha:AR ρ a a') (hv:VR ρ v v') (h:SR P A ρ k k'):SR P A ρ (.store .plain a v k) (.store .plain a' v' k')
 |new {ρ:dm} {o o':Obj} {k:Nat->Sem α} {k':Nat->Sem β} (ho:jM ρ o o') (h:∀n n' hn hm,ρ.sh n=none->SR P A (ρ.ext n n' hn hm) (k n) (k' n')):SR P A ρ (.new o k) (.new o' k')
 |getObj {ρ:dm} {r r':Nat} {k:Obj->Sem α} {k':Obj->Sem β} (hr:ρ.r r r') (h:∀o o',jM ρ o o'->(∀cs t fz,o≠ .cells cs t fz)->SR P A ρ (k o) (k' o')):
  SR P A ρ (.getObj r k) (.getObj r' k')
 |setObj {ρ:dm} {r r':Nat} {o o':Obj} {k:Sem α} {k':Sem β} (hr:ρ.r r r') (ho:jM ρ o o') (hc:∀cs t fz,o≠ .cells cs t fz) (h:SR P A ρ k k'):SR P A ρ (.setObj r o k) (.setObj r' o' k')
 |shape {ρ:dm} {r r':Nat} {k:Option (cw×Nat)->Sem α} {k':Option (cw×Nat)->Sem β} (hr:ρ.r r r') (h:ρ.sh r=none->∀x,SR P A ρ (k x) (k' x)) (hb:ρ.sh r≠none->∀m y,SR P A ρ (k (some (sR,m))) (k' (some y))):SR P A ρ (.shape r k) (.shape r' k')
 |choose {ρ:dm} {q:Question} {k:Nat->Sem α} {k':Nat->Sem β} (h:∀n,SR P A ρ (k n) (k' n)):SR P A ρ (.choose q k) (.choose q k')
 |program {ρ:dm} {k:cA->Sem α} {k':cA->Sem β} (h:SR P A ρ (k P) (k' (P.it ρ.fs))):SR P A ρ (.program k) (.program k')
 |noRoom {ρ:dm} {k:Sem α} {k':Sem β} (h:SR P A ρ k k'):SR P A ρ (.mark .noRoom k) (.mark .noRoom k')
 |panic {ρ:dm} {v v':cq} (h:VR ρ v v') (hp:sv ρ v):SR P A ρ (.halt (.panic v)) (.halt (.panic v'))
 |dead {ρ:dm} {h:Halt} {s:Sem β} (hd:Halt.dead h=true):SR P A ρ (.halt h) s
 |never {ρ:dm} {s:Sem α} {s':Sem β} (h:∀w,∃hh w',s.run P w=.halt hh w'/\Halt.dead hh=true):SR P A ρ s s'
theorem SR.bind{P:cA}{l p D E:Type}{A:dm->l->p->Prop}{B:dm->D->E->Prop}{ρ:dm}{s:Sem l}{q:Sem p}{f:l->Sem D}{F:p->Sem E}(h:SR P A ρ s q) (k:∀d a b,dm.Le ρ d->A d a b->SR P B d (f a) (F b)):SR P B ρ (s.bind f) (q.bind F):=by
 induction h with
 |pure h=>exact k _ _ _ (.refl _) h
 |load r _ c=>exact .load r λv I t=>c v I t k
 |store r t _ c=>exact .store r t (c k)
 |new g _ c=>exact .new g λn J G H i=>c n J G H i λd a b u=>k d a b ((dm.sP _ _ _ G H).trans u)
 |getObj j _ c=>exact .getObj j λo K g z=>c o K g z k
 |setObj j g z _ c=>exact .setObj j g z (c k)
 |shape j _ _ c L=>exact .shape j (λi x=>c i x k) λi m y=>L i m y k
 |choose _ c=>exact .choose λn=>c n k
 |program _ c=>exact .program (c k)
 |noRoom _ c=>exact .noRoom (c k)
 |panic h M=>exact .panic h M
 |dead C=>exact .dead C
 | @never ρ s q h=>
  refine .never λw=>?_;obtain⟨N,O,e,C⟩:=h w;exact⟨N,O,by rw[Sem.run_bind',e];rfl,C⟩
def j8{α i:Type}(A:dm->α->i->Prop)(ρ:dm)(v u:cn)(r:Result α×Array Event)(j:Result i×Array Event)(e:Array Event):Prop:=
 match r.1 with
 | .ok a g=>∃b f c d,j=(.ok b f,e++d)/\A c a b/\eT ρ c v u g f d
 | .halt (.panic x) g=>∃k f c d,j=(.halt (.panic k) f,e++d)/\(VR c x k/\sv c x)/\eT ρ c v u g f d
 | .halt h _=>h.dead=true
theorem j8.dead{α b:Type}{A:dm->α->b->Prop}{ρ:dm}{v u w:cn}{h:Halt}(c:h.dead=true){d:Array Event}{e:Result b×Array Event}{a:Array Event}:j8 (α:=α) A ρ v u (.halt h w,d) e a:=by unfold j8;cases h<;>first|exact c|cases c
def j8.step{n o:Type}{A:dm->n->o->Prop}{ρ f:dm}{v u p q:cn}{r:Result n×Array Event}{s:Result o×Array Event}{e1 g:Array Event}(t:WR ρ v u) (m:eT ρ f v u p q e1)(h:j8 A f p q r s (g++e1)):j8 A ρ v u r s g:=by
 unfold j8 at*;split;rename_i a w c;rw[c]at h;obtain⟨b,j,d,e,i,k,l⟩:=h;exact⟨b,j,d,e1++e,by rw[i,Array.append_assoc],k,m.trans t l⟩;rename_i x w c;rw[c]at h;obtain⟨b,j,d,e,i,k,l⟩:=h;exact⟨b,j,d,e1++e,by rw[i,Array.append_assoc],k,m.trans t l⟩
 ·rename_i c;rw[c]at h;split at h<;>first|exact h|(rename_i i;cases i;cases‹_›)|skip
  all_goals simp_all
section
variable{ρ:dm}{v u:cn}
def tJ{a:Addr}{at_:Bool}(c:∀x y,v.heap[a.block]?≠some (.view x y))(d:∀x y,v.heap[a.block]?≠some (.pending x y)):∃h,v.farLoad P a at_=.error h/\h.dead=true:=by unfold World.farLoad;split;rename_i x y b;exact absurd b (c _ _);refine⟨_,rfl,?_⟩;unfold World.noCell;split;rename_i b;exact absurd b (d _ _);rfl;rfl
def sx{a:Addr}{at_:Bool}(c:∀x y,v.heap[a.block]?≠some (.view x y))(d:∀x y,v.heap[a.block]?≠some (.pending x y)):∃h,v.farStore P a x at_=.error h/\h.dead=true:=by unfold World.farStore;split;rename_i x y b;exact absurd b (c _ _);refine⟨_,rfl,?_⟩;unfold World.noCell;split;rename_i b;exact absurd b (d _ _);rfl;rfl
def WR.noView(h:WR ρ v u)(c:ρ.r m k):∀x y,v.heap[m]?≠some (.view x y):=by intro x y d;obtain⟨o,f,b,_,a⟩:=h.obj m k c;rw[d]at b;cases b;rcases a with⟨_,a⟩|⟨_,_,_,_,_,_,_,e,_⟩;cases a;cases e
def WR.noPending(h:WR ρ v u)(c:ρ.r m k):∀x y,v.heap[m]?≠some (.pending x y):=by intro x y d;obtain⟨o,f,b,_,a⟩:=h.obj m k c;rw[d]at b;cases b;rcases a with⟨_,a⟩|⟨_,_,_,_,_,_,_,e,_⟩;cases a;cases e
def WR.cell(k:WR ρ v u){g:Addr}(l:AR ρ h g)(a:v.cell? h=some x):∃i,u.cell? g=some i/\VR ρ x i:=by
 cases l with
 | @mk b c o s m=>
  obtain⟨E,p,q,j,d⟩:=k.obj b c m;simp only[World.cell?,q]at a;rcases d with⟨r,d⟩|⟨n,t,F,G,w,H,z,rfl,rfl,A,e⟩;case inr=>
   simp only[World.cell?,j];cases s with
   |some s=>simp at a
   |none=>
    simp only[sO,ik,eF]at a⊢;rw[t];exact e o x a
  rw[r,Option.getD_none,mX];cases d with
  |cells e I=>
   simp only[World.cell?,j];cases s with
   |some s=>simp at a
   |none=>
    simp only[sO,ik,eF]at a⊢;rcases e.get? o with⟨f,_⟩|⟨y,B,f,C,D⟩;rw[f]at a;cases a;rw[f]at a;cases a;exact⟨B,C,D⟩
  |_=>cases a
def WR.shape(h:WR ρ v u){r a:Nat}(c:ρ.r r a):(ρ.sh r=none/\v.shape? r=u.shape? a)\/ρ.sh r≠none/\∃m y,v.shape? r=some (sR,m)/\u.shape? a=some y:=by
 obtain⟨o,l,d,e,b⟩:=h.obj r a c;simp only[World.shape?,d,e];rcases b with⟨f,b⟩|⟨n,g,p,q,i,s,j,rfl,rfl,k,t⟩;refine .inl ⟨f,?_⟩;cases b with
 |cells h _=>simp[h.size]
 |_=>rfl
 exact .inr ⟨by rw[g];simp,_,_,rfl,rfl⟩
def WR.draw(h:WR ρ v u):WR ρ {v with drawn:=v.drawn+1} {u with drawn:=u.drawn+1}:=
 ⟨h.obj,h.low,λj q=>by have:=h.tape (1+j) q;simpa[vF]using this⟩
theorem eT.draw(h:WR ρ v u):eT ρ ρ v u {v with drawn:=v.drawn+1} {u with drawn:=u.drawn+1} #[]:=
 ⟨.refl _,h.draw,cJ _,cJ _,λ_ _ h=>.inl h,λ_ _ _=>rfl,λ_ _=>rfl,λ_ _ h=>h,λ_ _ h=>h,rfl,rfl,rfl,rfl,λe a=>by simp at a⟩
def eT.Rb{a:dm}{c b:cn}{d:Array Event}(m:eT ρ a v u c b #[])(h:∀e∈d,UC ρ v u.heap.size b.heap.size e):eT ρ a v u c b d:=
 ⟨m.le,m.rel,m.vsize,m.usize,m.fresh,m.same,m.tC,m.warm,m.rows,m.tape,m.os,m.output,m.vtape,h⟩
def heap_setCell(w:cn)(a:Addr)(x:cq)(b:Nat):(w.setCell a x).heap[b]? =if b=a.block then(w.heap[b]?).map (λ
 | .cells c f d=>.cells (if a.spot.isSome then c else c.setIfInBounds a.off x) f d
 |o=>o)else w.heap[b]? :=by
 simp only[World.setCell,mR];by_cases h:a.block=b;subst h;simp only[dF];congr 1;rw[cy h,cy (λe=>h e.symm)]
def eT.store(h:WR ρ v u){a H:Addr}(W:AR ρ a H){x I y:cq}(X:VR ρ x I)(m:v.cell? a=some y)(J:v.frozen? a=false):u.frozen? H=false/\eT ρ ρ v u (v.setCell a x) (u.setCell H I) #[⟨.cell H,true,false⟩]:=by
 cases W with
 | @mk b c o s B=>
  obtain⟨ob,Y,p,R,K⟩:=h.obj b c B;simp only[World.cell?,p]at m;rcases K with⟨L,K⟩|⟨n,hn,z,A,C,t',q,rfl,rfl,M,S⟩;case inr=>
   exfalso;cases s with
   |some s=>simp at m
   |none=>
    simp only[sO,ik,eF]at m;have g:=M o (eU.1 m).1;simp only[World.frozen?,p]at J;simp[g.1,g.2]at J
  rw[L,Option.getD_none,mX];cases K with
  | @cells z C t A q S T=>
   cases s with
   |some s=>simp at m
   |none=>
    simp only[sO,ik,eF]at m;have r:o<z.size:=(eU.1 m).1;have D:¬Cz A o:=by intro g;simp only[World.frozen?,p]at J;simp[g.1,g.2]at J
    have E:¬Cz q o:=λg=>D (T o g);have i:¬wA v b:=by rintro⟨_,_,_,e,d⟩;rw[p]at e;cases e;exact D (d o r)
    have F:∀j,(v.setCell (cY b o) x).heap[j]? =if j=b then some (.cells (z.setIfInBounds o x) t A)else v.heap[j]? :=by intro j;rw[heap_setCell];by_cases f:j=b;subst f;simp[p];simp[f]
    have U:∀l,(u.setCell (cY c o) I).heap[l]? =if l=c then some (.cells (C.setIfInBounds o I) t q)else u.heap[l]? :=by intro l;rw[heap_setCell];by_cases f:l=c;subst f;simp[R];simp[f]
    refine⟨?_,.refl _,⟨λj l w=>?_,λl N=>h.low l (by simpa[World.setCell]using N),h.tape⟩,by simp[World.setCell],by simp[World.setCell],λ_ _ h=>.inl h,λl _ Z=>?_,λj k=>?_,λj _ k=>?_,λj _ k=>?_,rfl,rfl,rfl,rfl,?_⟩;simp only[World.frozen?,R];simp only[Cz]at E;simp;omega;rw[F,U];by_cases f:j=b;subst f;obtain rfl:=ρ.mg _ _ _ B w;rw[cB rfl,cB rfl];exact⟨_,_,rfl,rfl,.inl ⟨L,.cells (S.set o X) T⟩⟩;have G:l≠c:=λe=>(ρ.oq _ _ _ w (e▸B)).elim f λx=>x.2 L;rw[cy f,cy G];exact h.obj j l w;rw[U];by_cases f:l=c;subst f;exact absurd (Z b B) i;rw[cy f];rw[F];by_cases f:j=b;subst f;exact absurd k i;rw[cy f];by_cases f:j=b;subst f;obtain⟨_,_,_,e,d⟩:=k;rw[F,cB rfl]at e;cases e;exact⟨z,t,A,p,by simpa using d⟩;obtain⟨O,P,Q,e,d⟩:=k;rw[F,cy f]at e;exact⟨O,P,Q,e,d⟩;by_cases f:j=b;subst f;exact⟨z,t,A,p,λe=>by subst e;simp at r⟩;obtain⟨O,P,Q,e,d⟩:=k;rw[F,cy f]at e;exact⟨O,P,Q,e,d⟩;intro e V;simp at V;subst V;exact .inl ⟨(cY c o),true,b,rfl,B,⟨z,t,A,p,λe=>by subst e;simp at r⟩,λ_=>i⟩
  |_=>cases m
def mL(w:cn)(o:Obj)(b:Nat):({w with heap:=w.heap.push o}:cn).heap[b]? =if b=w.heap.size then some o else w.heap[b]? :=by simp only[nS]
def WR.UD(h:WR ρ v u)(a:ρ.r m k):m<v.heap.size:=let⟨_,_,b,_,_⟩:=h.obj m k a;lt_of_heap b
def WR.St(h:WR ρ v u)(a:ρ.r m k):k<u.heap.size:=let⟨_,_,_,b,_⟩:=h.obj m k a;lt_of_heap b
def WR.Rc(h:WR ρ v u):∀c,¬ρ.r v.heap.size c:=λ_ a=>Nat.lt_irrefl _ (h.UD a)
def WR.Rd(h:WR ρ v u):∀b,¬ρ.r b u.heap.size:=λ_ a=>Nat.lt_irrefl _ (h.St a)
def eT.new(h:WR ρ v u){o m:Obj}(n:jM ρ o m):eT ρ (ρ.ext v.heap.size u.heap.size h.Rc h.Rd) v u {v with heap:=v.heap.push o} {u with heap:=u.heap.push m} #[]:=by refine⟨dm.sP _ _ _ _ _,⟨λb c d=>?_,λc g=>h.low c (by simp at g;omega),h.tape⟩,by simp,by simp,λb c d=>?_,λc g _=>?_,λb f=>?_,λb f i=>?_,λb f i=>?_,rfl,rfl,rfl,rfl,λe p=>by simp at p⟩;rw[mL,mL];rcases d with d|⟨rfl,rfl⟩;rw[cy (Nat.ne_of_lt (h.UD d)),cy (Nat.ne_of_lt (h.St d))];obtain⟨x,q,r,s,t⟩:=h.obj b c d;exact⟨x,q,r,s,t.mono (dm.sP _ _ _ _ _)⟩;rw[cB rfl,cB rfl];exact⟨_,_,rfl,rfl,.inl ⟨h.low _ (cJ _),n.mono (dm.sP _ _ _ _ _)⟩⟩;rcases d with d|⟨rfl,rfl⟩;exact .inl d;exact .inr ⟨cJ _,cJ _⟩;rw[mL,cy (Nat.ne_of_lt g)];rw[mL,cy (Nat.ne_of_lt f.lt)];obtain⟨j,k,l,e,a⟩:=i;rw[mL,cy (Nat.ne_of_lt f)]at e;exact⟨j,k,l,e,a⟩;obtain⟨j,k,l,e,a⟩:=i;rw[mL,cy (Nat.ne_of_lt f)]at e;exact⟨j,k,l,e,a⟩
def heap_set(w:cn)(r:Nat)(o:Obj)(b:Nat):({w with heap:=w.heap.setIfInBounds r o}:cn).heap[b]? =if b=r/\r<w.heap.size then some o else w.heap[b]? :=by simp only[Array.getElem?_setIfInBounds];by_cases h:r=b;subst h;by_cases a:r<w.me;simp[a];simp[a];rw[cy h,cy (λe=>h e.1.symm)]
def eT.setObj(h:WR ρ v u){r i:Nat}(j:ρ.r r i){o C x:Obj}(H:jM ρ o C)(D:v.heap[r]? =some x)(m:∀y t z,x≠ .cells y t z)(n:∀y t z,o≠ .cells y t z):eT ρ ρ v u {v with heap:=v.heap.setIfInBounds r o} {u with heap:=u.heap.setIfInBounds i C} #[⟨.obj i,true,false⟩]:=by
 have B:=h.UD j;have I:=h.St j;have d:¬wA v r:=by rintro⟨y,t,z,e,_⟩;rw[D]at e;cases e;exact m _ _ _ rfl
 have A:ρ.sh r=none:=by obtain⟨L,J,E,_,K⟩:=h.obj r i j;rcases K with⟨A,_⟩|⟨_,_,_,_,_,_,_,rfl,_⟩;exact A;rw[D]at E;exact absurd (cO E) (m _ _ _)
 refine⟨.refl _,⟨λb c k=>?_,λc F=>h.low c (by simpa using F),h.tape⟩,by simp,by simp,λ_ _ h=>.inl h,λc F l=>?_,λb g=>?_,λb g l=>?_,λb g l=>?_,rfl,rfl,rfl,rfl,λe G=>?_⟩;rw[heap_set,heap_set];by_cases g:b=r;subst g;obtain rfl:=ρ.mg _ _ _ j k;rw[cB ⟨rfl,B⟩,cB ⟨rfl,I⟩];exact⟨_,_,rfl,rfl,.inl ⟨A,H⟩⟩;have p:c≠i:=λe=>(ρ.oq _ _ _ k (e▸j)).elim g λx=>x.2 A;rw[cy (λe=>g e.1),cy (λe=>p e.1)];exact h.obj b c k;rw[heap_set];by_cases g:c=i;subst g;exact absurd (l r j) d;rw[cy (λe=>g e.1)];rw[heap_set];by_cases a:b=r;subst a;exact absurd g d;rw[cy (λe=>a e.1)];by_cases a:b=r;subst a;obtain⟨q,s,w,e,_⟩:=l;rw[heap_set,cB ⟨rfl,B⟩]at e;cases e;exact absurd rfl (n _ _ _);obtain⟨q,s,w,e,f⟩:=l;rw[heap_set,cy (λe=>a e.1)]at e;exact⟨q,s,w,e,f⟩;by_cases a:b=r;subst a;obtain⟨q,s,w,e,_⟩:=l;rw[heap_set,cB ⟨rfl,B⟩]at e;cases e;exact absurd rfl (n _ _ _);obtain⟨q,s,w,e,f⟩:=l;rw[heap_set,cy (λe=>a e.1)]at e;exact⟨q,s,w,e,f⟩;simp at G;subst G;exact .inr (.inl ⟨i,true,r,rfl,j,d⟩)
end
theorem jM.isChan{ρ:dm}(h:jM ρ O Q)(c:∀a t b,O≠ .cells a t b):Q.isChan=false/\∀a t b,Q≠ .cells a t b:=by
 cases h with
 |cells _ _=>exact absurd rfl (c _ _ _)
 |_=>exact⟨rfl,λ_ _ _ e=>by cases e⟩
def Hv.plain{ρ:dm}{n:Option Nat}(h:Hv ρ n O Q)(a:∀b t c,O≠ .cells b t c):jM ρ O Q:=by rcases h with⟨_,h⟩|⟨_,_,_,_,_,_,_,e,_⟩;exact h;exact absurd e (a _ _ _)
def SR.run{α β:Type}{A:dm->α->β->Prop}{ρ:dm}{s:Sem α}{Z:Sem β}(h:SR P A ρ s Z):∀{v u:cn},WR ρ v u->∀g d:Array Event,j8 A ρ v u (s.runT P v g) (Z.runT (P.it ρ.fs) u d) d:=by
 induction h with
 | @pure ρ a b h=>exactλ{v u} f g d=>⟨b,u,ρ,#[],by simp[Sem.runT],h,eT.refl f⟩
 | @load ρ a X k D K _ n=>
  intro v u f g d;simp only[Sem.runT];cases B:v.cell? a with
  |none=>
   cases K with
   | @mk b c o s p=>
    obtain⟨hh,e,L⟩:=tJ (P:=P) (a:=⟨b,o,s⟩) (at_:=(Mode.plain==Mode.atomic)) (f.noView p) (f.noPending p);simp only[e];exact j8.dead L
  |some x=>
   obtain⟨F,aa,Y⟩:=f.cell K B;simp only[aa];refine j8.step (e1:=#[⟨.cell X,false,false⟩]) f ((eT.refl f).Rb λe G=>?_) ?_;simp at G;subst G;cases K with
   | @mk b c o s p=>
    refine .inl ⟨_,false,b,rfl,p,?_,λe=>by cases e⟩;simp only[World.cell?]at B;split at B;rename_i i t l ab;refine⟨i,t,l,ab,λe=>?_⟩;subst e;simp at B;cases B
   have:=n x F Y f (g.push ⟨.cell a,false,false⟩) (d++#[⟨.cell X,false,false⟩]);rw[Array.append_singleton]at this;exact this
 | @store ρ a X x F k D K Y _ n=>
  intro v u f g d;by_cases z:(∃i,x=.agg i)\/∃i,x=.tuple i;rcases z with⟨i,rfl⟩|⟨i,rfl⟩<;>exact j8.dead rfl;have M:¬((∃i,F=.agg i)\/∃i,F=.tuple i):=by rintro(⟨i,rfl⟩|⟨i,rfl⟩)<;>cases Y;exact z (.inl ⟨_,rfl⟩);exact z (.inr ⟨_,rfl⟩)
  have e1:∀{H:Type} (P:cA) (k:Sem H) (x:cq),¬((∃i,x=.agg i)\/∃i,x=.tuple i)->∀(a:Addr) (v:cn) (g:Array Event),(Sem.store .plain a x k).runT P v g=(match v.cell? a with
   |some _=>if v.frozen? a then(.halt (.unsupported (.unsafePointer "a write to bytes that a string shares")) v,g)else k.runT P (v.setCell a x) (g.push ⟨.cell a,true,false⟩)
   |none=>match v.farStore P a x false with
    | .ok (w,C)=>k.runT P w (g++C.toArray.map (⟨.cell ·,true,false⟩))
    | .error h=>(.halt h v,g)):=by
   intro H P k x B a v g;cases x<;>first|rfl|exact absurd (.inl ⟨_,rfl⟩) B|exact absurd (.inr ⟨_,rfl⟩) B
  rw[e1 P k x z,e1 _ D F M];cases hy:v.cell? a with
  |none=>
   cases K with
   | @mk b c o s p=>
    obtain⟨hh,e,L⟩:=sx (P:=P) (a:=⟨b,o,s⟩) (x:=x) (at_:=false) (f.noView p) (f.noPending p);simp only[e];exact j8.dead L
  |some y=>
   obtain⟨y',ac,_⟩:=f.cell K hy;simp only[ac];by_cases hz:v.frozen? a=true;simp only[hz,dF];exact j8.dead rfl;have T:v.frozen? a=false:=by simpa using hz
   obtain⟨hu,I⟩:=eT.store f K Y hy T;simp only[T,hu];refine j8.step f I ?_;have:=n I.rel (g.push ⟨.cell a,true,false⟩) (d++#[⟨.cell X,true,false⟩]);simpa using this
 | @new ρ o N k D ho _ n=>
  intro v u f g d;have I:=eT.new f ho;refine j8.step f I ?_;have:=n v.me u.me f.Rc f.Rd (f.low _ (cJ _)) I.rel g (d++#[]);simpa[Sem.runT]using this
 | @getObj ρ r E k D p _ n=>
  intro v u f g d;obtain⟨o,N,O,h2,J⟩:=f.obj r E p;by_cases U:∃i t l,o=.cells i t l;obtain⟨i,t,l,rfl⟩:=U;simp only[Sem.runT,O];exact j8.dead rfl;have j:∀i t l,o≠ .cells i t l:=λi t l e=>U ⟨i,t,l,e⟩;replace J:jM ρ o N:=J.plain j;obtain⟨Q,R⟩:=J.isChan j;have e1:∀{H:Type} (P:cA) (k:Obj->Sem H) (w:cn) (r:Nat) (o:Obj) (g:Array Event),w.heap[r]? =some o->(∀i t l,o≠ .cells i t l)->(Sem.getObj r k).runT P w g=(k o).runT P w (g.push ⟨.obj r,false,o.isChan⟩):=by intro H P k w r o g h S;cases o<;>first|exact absurd rfl (S _ _ _)|simp only[Sem.runT,h]
  rw[e1 P k v r o g O j,e1 _ D u E N d h2 R,Q];refine j8.step (e1:=#[⟨.obj E,false,false⟩]) f ((eT.refl f).Rb λe G=>?_) ?_;simp at G;subst G;refine .inr (.inl ⟨E,false,r,rfl,p,?_⟩);rintro⟨i,t,l,e,_⟩;rw[O]at e;cases e;exact j _ _ _ rfl;have:=n o N J j f (g.push ⟨.obj r,false,o.isChan⟩) (d++#[⟨.obj E,false,false⟩]);simpa using this
 | @setObj ρ r E x F k D p B V _ n=>
  intro v u f g d;obtain⟨o,N,O,h2,J⟩:=f.obj r E p;by_cases U:∃i t l,o=.cells i t l;obtain⟨i,t,l,rfl⟩:=U;simp only[Sem.runT,O];exact j8.dead rfl;have j:∀i t l,o≠ .cells i t l:=λi t l e=>U ⟨i,t,l,e⟩;replace J:jM ρ o N:=J.plain j;obtain⟨_,R⟩:=J.isChan j;obtain⟨Q,_⟩:=B.isChan V;have W:x.isChan=false:=by cases B<;>rfl
  have e1:∀{H:Type} (P:cA) (k:Sem H) (w:cn) (r:Nat) (x o:Obj) (g:Array Event),w.heap[r]? =some o->(∀i t l,o≠ .cells i t l)->(Sem.setObj r x k).runT P w g=k.runT P {w with heap:=w.heap.setIfInBounds r x} (g.push ⟨.obj r,true,x.isChan⟩):=by intro H P k w r x o g h S;cases o<;>first|exact absurd rfl (S _ _ _)|simp only[Sem.runT,h]
  rw[e1 P k v r x o g O j,e1 _ D u E F N d h2 R,Q,W];have I:=eT.setObj f p B O j V;refine j8.step f I ?_;have:=n I.rel (g.push ⟨.obj r,true,false⟩) (d++#[⟨.obj E,true,false⟩]);simpa using this
 | @shape ρ r E k D p _ _ n ib=>
  intro v u f g d;simp only[Sem.runT];rcases f.shape p with⟨hs,e⟩|⟨hs,m,y,e1,e2⟩;rw[e];exact n hs _ f g d;rw[e1,e2];exact ib hs _ _ f g d
 | @choose ρ q k D _ n=>
  intro v u f g d;simp only[Sem.runT];by_cases hq:q.forced=true;simp only[hq,dF];exact n 0 f g d;have ad:q.forced=false:=by simpa using hq
  simp only[ad,ik,eF];have ht:=f.tape 0 q;simp only[mX]at ht;rw[ht];refine j8.step f (eT.draw f) ?_;have:=n (q.cut (u.tape u.drawn q)) f.draw g (d++#[]);simpa using this
 |program _ n=>exactλf g d=>n f g d
 | @noRoom ρ k D _ n=>
  intro v u f g d;refine j8.step (e1:=#[⟨.mark .noRoom,false,true⟩]) f ((eT.refl f).Rb λe G=>?_) ?_;simp at G;exact .inr (.inr (.inr (.inr G)));have:=n f (g.push ⟨.mark .noRoom,false,true⟩) (d++#[⟨.mark .noRoom,false,true⟩]);simpa[Sem.runT]using this
 | @panic ρ x F h hp=>exactλ{v u} f g d=>⟨F,u,ρ,#[],by simp[Sem.runT],⟨h,hp⟩,eT.refl f⟩
 |dead L=>exactλ{v u} f g d=>j8.dead L
 | @never ρ s Z h=>
  intro v u f g d;obtain⟨hh,w',e,L⟩:=h v;rw[lB,e];exact j8.dead L
inductive SX (P:cA) {α β:Type} (A:dm->α->β->Prop):dm->Sem α->Sem β->Prop
 |of {ρ:dm} {s:Sem α} {s':Sem β} (h:SR P A ρ s s'):SX P A ρ s s'
 |skip {ρ:dm} {q:Question} {r r':Nat} {o:Nat->Obj} {o':Obj} {a:α} {b:β} (hr:ρ.r r r') (ho:∀n,jM ρ (o n) o') (hc:∀n cs t fz,o n≠ .cells cs t fz) (h:A ρ a b):
  SX P A ρ (.choose q λn=>.setObj r (o n) (.pure a)) (.setObj r' o' (.pure b))
 |bind {ρ:dm} {γ δ:Type} {B:dm->γ->δ->Prop} {s:Sem γ} {s':Sem δ} {f:γ->Sem α} {f':δ->Sem β} (h:SR P B ρ s s') (k:∀nM a b,dm.Le ρ nM->B nM a b->SX P A nM (f a) (f' b)):SX P A ρ (s.bind f) (s'.bind f')
def Be(ρ a:dm)(v u b c:cn)(e:Array Event):Prop:=∃d,eT ρ a v u {b with drawn:=d} c e
def eT.hr{ρ a:dm}{v u b c:cn}{d:Array Event}(m:eT ρ a v u b c d):Be ρ a v u b c d:=⟨b.drawn,m⟩
theorem HR.drawn{ρ:dm}{v u:cn}(h:HR ρ {v with drawn:=d} u):HR ρ v u:=⟨h.obj,h.low⟩
def CB{i j:Type}(A:dm->i->j->Prop)(ρ:dm)(v u:cn)(r:Result i×Array Event)(k:Result j×Array Event)(e:Array Event):Prop:=
 match r.1 with
 | .ok a g=>∃b f c d,k=(.ok b f,e++d)/\A c a b/\Be ρ c v u g f d
 | .halt (.panic x) g=>∃l f c d,k=(.halt (.panic l) f,e++d)/\(VR c x l/\sv c x)/\eT ρ c v u g f d
 | .halt h _=>h.dead=true
def j8.VE{g i:Type}{A:dm->g->i->Prop}{ρ:dm}{v u:cn}{r:Result g×Array Event}{j:Result i×Array Event}{a:Array Event}(h:j8 A ρ v u r j a):CB A ρ v u r j a:=by
 unfold j8 at h;unfold CB;split<;>rename_i c<;>rw[c]at h;obtain⟨b,k,d,e,f,l,m⟩:=h;exact⟨b,k,d,e,f,l,m.hr⟩;exact h
 ·split at h<;>first|exact h|(rename_i f;cases f;cases‹_›)|skip
  all_goals simp_all
theorem SX.run{W X:Type}{A:dm->W->X->Prop}{ρ:dm}{s:Sem W}{N:Sem X}(h:SX P A ρ s N):∀{v u:cn},WR ρ v u->∀i c:Array Event,CB A ρ v u (s.runT P v i) (N.runT (P.it ρ.fs) u c) c:=by
 induction h with
 |of h=>exactλz i c=>(h.run z i c).VE
 | @skip ρ q r Y o o' a b C ho hc h=>
  intro v u z i c;have Z:∀n,j8 A ρ v u ((Sem.setObj r (o n) (.pure a)).runT P v i) ((Sem.setObj Y o' (.pure b)).runT (P.it ρ.fs) u c) c:=λn=>(SR.setObj C (ho n) (hc n) (.pure h)).run z i c;simp only[Sem.runT];by_cases hq:q.forced=true;simp only[hq,dF];exact(Z 0).VE;have O:q.forced=false:=by simpa using hq
  simp only[O,ik,eF];obtain⟨K,aa,l,L,M⟩:=z.obj r Y C;have Q:=Z (q.cut (v.tape v.drawn q));by_cases hk:∃G t H,K=.cells G t H;obtain⟨G,t,H,rfl⟩:=hk;simp only[l];unfold CB;exact rfl;have R:∀G t H,K≠ .cells G t H:=λG t H e=>hk ⟨G,t,H,e⟩;have I:∀w:cn,w.heap[r]? =some K->∀x:Obj,(Sem.setObj r x (Sem.pure a)).runT P w i=(.ok a {w with heap:=w.heap.setIfInBounds r x},i.push ⟨.obj r,true,x.isChan⟩):=by intro w h x;cases K<;>first|exact absurd rfl (R _ _ _)|simp only[Sem.runT,h]
  rw[I v l]at Q;have J:=I {v with drawn:=v.drawn+1} l (o (q.cut (v.tape v.drawn q)));unfold j8 at Q;obtain⟨b',u',S,g,g1,g2,g3⟩:=Q;have e3:∀{γ:Type} (x y:γ),x=y->x=y:=λ_ _ h=>h;unfold CB;simp only[Sem.runT]at J;rw[J];exact⟨b',u',S,g,g1,g2,v.drawn,g3⟩
 | @bind ρ γ δ B s N f f' h k ih=>
  intro v u z i c;have C:=h.run z i c;rw[Sem.runT_bind',Sem.runT_bind'];unfold j8 at C;generalize s.runT P v i=r at C⊢;obtain⟨r,T⟩:=r;cases r with
  |ok a v1=>
   obtain⟨b,u1,D,g,I,J,m⟩:=C;rw[I];have p:=ih D a b m.le J m.rel T (c++g);rw[<-m.le.f]at p;dsimp only;unfold CB at p⊢;split;rename_i x w j;rw[j]at p;obtain⟨U,V,E,F,l,L,d,M⟩:=p;exact⟨U,V,E,g++F,by rw[l,Array.append_assoc],L,d,m.trans z M⟩;rename_i x w j;rw[j]at p;obtain⟨U,V,E,F,l,L,M⟩:=p;exact⟨U,V,E,g++F,by rw[l,Array.append_assoc],L,m.trans z M⟩
   ·rename_i j;rw[j]at p;split at p<;>first|exact p|(rename_i l;cases l;cases‹_›)|skip
    all_goals simp_all
  |halt hh v1=>
   unfold CB;cases hh with
   |panic x=>
    obtain⟨b,u1,D,g,I,J,e3⟩:=C;rw[I];exact⟨b,u1,D,g,rfl,J,e3⟩
   |_=>exact C
def eG:Nat->cq->Bool
 |_,.bool _|_,.int _ _|_,.string _|_,.pointer none|_,.slice none _ _|_,.map none|_,.chan none|_,.nilFunc|_,.nilIface=>true
 |d+1,.agg a|d+1,.tuple a=>a.all (eG d)
 |d+1,.iface _ v=>eG d v
 |_,_=>false
theorem oP{ρ:dm}:∀{d:Nat} {v:cq},eG d v=true->VR ρ v v
 |d,.bool _,_=>.bool _
 |d,.int _ _,_=>.int _ _
 |d,.float _ _,h=>by cases d<;>simp[eG]at h
 |d,.complex _ _ _,h=>by cases d<;>simp[eG]at h
 |d,.string _,_=>.string _
 |d,.pointer none,_=>.iR
 |d,.slice none _ _,_=>.fF _ _
 |d,.map none,_=>.qA
 |d,.chan none,_=>.po
 |d,.nilFunc,_=>.nilFunc
 |d,.nilIface,_=>.nilIface
 |d+1,.agg c,h=>by simp only[eG,uM]at h;exact .agg rfl λi v e a b=>by rw[a]at b;cases b;exact oP (h v (mo a))
 |d+1,.tuple c,h=>by simp only[eG,uM]at h;exact .tuple rfl λi v e a b=>by rw[a]at b;cases b;exact oP (h v (mo a))
 |0,.agg _,h=>by simp[eG]at h
 |0,.tuple _,h=>by simp[eG]at h
 |d,.pointer (some _),h=>by cases d<;>simp[eG]at h
 |d,.slice (some _) _ _,h=>by cases d<;>simp[eG]at h
 |d,.map (some _),h=>by cases d<;>simp[eG]at h
 |d,.chan (some _),h=>by cases d<;>simp[eG]at h
 |d,.func _ _ _,h=>by cases d<;>simp[eG]at h
 |0,.iface _ _,h=>by simp[eG]at h
 |d+1,.iface _ v,h=>.iface _ (oP (d:=d) (by simpa[eG]using h))
def eW(P:cA):Nat->cw->Bool
 |0,_=>false
 |d+1,t=>match P.underlying t with
  |some .bool|some (.int _)|some .string|some (.slice _)=>true
  |some (.struct a)=>!P.stoodInHeld t&&a.all λf=>eW P d f.type
  |some (.array _ e)=>eW P d e
  |_=>false
def jq(S:dH->Bool):dw->Bool
 | .tmp _=>true
 | .const v=>eG 3 v
 | .global _=>false
 | .func f=>S f
def Ae:Builtin->Bool
 | .len| .cap| .append| .max| .min=>true
 |_=>false
def intType(P:cA)(t:cw):Bool:=match P.underlying t with|some (.int _)=>true|_=>false
def CC(P:cA)(S:dH->Bool)(a e:Bool):Op->Bool
 | .move _| .assign _| .pick _ _ _| .alloc _| .box _ _| .build _ _| .buildSlice _ _ _| .load _ _| .store _ _ _| .unOp _ _ _| .makeSlice _ _ _| .slice _ _ _ _ _
 | .index _ _ _| .indexAddr _ _ _| .extract _ _| .field _ _ _| .makeMap _ _| .nilCheck _=>true
 | .lookup t _ _ _| .mapUpdate t _ _ _=>match P.underlying t with|some (.map k _)=>!a&&eW P 5 k|_=>false
 | .makeFunc (.func f) _ _=>S f
 | .fieldAddr s _ i=>match P.underlying s with
  |some (.struct g)=>match g[i]? with
   |some f=>match P.info? f.type with|some j=>j.size !=0|none=>false
   |none=>false
  |_=>false
 | .binOp h t _ _ _=>match h with
  | .eql| .neq=>eW P 5 t
  |_=>intType P t
 | .convert s d _=>intType P s&&intType P d
 | .call c=>match c.callee with
  | .value _=>true
  | .builtin b=>Ae b&&(match b with| .append=>(match c.argTypes[1]? with|some t=>!intType P t|none=>true)|_=>true)
  | .invoke _ _=>false
 | .defer c=>match c.callee with
  | .value _=>e
  |_=>false
 | .panic x=>match x with
  | .const (.iface _ (.int _ _))=>e
  |_=>false
 |_=>false
def ot(P:cA)(S:dH->Bool)(a b:Bool)(o:Oper):Bool:=o.op.operands.all (jq S)&&CC P S a b o.op
def gD(P:cA)(S:dH->Bool)(d e:Bool):Code->Bool
 | .skip| .exit _| .label _| .goto _| .ret| .refuse _=>true
 | .region _ g _=>g.all (ot P S d e)
 | .seq a b=>gD P S d e a&&gD P S d e b
 | .cond c a b=>jq S c&&gD P S d e a&&gD P S d e b
 | .block _ c| .loop c| .scope c=>gD P S d e c
 | .rangeFunc f _ a b=>!e&&jq S f&&gD P S d e a&&gD P S d e b
structure Fit(P:cA)(S:dH->Bool)(dim:Bool):Prop where
 zero:∀t i z,P.info? t=some i->i.zero=some z->eG 3 z=true
 fn:∀f,S f=true->∃fn c,P.funcs[f]? =some fn/\(fn.name== "runtime.NumGoroutine")=false/\fn.body=some c
 globals:P.globals.size=0
 depth:5<=P.depth
 bad:P.info? sR=none
abbrev SV(P:cA)(ρ:dm)(s c:Sem cq):Prop:=SR P (λρ a b=>VR ρ a b) ρ s c
abbrev SE(P:cA)(ρ:dm){c:Type}(s d:Sem c):Prop:=SR P (λ_ a b=>a=b) ρ s d
section
variable{P:cA}{ρ:dm}
def SR.dD{d e g i:Type}{A:dm->d->e->Prop}{B:dm->g->i->Prop}{ρ:dm}{s:Sem d}{j:Sem e}{f:d->Sem g}{f':e->Sem i}(h:SR P A ρ s j) (k:∀c a b,dm.Le ρ c->A c a b->SR P B c (f a) (f' b)):SR P B ρ (s>>=f) (j>>=f'):=SR.bind h k
def SX.dD{d e g i:Type}{A:dm->d->e->Prop}{B:dm->g->i->Prop}{ρ:dm}{s:Sem d}{j:Sem e}{f:d->Sem g}{f':e->Sem i}(h:SR P A ρ s j) (k:∀c a b,dm.Le ρ c->A c a b->SX P B c (f a) (f' b)):SX P B ρ (s>>=f) (j>>=f'):=.bind h k
def SX.map{d e j l:Type}{A:dm->d->e->Prop}{B:dm->j->l->Prop}{g:d->j}{m:e->l}{ρ:dm}{s:Sem d}{n:Sem e}(h:SX P A ρ s n)(k:∀c a b,A c a b->B c (g a) (m b)):
 SX P B ρ (s>>=λa=>Pure.pure (g a)) (n>>=λb=>Pure.pure (m b)):=by
 induction h with
 |of h=>exact .of (SR.dD h λ_ _ _ _ o=>.pure (k _ _ _ o))
 |skip p q r h=>exact .skip p q r (k _ _ _ h)
 |bind h _ t=>
  show SX P B _ (Sem.bind (Sem.bind _ _) _) (Sem.bind (Sem.bind _ _) _);rw[Sem.bind_assoc',Sem.bind_assoc'];exact .bind h λc a b f i=>t c a b f i
def SR.ew{c d:Type}{A:dm->c->d->Prop}{a:c}{b:d}(h:A ρ a b):SR P A ρ (Pure.pure a) (Pure.pure b):=.pure h
theorem SR.stuck{α b:Type}{A:dm->α->b->Prop}{a:String}{s:Sem b}:SR P A ρ (Go.stuck (α:=α) a) s:=.dead rfl
def SR.fM{α a:Type}{A:dm->α->a->Prop}{u:Unsupported}{s:Sem a}(b:Halt.dead (.unsupported u)=true:=by rfl):SR P A ρ (Go.unsupported (α:=α) u) s:=.dead b
def SR.prog:SR P (λρ a b=>a=P/\b=P.it ρ.fs) ρ Go.program Go.program:=.program (.pure ⟨rfl,rfl⟩)
def SR.jN{q r:Type}{A B:dm->q->r->Prop}{s:Sem q}{t:Sem r}(h:SR P A ρ s t)(k:∀d a b,dm.Le ρ d->A d a b->B d a b):SR P B ρ s t:=by
 induction h with
 |pure h=>exact .pure (k _ _ _ (.refl _) h)
 |load i _ c=>exact .load i λv z j=>c v z j k
 |store i j _ c=>exact .store i j (c k)
 |new e _ c=>exact .new e λn C u w f=>c n C u w f λd a b l=>k d a b ((dm.sP _ _ _ u w).trans l)
 |getObj g _ c=>exact .getObj g λo D e p=>c o D e p k
 |setObj g e p _ c=>exact .setObj g e p (c k)
 |shape g _ _ c E=>exact .shape g (λf x=>c f x k) λf m y=>E f m y k
 |choose _ c=>exact .choose λn=>c n k
 |program _ c=>exact .program (c k)
 |noRoom _ c=>exact .noRoom (c k)
 |panic h F=>exact .panic h F
 |dead G=>exact .dead G
 |never h=>exact .never h
def ft(a:Array Func):(P.it a).underlying=P.underlying:=rfl
def jS(a:Array Func):(P.it a).depth=P.depth:=rfl
def ix(a:Array Func):(P.it a).bytesOf=P.bytesOf:=rfl
def iy(a:Array Func):(P.it a).cellsOf=P.cellsOf:=rfl
theorem eK(a:Array Func):∀(d:Nat) (t:cw),(P.it a).eqGuardType d t=P.eqGuardType d t
 |0,t=>by unfold Program.eqGuardType;rfl
 |d+1,t=>by unfold Program.eqGuardType;simp only[ft,eK a d]
theorem qB(a:Array Func):∀(d:Nat),cellOfByte (P.it a) d=cellOfByte P d
 |0=>by funext t o;unfold cellOfByte;rfl
 |d+1=>by funext t o;unfold cellOfByte;rw[qB a d];rfl
theorem eX(a:Array Func):∀(d:Nat),byteOfCell (P.it a) d=byteOfCell P d
 |0=>by funext t o;unfold byteOfCell;rfl
 |d+1=>by funext t o;unfold byteOfCell;rw[eX a d];rfl
def fA(a:Array Func):cellAtBytes (P.it a)=cellAtBytes P:=by funext d e c o b;unfold cellAtBytes;rw[eX,qB];rfl
theorem Af(a:Array Func):∀(d:Nat),(P.it a).alikeButTags d=P.alikeButTags d
 |0=>by funext t o;unfold Program.alikeButTags;rfl
 |d+1=>by funext t o;unfold Program.alikeButTags;rw[Af a d]
def zQ(a:Array Func):(P.it a).stoodInAs=P.stoodInAs:=by funext t;unfold Program.stoodInAs;rw[show(P.it a).depth=P.depth from rfl,Af];rfl
def fa(a:Array Func):(P.it a).stoodInHeld=P.stoodInHeld:=by funext t;unfold Program.stoodInHeld;rw[zQ]
def SR.info(t:cw):SR P (λ_ a b=>a=b/\P.info? t=some a) ρ (typeInfo t) (typeInfo t):=by
 unfold typeInfo;refine SR.prog.dD λc a b _ h=>?_;obtain⟨rfl,rfl⟩:=h;try simp only[ft,jS,iy,ix,eK,eX,fA,fa]
 split;rename_i i d;exact .ew ⟨rfl,d⟩;exact .stuck
def SR.under(t:cw):SR P (λ_ a b=>a=b/\P.underlying t=some a) ρ (Go.underlying t) (Go.underlying t):=by
 unfold Go.underlying;refine SR.prog.dD λc a b _ h=>?_;obtain⟨rfl,rfl⟩:=h;try simp only[ft,jS,iy,ix,eK,eX,fA,fa]
 split;rename_i i d;exact .ew ⟨rfl,d⟩;exact .stuck
theorem SR.size(t:cw):SR P (λ_ a b=>a=b/\∃i,P.info? t=some i/\a=i.size) ρ (Go.sizeOf t) (Go.sizeOf t):=by unfold Go.sizeOf;refine(SR.info t).dD λc a b _ h=>?_;obtain⟨rfl,h⟩:=h;exact .ew ⟨rfl,a,h,rfl⟩
theorem SR.isAgg(t:cw):SE P ρ (Go.isAgg t) (Go.isAgg t):=by unfold Go.isAgg;refine(SR.under t).dD λc a b _ h=>?_;obtain⟨rfl,h⟩:=h;split<;>exact .ew rfl
theorem SR.zero{S:dH->Bool}(F:Fit P S D)(t:cw):SV P ρ (zeroValue t) (zeroValue t):=by unfold zeroValue;refine(SR.info t).dD λc a b _ h=>?_;obtain⟨rfl,h⟩:=h;split;rename_i z d;exact .ew (oP (F.zero t a z h d));exact .fM
theorem SR.goPanic{α a:Type}{A:dm->α->a->Prop}(h:VR ρ x y)(b:sv ρ x):SR P A ρ (Go.goPanic (α:=α) x) (Go.goPanic (α:=a) y):=.panic h b
def SR.jB{α f:Type}{A:dm->α->f->Prop}(e:RuntimeError)(g:(∃x y s c,e=.bounds x y s c)\/(∃m,e=.error m)\/(∃m,e=.plain m)\/e=.nilDeref):SR P A ρ (runtimePanic (α:=α) e) (runtimePanic (α:=f) e):=by
 unfold runtimePanic;refine SR.prog.dD λi a b _ h=>?_;obtain⟨rfl,rfl⟩:=h;try simp only[ft,jS,iy,ix,eK,eX,fA,fa]
 rcases g with⟨x,y,s,c,rfl⟩|⟨m,rfl⟩|⟨m,rfl⟩|rfl;exact .panic (.iface _ (oP (d:=1) (by simp[eG]))) (.inr λ_ _ _ h=>by cases h);exact .panic (.iface _ (.string _)) (.inr λ_ _ _ h=>by cases h);exact .panic (.iface _ (.string _)) (.inr λ_ _ _ h=>by cases h);exact .panic (.iface _ (.string _)) (.inr λ_ _ _ h=>by cases h)
theorem SR.boundsPanic{α e:Type}{A:dm->α->e->Prop}(k:IntKind)(x y:Int)(c:BoundsCode):SR P A ρ (Go.boundsPanic (α:=α) k x y c) (Go.boundsPanic (α:=e) k x y c):=by unfold Go.boundsPanic;dsimp only;split;refine SR.dD (A:=λ_ a b=>a=b) ?_ λd a b _ h=>?_;refine SR.dD (A:=λ_ a b=>a=b) (.choose λn=>.pure rfl) λd a b _ h=>?_;subst h;exact .ew rfl;subst h;exact SR.jB _ (.inl ⟨_,_,_,_,rfl⟩);refine SR.dD (A:=λ_ a b=>a=b) (.ew rfl) λd a b _ h=>?_;subst h;exact SR.jB _ (.inl ⟨_,_,_,_,rfl⟩)
def SR.ld{a:Addr}(b:AR ρ h a):SV P ρ (Go.load h) (Go.load a):=.load b λ_ _ c=>.pure c
def SR.st{a b:Addr}{v c:cq}(h:AR ρ a b)(d:VR ρ v c):SE P ρ (Go.store a v) (Go.store b c):=.store h d (.pure rfl)
theorem SR.loadCellsFrom{f:Addr}:∀(n i:Nat) {ρ:dm} {c a:dU},AR ρ h f->fc ρ c a->SR P (λρ h b=>fc ρ h b) ρ (Go.loadCellsFrom h i n c) (Go.loadCellsFrom f i n a)
 |0,_,_,_,_,_,e=>.ew e
 |n+1,i,_,_,_,g,e=>(SR.ld (g.add i)).dD λ_ _ _ d j=>SR.loadCellsFrom n (i+1) (g.mono d) ((e.mono d).push j)
theorem SR.loadCells{a:Addr}(c:AR ρ h a)(n:Nat):SR P (λρ h b=>fc ρ h b) ρ (Go.loadCells h n) (Go.loadCells a n):=SR.loadCellsFrom n 0 c .nil
theorem SR.storeCells{e:Addr}:∀{d a:dr} (i:Nat) {ρ:dm},AR ρ h e->qc ρ d a->SE P ρ (Go.storeCells h d i) (Go.storeCells e a i)
 |[],_,i,_,_,b=>by cases b;exact .ew rfl
 |v::d,_,i,ρ,f,b=>by
  cases b with
  |cons b t=>
   unfold Go.storeCells;exact(SR.st (f.add i) b).dD λg _ _ c _=>SR.storeCells (i+1) (f.mono c) (t.mono c)
theorem SR.loadVar{f:Addr}(t:cw)(g:AR ρ h f):SV P ρ (Go.loadVar t h) (Go.loadVar t f):=by unfold Go.loadVar;refine(SR.isAgg t).dD λi x m b j=>?_;subst j;split;refine(SR.size t).dD λd n o a k=>?_;obtain⟨rfl,_⟩:=k;exact(SR.loadCells ((g.mono b).mono a) n).dD λe c p _ l=>.ew l.agg;exact SR.ld (g.mono b)
theorem SR.storeVar{d:Addr}(t:cw)(f:AR ρ h d)(g:VR ρ x y):SE P ρ (Go.storeVar t h x) (Go.storeVar t d y):=by unfold Go.storeVar;refine(SR.size t).dD λi n k a j=>?_;obtain⟨rfl,_⟩:=j;have e:=(g.mono a).cells;by_cases b:x.cells.size=n;have c:y.cells.size=n:=e.size▸b;simp only[b,c,ne_eq,not_true_eq_false,eF];exact(SR.storeCells 0 (f.mono a) e.list).jN λ_ _ _ _ _=>trivial;simp only[ne_eq,b,not_false_eq_true,dF];exact .stuck
theorem SR.newRow(t:cw)(h:fc ρ W X):SR P (λρ a b=>AR ρ a b) ρ (Go.newRow t W) (Go.newRow t X):=by unfold Go.newRow;exact SR.dD (A:=λρ a b=>ρ.r a b/\ρ.sh a=none) (.new (.cells h λ_ h=>h) λn g i j d=>.pure ⟨dm.rH _ _ _ _ _,d⟩) λe a b f c=>.ew (.of _ _ c.1 c.2)
theorem SR.newVar(t:cw)(h:VR ρ x y):SR P (λρ a b=>AR ρ a b) ρ (Go.newVar t x) (Go.newVar t y):=SR.newRow t h.cells
theorem SR.part(t:cw)(h:fc ρ W X)(b:Nat):SV P ρ (Go.part t W b) (Go.part t X b):=by unfold Go.part;refine(SR.isAgg t).dD λg x l c i=>?_;subst i;split;refine(SR.size t).dD λd n m a j=>?_;obtain⟨rfl,_⟩:=j;exact .ew (((h.mono c).mono a).extract _ _).agg;rcases(h.mono c).get? b with⟨e,f⟩|⟨v,o,e,f,k⟩;rw[e];exact .stuck;rw[e,f];exact .ew k
def SR.intOf(h:VR ρ x y):SR P (λ_ a b=>a=b/\x=.int a.1 a.2/\y=.int a.1 a.2) ρ (asIntOf x) (asIntOf y):=by cases h<;>first|exact .ew ⟨rfl,rfl,rfl⟩|exact .fM|exact .stuck
theorem SR.asInt(h:VR ρ x y):SE P ρ (Go.asInt x) (Go.asInt y):=by unfold Go.asInt;refine(SR.intOf h).dD λ_ a b _ h=>?_;obtain⟨rfl,_⟩:=h;exact .ew rfl
theorem SR.asBool(h:VR ρ x y):SE P ρ (Go.asBool x) (Go.asBool y):=by cases h<;>first|exact .ew rfl|exact .stuck
theorem SR.asAddr(h:VR ρ x y):SR P (λρ a b=>AR ρ a b) ρ (Go.asAddr x) (Go.asAddr y):=by cases h<;>first|exact .ew ‹_›|exact SR.jB _ (.inr (.inr (.inr rfl)))|exact .stuck
def SR.sure(h:VR ρ x y):SR P (λρ a b=>AR ρ a b) ρ (Instr.sureAddr x) (Instr.sureAddr y):=by cases h<;>first|exact .ew ‹_›|exact .stuck
theorem SR.asAgg(h:VR ρ x y):SR P (λρ a b=>fc ρ a b) ρ (Go.asAgg x) (Go.asAgg y):=by cases h<;>first|exact .ew ⟨‹_›,‹_›⟩|exact .stuck
end
end Go.cP
namespace Go.Proofs
open Go
noncomputable def V.wT:Code:=
 (Code.region 0 #[{dst:=some 9,op:=Op.move (.const (.bool true)),type:=4,pos:= "",after:=#[],guard:=none},{dst:=some 1,op:=Op.makeFunc (.func 227) #[] #[.tmp 0,.tmp 1,.tmp 2,.tmp 3,.tmp 4,.tmp 5,.tmp 6,.tmp 7,.tmp 8,.tmp 9],type:=0,pos:= "",after:=#[],guard:=none}] false).seq
 ((Code.region 1 #[{dst:=some 2,op:=Op.move (.const (.bool true)),type:=4,pos:= "",after:=#[],guard:=none},{dst:=some 2,op:=Op.move (.const (.bool false)),type:=4,pos:= "",after:=#[],guard:=none}] true).seq
 ((Code.cond (.tmp 2) ((Code.region 2 #[{dst:=some 3,op:=Op.box 200 (.tmp 1),type:=0,pos:= "",after:=#[],guard:=none}] false).seq (Code.region 3 #[{dst:=none,op:=Op.panic (.const (.iface 3 (.int .i64 7))),type:=0,pos:= "",after:=#[],guard:=none}] false)) .skip).seq
 ((Code.region 4 #[{dst:=some 3,op:=Op.build 245 #[(0,.tmp 0)],type:=245,pos:= "",after:=#[],guard:=none}] false).seq
 ((Code.region 5 #[{dst:=some 4,op:=Op.box 245 (.tmp 3),type:=0,pos:= "",after:=#[],guard:=none}] false).seq
 ((Code.region 6 #[{dst:=some 5,op:=Op.call {callee:=.value (.func 216),args:=#[.tmp 4],argTypes:=#[243]},type:=0,pos:= "",after:=#[],guard:=none}] false).seq
 ((Code.region 7 #[{dst:=some 6,op:=Op.fieldAddr 245 (.tmp 4) 3,type:=0,pos:= "",after:=#[],guard:=none}] false).seq
 ((Code.region 8 #[{dst:=some 7,op:=Op.load 199 (.tmp 6),type:=199,pos:= "",after:=#[],guard:=none}] false).seq
 Code.ret)))))))
noncomputable def V.f163:Func:={Tryz.f163 with ntmps:=9,results:=#[.tmp 7],body:=some V.wT}
section
variable(P:cA)(fs:Array Func)
abbrev V.sub:cA:=P.it fs
theorem V.KZ(t:cw):(V.sub P fs).info? t=P.info? t:=rfl
theorem V.Hw(t:cw):(V.sub P fs).underlying t=P.underlying t:=rfl
theorem V.pq(t:cw)(w:cn):Sem.run (V.sub P fs) (typeInfo t) w=Sem.run P (typeInfo t) w:=by
 simp only[typeInfo,Sem.run_bind,run_program,Result.andThen_ok];cases P.info? t with
 |none=>simp only[run_stuck]
 |some i=>simp only[Sem.run_pure]
theorem V.nV(t:cw)(w:cn):Sem.run (V.sub P fs) (underlying t) w=Sem.run P (underlying t) w:=by
 simp only[underlying,Sem.run_bind,run_program,Result.andThen_ok,V.Hw];cases P.underlying t with
 |none=>simp only[run_stuck]
 |some i=>simp only[Sem.run_pure]
theorem V.FH(t:cw)(w:cn):Sem.run (V.sub P fs) (sizeOf t) w=Sem.run P (sizeOf t) w:=by simp only[sizeOf,Sem.run_bind,V.pq,Sem.run_pure]
theorem V.zR(t:cw)(w:cn):Sem.run (V.sub P fs) (zeroValue t) w=Sem.run P (zeroValue t) w:=by
 simp only[zeroValue,Sem.run_bind,V.pq];cases Sem.run P (typeInfo t) w with
 |ok d w=>simp only[Result.andThen_ok];cases d.zero with
  |none=>simp only[run_unsupported]
  |some z=>simp only[Sem.run_pure]
 |halt h w=>simp only[Result.andThen_halt]
theorem V.IM(t:cw)(w:cn):Sem.run (V.sub P fs) (isAgg t) w=Sem.run P (isAgg t) w:=by
 simp only[isAgg,Sem.run_bind,V.nV];cases Sem.run P (underlying t) w with
 |ok d w=>
  simp only[Result.andThen_ok];split<;>simp only[Sem.run_pure]
 |halt h w=>simp only[Result.andThen_halt]
end
theorem V.IN(P:cA)(fs:Array Func):(V.sub P fs).depth=P.depth:=rfl
theorem V.wB(P:cA)(fs:Array Func)(n:Nat)(t:cw):(V.sub P fs).eqGuardType n t=P.eqGuardType n t:=Go.cP.eK fs n t
theorem V.wC(P:cA)(fs:Array Func)(t:cw):(V.sub P fs).stoodInHeld t=P.stoodInHeld t:=congrFun (Go.cP.fa fs) t
noncomputable def V.prog:cA:=V.sub Tryz.prog (Tryz.funcs.setIfInBounds 163 V.f163)
theorem V.FI(P:cA)(fs:Array Func):(V.sub P fs).toTables=P.toTables:=rfl
@[simp] theorem V.Ag:V.prog.toTables=Tryz.prog.toTables:=V.FI _ _
@[simp] theorem V.sB (t:cw):V.prog.underlying t=Tryz.prog.underlying t:=V.Hw _ _ _
@[simp] theorem V.Hx (t:cw):V.prog.info? t=Tryz.prog.info? t:=V.KZ _ _ _
@[simp] theorem V.CE (t:cw) (w:cn):Sem.run V.prog (typeInfo t) w=Sem.run Tryz.prog (typeInfo t) w:=V.pq _ _ _ _
@[simp] theorem V.sizeOf_eq (t:cw) (w:cn):Sem.run V.prog (sizeOf t) w=Sem.run Tryz.prog (sizeOf t) w:=V.FH _ _ _ _
@[simp] theorem V.uO (t:cw) (w:cn):Sem.run V.prog (underlying t) w=Sem.run Tryz.prog (underlying t) w:=V.nV _ _ _ _
@[simp] theorem V.SP (t:cw) (w:cn):Sem.run V.prog (isAgg t) w=Sem.run Tryz.prog (isAgg t) w:=V.IM _ _ _ _
@[simp] theorem V.Oe (t:cw) (w:cn):Sem.run V.prog (zeroValue t) w=Sem.run Tryz.prog (zeroValue t) w:=V.zR _ _ _ _
@[simp] theorem V.SQ:V.prog.depth=Tryz.prog.depth:=V.IN _ _
@[simp] theorem V.K3 (n:Nat) (t:cw):V.prog.eqGuardType n t=Tryz.prog.eqGuardType n t:=V.wB _ _ _ _
@[simp] theorem V.K4 (t:cw):V.prog.stoodInHeld t=Tryz.prog.stoodInHeld t:=V.wC _ _ _
@[simp] def V.func128:V.prog.funcs[128]? =some Tryz.f128:=by kernel_rfl
@[simp] def V.call128 (a:dU) (w:cn):Sem.run V.prog (callFunc 128 a) w=Result.ok (Next.enter 128 a) w:=by kernel_rfl
@[simp] def V.func129:V.prog.funcs[129]? =some Tryz.f129:=by kernel_rfl
@[simp] def V.func163:V.prog.funcs[163]? =some V.f163:=by kernel_rfl
@[simp] def V.func164:V.prog.funcs[164]? =some Tryz.f164:=by kernel_rfl
@[simp] def V.func190:V.prog.funcs[190]? =some Tryz.f190:=by kernel_rfl
@[simp] def V.func193:V.prog.funcs[193]? =some Tryz.f193:=by kernel_rfl
@[simp] def V.func194:V.prog.funcs[194]? =some Tryz.f194:=by kernel_rfl
@[simp] def V.call194 (a:dU) (w:cn):Sem.run V.prog (callFunc 194 a) w=Result.ok (Next.enter 194 a) w:=by kernel_rfl
@[simp] def V.call215 (a:dU) (w:cn):Sem.run V.prog (callFunc 215 a) w=Result.ok (Next.enter 215 a) w:=by kernel_rfl
@[simp] def V.call216 (a:dU) (w:cn):Sem.run V.prog (callFunc 216 a) w=Result.ok (Next.enter 216 a) w:=by kernel_rfl
@[simp] def V.func227:V.prog.funcs[227]? =some Tryz.f227:=by kernel_rfl
@[simp] def V.call227 (a:dU) (w:cn):Sem.run V.prog (callFunc 227 a) w=Result.ok (Next.enter 227 a) w:=by kernel_rfl
@[simp] def V.func228:V.prog.funcs[228]? =some Tryz.f228:=by kernel_rfl
@[simp] def V.func229:V.prog.funcs[229]? =some Tryz.f229:=by kernel_rfl
end Go.Proofs
namespace Go.Proofs
abbrev Tryz.link:Go.Conc.Lib.WgLink:={add:=187,done:=189,wait:=192,relMerge:=202,disable:=203,enable:=204,inBubble:=205,associate:=206,fatal:=207,uOr:=208,uAdd:=209,raceRead:=210,uLoad:=211,uStore:=212,disassociate:=213,semrelease:=214,acquire:=217,isAssociated:=218,uCas:=219,raceWrite:=220,semacquire:=221,orU64:=223,addU64:=224,loadU64:=225,storeU64:=226,casU64:=230,tWgP:=255,tUP:=257,tAssoc:=258,tWg:=241,tAU:=238,tU64:=119,tUint:=132,tU32:=239,tPU32:=262,tPAU:=270,tPU64:=272,tNoCopy:=234,tANoCopy:=235,tAlign64:=236}
def Tryz.vI:Go.Conc.Lib.WgLib Tryz.prog Tryz.link:=
 ⟨Tryz.func187,Tryz.func189,Tryz.func192,Tryz.func202,Tryz.func203,Tryz.func204,Tryz.func205,Tryz.func206,Tryz.func207,Tryz.func208,Tryz.func209,Tryz.func210,Tryz.func211,Tryz.func212,Tryz.func213,Tryz.func214,Tryz.func217,Tryz.func218,Tryz.func219,Tryz.func220,Tryz.func221,Tryz.func223,Tryz.func224,Tryz.func225,Tryz.func226,Tryz.func230,Tryz.underlying255,Tryz.runUnderlying255,Tryz.sizeOf255,Tryz.isAgg255,Tryz.zeroValue255,Tryz.underlying257,Tryz.runUnderlying257,Tryz.sizeOf257,Tryz.isAgg257,Tryz.zeroValue257,Tryz.underlying258,Tryz.runUnderlying258,Tryz.sizeOf258,Tryz.isAgg258,Tryz.zeroValue258,Tryz.underlying241,Tryz.runUnderlying241,Tryz.sizeOf241,Tryz.isAgg241,Tryz.zeroValue241,Tryz.underlying238,Tryz.runUnderlying238,Tryz.sizeOf238,Tryz.isAgg238,Tryz.zeroValue238,Tryz.underlying119,Tryz.runUnderlying119,Tryz.sizeOf119,Tryz.isAgg119,Tryz.zeroValue119,Tryz.underlying132,Tryz.runUnderlying132,Tryz.sizeOf132,Tryz.isAgg132,Tryz.zeroValue132,Tryz.underlying239,Tryz.runUnderlying239,Tryz.sizeOf239,Tryz.isAgg239,Tryz.zeroValue239,Tryz.underlying262,Tryz.runUnderlying262,Tryz.sizeOf262,Tryz.isAgg262,Tryz.zeroValue262,Tryz.underlying270,Tryz.runUnderlying270,Tryz.sizeOf270,Tryz.isAgg270,Tryz.zeroValue270,Tryz.underlying272,Tryz.runUnderlying272,Tryz.sizeOf272,Tryz.isAgg272,Tryz.zeroValue272,Tryz.underlying0,Tryz.runUnderlying0,Tryz.sizeOf0,Tryz.isAgg0,Tryz.zeroValue0,Tryz.underlying3,Tryz.runUnderlying3,Tryz.sizeOf3,Tryz.isAgg3,Tryz.zeroValue3,Tryz.underlying4,Tryz.runUnderlying4,Tryz.sizeOf4,Tryz.isAgg4,Tryz.zeroValue4,Tryz.underlying9,Tryz.runUnderlying9,Tryz.sizeOf9,Tryz.isAgg9,Tryz.zeroValue9,Tryz.underlying20,Tryz.runUnderlying20,Tryz.sizeOf20,Tryz.isAgg20,Tryz.zeroValue20,Tryz.underlying21,Tryz.runUnderlying21,Tryz.sizeOf21,Tryz.isAgg21,Tryz.zeroValue21,(by kernel_rfl),(by kernel_rfl)⟩
end Go.Proofs
namespace Go.cP
section
variable{P:cA}{ρ:dm}
theorem SR.Ah{d g:Type}{f:d->Sem g}:∀(l:List d) {ρ:dm},(∀x∈l,∀c,SE P c (f x) (f x))->SE P ρ (l.mapM f) (l.mapM f)
 |[],_,_=>by rw[List.mapM_nil];exact .ew rfl
 |x::l,ρ,h=>by rw[List.mapM_cons];refine(h x (by simp) ρ).dD λ_ a b _ e=>?_;subst e;refine(SR.Ah l λy i=>h y (by simp[i])).dD λ_ a b _ e=>?_;subst e;exact .ew rfl
theorem SR.mapM{g i:Type}{f:g->Sem i}(c:Array g)(h:∀x∈c,∀d,SE P d (f x) (f x)):SE P ρ (c.mapM f) (c.mapM f):=by rw[Ho];refine SR.dD (f:=λl=>Pure.pure l.toArray) (f':=λl=>Pure.pure l.toArray) (SR.Ah c.toList λx j=>h x (by simpa using j)) λ_ a b _ e=>?_;subst e;exact .ew rfl
theorem SR.forIn_list{k g:Type}{f m:k->g->Sem (ForInStep g)}:∀(l:List k) (b:g) {ρ:dm},(∀x∈l,∀r c,dm.Le ρ c->SE P c (f x r) (m x r))->SE P ρ (forIn l b f) (forIn l b m)
 |[],b,_,_=>by simp only[List.forIn_nil];exact .ew rfl
 |x::l,b,ρ,h=>by
  simp only[List.forIn_cons];refine(h x (by simp) b ρ (.refl _)).dD λi a o j e=>?_;subst e;cases a with
  |done b=>exact .ew rfl
  |yield b=>exact SR.forIn_list l b λy n r c d=>h y (by simp[n]) r c (j.trans d)
theorem SR.alloc{S:dH->Bool}(F:Fit P S D)(t:cw)(v:cq):SV P ρ (Instr.alloc t true v) (Instr.alloc t true v):=by unfold Instr.alloc;exact(SR.zero F t).dD λc z g d e=>SR.dD (SR.newVar t e) λb a h _ f=>.ew (.ptr f)
theorem SR.box(t:cw)(h:VR ρ x y):SV P ρ (Instr.box t x) (Instr.box t y):=by unfold Instr.box;exact SR.dD (SR.newVar t h) λb a d _ c=>.ew (.ptr c)
inductive ou (ρ:dm):List (Nat×cq)->List (Nat×cq)->Prop
 |nil:ou ρ [] []
 |cons {i:Nat} {v v':cq} {l l':List (Nat×cq)} (h:VR ρ v v') (t:ou ρ l l'):ou ρ ((i,v)::l) ((i,v')::l')
theorem ou.mono{ρ a:dm}(b:dm.Le ρ a){l c:List (Nat×cq)}(h:ou ρ l c):ou a l c:=by
 induction h with
 |nil=>exact .nil
 |cons h _ d=>exact .cons (h.mono b) d
theorem uP{ev ev':dw->cq}:∀{l:List (Nat×dw)},(∀x∈l,VR ρ (ev x.2) (ev' x.2))->ou ρ (l.map λ(i,x)=>(i,ev x)) (l.map λ(i,x)=>(i,ev' x))
 |[],_=>.nil
 |(i,x)::l,h=>.cons (h (i,x) (by simp)) (uP λy a=>h y (by simp[a]))
def K5(h:qc ρ M Y)(c:Nat):∀(n:Nat) {b a:dU},fc ρ b a->
 fc ρ ((M.zipIdx n).foldl (λb (x:cq×Nat)=>b.setIfInBounds (c+x.2) x.1) b) ((Y.zipIdx n).foldl (λb (x:cq×Nat)=>b.setIfInBounds (c+x.2) x.1) a):=by
 induction h with
 |nil=>exactλn b a d=>d
 |cons h _ e=>
  intro n b a d;simp only[List.zipIdx_cons,qa];exact e (n+1) (d.set _ h)
def FJ(place:Nat->Option (Nat×Nat)){l b:List (Nat×cq)}(h:ou ρ l b):∀{c a:dU},fc ρ c a->(Instr.fill place c l=none/\Instr.fill place a b=none)\/∃r f,Instr.fill place c l=some r/\Instr.fill place a b=some f/\fc ρ r f:=by
 induction h with
 |nil=>exactλd=>.inr ⟨_,_,rfl,rfl,d⟩
 | @cons i v m l b h _ g=>
  intro c a d;simp only[Instr.fill];cases place i with
  |none=>exact .inl ⟨rfl,rfl⟩
  |some p=>
   obtain⟨e,size⟩:=p;have j:=h.cells.size;have k:=d.size;simp only[<-j,<-k];split;exact .inl ⟨rfl,rfl⟩;refine g ?_;have:=K5 h.cells.list e 0 d;rw[<-KN,<-KN,Array.toList_zipIdx,Array.toList_zipIdx];exact this
theorem SR.build{S:dH->Bool}(F:Fit P S D)(t:cw){q j:Array (Nat×cq)}(h:ou ρ q.toList j.toList):SV P ρ (Instr.build t q) (Instr.build t j):=by unfold Instr.build;refine(SR.zero F t).dD λm z y n u=>?_;have v:=h.mono n;refine(SR.under t).dD λo a b d e=>?_;obtain⟨rfl,_⟩:=e;have s:=v.mono d;have k:=(u.mono d).cells;split;refine SR.dD (SR.mapM _ λx _ m=>?_) λf a b c e=>?_;refine(SR.size _).dD λ_ a b _ e=>?_;obtain⟨rfl,_⟩:=e;exact .ew rfl;subst e;rcases FJ (a[·]?) (s.mono c) (k.mono c)with⟨g,l⟩|⟨r,w,g,l,p⟩;simp only[g];exact .stuck;simp only[g,l];exact .ew p.agg;rename_i e _;refine(SR.size e).dD λf a b c e=>?_;obtain⟨rfl,_⟩:=e;rcases FJ (λi=>some (i*a,a)) (s.mono c) (k.mono c)with⟨g,l⟩|⟨r,w,g,l,p⟩;simp only[g];exact .stuck;simp only[g,l];exact .ew p.agg;exact .stuck
def Bf(h:fc ρ W X)(n:Nat):fc ρ ((Array.range n).map (W[·%W.size]!)) ((Array.range n).map (X[·%X.size]!)):=by
 refine fc.map _ _ _ λi _=>?_;have e:∀(a:dU) (i:Nat),a[i]! =(a[i]?).getD default:=λa i=>by simp[getElem!_def];cases a[i]? <;>rfl
 rw[e,e,<-h.size];rcases h.get? (i%W.size)with⟨b,c⟩|⟨v,f,b,c,d⟩;rw[b,c];exact .bool _;rw[b,c];exact d
theorem SR.buildSlice{S:dH->Bool}(F:Fit P S D)(t:cw)(n:Nat){o j:Array (Nat×cq)}(h:ou ρ o.toList j.toList):SV P ρ (Instr.buildSlice t n o) (Instr.buildSlice t n j):=by
 unfold Instr.buildSlice;refine(SR.under t).dD λp a b f e=>?_;obtain⟨rfl,_⟩:=e;have w:=h.mono f;split;rename_i e _;refine(SR.size e).dD λk a b g e=>?_;obtain⟨rfl,_⟩:=e;have y:=w.mono g;dsimp only;split;exact .fM;have tail:∀d z l,dm.Le k d->fc d z l->SV P d
  (match Instr.fill (λi=>some (i*a,a)) (Array.map (λx=>z[x%z.size]!) (Array.range (n*a))) o.toList with
    |some cells=>do Pure.pure (Value.slice (some (<-Go.newRow e cells)) n n)
    |_=>Go.stuck "buildSlice: a part of the wrong size")
  (match Instr.fill (λi=>some (i*a,a)) (Array.map (λx=>l[x%l.size]!) (Array.range (n*a))) j.toList with
    |some cells=>do Pure.pure (Value.slice (some (<-Go.newRow e cells)) n n)
    |_=>Go.stuck "buildSlice: a part of the wrong size"):=by
  intro d z l c m;rcases FJ (λi=>some (i*a,a)) (y.mono c) (Bf m (n*a))with⟨q,v⟩|⟨r,G,q,v,B⟩;simp only[q];exact .stuck;simp only[q,v];exact SR.dD (SR.newRow _ B) λs x H _ C=>.ew (.slice _ _ C)
 split;exact SR.dD (A:=λρ a b=>fc ρ a b) (.ew .nil) λd z l c m=>tail _ _ _ c m;exact(SR.zero F _).dD λE z l u m=>SR.dD (A:=λρ a b=>fc ρ a b) (.ew m.cells) λd z l c m=>tail _ _ _ (u.trans c) m;exact .stuck
theorem SR.loadAt(t:cw)(h:VR ρ x y):SV P ρ (Instr.loadAt t x) (Instr.loadAt t y):=by unfold Instr.loadAt;exact(SR.sure h).dD λ_ a c _ b=>SR.loadVar t b
theorem SR.storeAt(t:cw){c:cq}(h:VR ρ y z)(d:VR ρ x c):SE P ρ (Instr.storeAt t y x) (Instr.storeAt t z c):=by unfold Instr.storeAt;exact(SR.sure h).dD λ_ a f b e=>SR.storeVar t e (d.mono b)
theorem SR.fieldAt(s:cw)(i:Nat)(g:CC P (λ_=>false) false false (.fieldAddr s (.tmp 0) i)=true)(h:VR ρ x y):SV P ρ (Instr.fieldAt s x i) (Instr.fieldAt s y i):=by unfold Instr.fieldAt;refine(SR.under s).dD λm a b c e=>?_;obtain⟨rfl,r⟩:=e;have t:=h.mono c;simp only[CC,r]at g;split;rename_i k;split;rename_i f u;simp only[u]at g;refine(SR.sure t).dD λo a v l p=>SR.dD (A:=λρ a b=>AR ρ a b) ?_ λ_ a v _ p=>.ew (.ptr p);unfold fieldPlace;refine(SR.size _).dD λq n z d e=>?_;obtain⟨rfl,j,w,rfl⟩:=e;simp only[w,bne_iff_ne,ne_eq]at g;rw[cy g,cy g];exact .ew ((p.mono d).add _);exact .stuck;exact .stuck
theorem SR.indexAt(t:cw){E:cq}(F:VR ρ x y)(G:VR ρ z E):SV P ρ (Instr.indexAt t x z) (Instr.indexAt t y E):=by
 unfold Instr.indexAt;refine(SR.intOf G).dD λu a b m e=>?_;obtain⟨rfl,_,_⟩:=e;have v:=F.mono m;obtain⟨k,z⟩:=a;dsimp only;refine(SR.under t).dD λw a b o e=>?_;obtain⟨rfl,_⟩:=e;have r:=v.mono o;cases a with
 |array i g=>
  refine(SR.sure r).dD λB p C s D=>SR.dD (A:=λ_ a b=>a=(some p,i,g)/\b=(some C,i,g)) (.ew ⟨rfl,rfl⟩) λj a b d e=>?_;obtain⟨rfl,rfl⟩:=e;dsimp only;refine(SR.under t).dD λl a b f e=>?_;obtain⟨rfl,_⟩:=e;split;refine(SR.size _).dD λq n H h e=>?_;obtain⟨rfl,_⟩:=e;exact .ew (.ptr ((((D.mono d).mono f).mono h).add _))
  ·repeat' split
   all_goals first|exact .fM|exact SR.boundsPanic _ _ _ _
 |slice g=>
  cases r with
  |fF i c=>
   refine SR.dD (A:=λ_ a b=>a=(none,i,g)/\b=(none,i,g)) (.ew ⟨rfl,rfl⟩) λj a b d e=>?_;obtain⟨rfl,rfl⟩:=e;dsimp only;refine(SR.under t).dD λl a b f e=>?_;obtain⟨rfl,_⟩:=e;exact SR.boundsPanic _ _ _ _
  | @slice p C i c D=>
   refine SR.dD (A:=λ_ a b=>a=(some p,i,g)/\b=(some C,i,g)) (.ew ⟨rfl,rfl⟩) λj a b d e=>?_;obtain⟨rfl,rfl⟩:=e;dsimp only;refine(SR.under t).dD λl a b f e=>?_;obtain⟨rfl,_⟩:=e;split;refine(SR.size _).dD λq n H h e=>?_;obtain⟨rfl,_⟩:=e;exact .ew (.ptr (((D.mono d).mono f).mono h|>.add _))
   ·repeat' split
    all_goals first|exact .fM|exact SR.boundsPanic _ _ _ _
  |_=>exact .dead rfl
 |_=>exact .dead rfl
def SR.bound(h:VR ρ x y)(g:Nat)(c:BoundsCode):SE P ρ (Instr.sliceBound x g c) (Instr.sliceBound y g c):=by unfold Instr.sliceBound;refine(SR.intOf h).dD λf a b d e=>?_;obtain⟨rfl,_,_⟩:=e;obtain⟨k,i⟩:=a;dsimp only;split;exact .ew rfl;exact SR.boundsPanic _ _ _ _
inductive qC (ρ:dm):Option cq->Option cq->Prop
 |none:qC ρ none none
 |some {v v':cq} (h:VR ρ v v'):qC ρ (some v) (some v')
theorem qC.mono{ρ a:dm}(b:dm.Le ρ a){o c:Option cq}(h:qC ρ o c):qC a o c:=by
 cases h with
 |none=>exact .none
 |some h=>exact .some (h.mono b)
def UE(h m:Nat)(c:BoundsCode)(g d:Option cq):qC ρ g d->SE P ρ (match g with|some v=>do let l<-Instr.sliceBound v h c;Pure.pure (l,h,m)|none=>do let l<-Pure.pure 0;Pure.pure (l,h,m))
 (match d with|some v=>do let l<-Instr.sliceBound v h c;Pure.pure (l,h,m)|none=>do let l<-Pure.pure 0;Pure.pure (l,h,m)):=by
 intro f;cases f with
 |none=>exact SR.dD (A:=λ_ a b=>a=b) (.ew rfl) λ_ a b _ e=>by subst e;exact .ew rfl
 |some f=>exact SR.dD (SR.bound f _ _) λ_ a b _ e=>by subst e;exact .ew rfl
def SR.bounds(l:Bool)(n o:Nat){t i w p x q:Option cq}(z:qC ρ t i)(y:qC ρ w p)(u:qC ρ x q):SE P ρ (Instr.sliceBounds l n o t w x) (Instr.sliceBounds l n o i p q):=by
 unfold Instr.sliceBounds;have j:=λr (v:dm.Le ρ r) h m c=>UE h m c (ρ:=r) t i (z.mono v) (P:=P);cases u with
 |none=>
  dsimp only;refine SR.dD (A:=λ_ a b=>a=b) (.ew rfl) λk m s d e=>?_;subst e;cases y with
  |none=>
   dsimp only;refine SR.dD (A:=λ_ a b=>a=b) (.ew rfl) λg m s f e=>?_;subst e;exact j _ (d.trans f) _ _ _
  |some h=>
   dsimp only;refine SR.dD (SR.bound (h.mono d) _ _) λg m s f e=>?_;subst e;exact j _ (d.trans f) _ _ _
 |some u=>
  dsimp only;refine SR.dD (SR.bound u _ _) λk m s d e=>?_;subst e;cases y with
  |none=>exact .dead rfl
  |some h=>
   dsimp only;refine SR.dD (SR.bound (h.mono d) _ _) λg m s f e=>?_;subst e;exact j _ (d.trans f) _ _ _
theorem SR.slice(t:cw){x B:cq}{C q D r v k:Option cq}(F:VR ρ x B)(G:qC ρ C q)(H:qC ρ D r)(E:qC ρ v k):SV P ρ (Instr.slice t x C D v) (Instr.slice t B q r k):=by
 unfold Instr.slice;refine(SR.under t).dD λw a b f e=>?_;obtain⟨rfl,_⟩:=e;have l:=F.mono f;have m:=G.mono f;have o:=H.mono f;have s:=E.mono f;have I:v.isSome=k.isSome:=by cases E<;>rfl
 cases a with
 |string=>
  cases l<;>first
   |exact .stuck
   |(dsimp only;rw[<-I];split;exact .stuck;refine(SR.bounds _ _ _ m o .none).dD λg a b _ e=>?_;subst e;exact .ew (.string _))
 |slice h=>
  cases l<;>first
   |exact .stuck
   |(dsimp only;refine(SR.bounds _ _ _ m o s).dD λg a b d e=>?_;subst e;refine(SR.size h).dD λp n J c e=>?_;obtain⟨rfl,_⟩:=e;refine .ew ?_;split;first|exact .fF _ _|exact .slice _ _ ((AR.mono d ‹_›).mono c)
     first|exact .fF _ _|exact .slice _ _ (((AR.mono d ‹_›).mono c).add _))
 |pointer y=>
  refine(SR.asAddr l).dD λg a L d K=>(SR.under y).dD λp a b c e=>?_;obtain⟨rfl,_⟩:=e;cases a with
  |array n h=>
   refine(SR.bounds _ _ _ ((m.mono d).mono c) ((o.mono d).mono c) ((s.mono d).mono c)).dD λz a b i e=>?_;subst e;refine(SR.size h).dD λA n J j e=>?_;obtain⟨rfl,_⟩:=e;have u:=((K.mono c).mono i).mono j;refine .ew (.slice _ _ ?_);split;exact u;exact u.add _
  |_=>exact .stuck
 |_=>exact .stuck
theorem SR.sliceAt(t:cw){w h z i A j:Option cq}(B:VR ρ x y)(C:qC ρ w h)(D:qC ρ z i)(E:qC ρ A j):SV P ρ (Instr.sliceAt t x w z A) (Instr.sliceAt t y h i j):=by
 unfold Instr.sliceAt;refine(SR.under t).dD λr a b c e=>?_;obtain⟨rfl,_⟩:=e;have k:=B.mono c;have l:=C.mono c;have m:=D.mono c;have o:=E.mono c;cases a with
 |array n p=>
  refine(SR.sure k).dD λs a G d F=>(SR.bounds _ _ _ (l.mono d) (m.mono d) (o.mono d)).dD λu a b f e=>?_;subst e;refine(SR.size p).dD λv n H g e=>?_;obtain⟨rfl,_⟩:=e;have q:=(F.mono f).mono g;refine .ew (.slice _ _ ?_);split;exact q;exact q.add _
 |_=>exact SR.slice t k l m o
theorem SR.index(t:cw){o:cq}(p:VR ρ x y)(q:VR ρ z o):SV P ρ (Instr.index t x z) (Instr.index t y o):=by
 unfold Instr.index;refine(SR.intOf q).dD λi a b c e=>?_;obtain⟨rfl,_,_⟩:=e;have j:=p.mono c;obtain⟨k,z⟩:=a;refine(SR.under t).dD λl a b d e=>?_;obtain⟨rfl,_⟩:=e;have h:=j.mono d;cases a with
 |array r g=>
  cases h<;>first
   |exact .stuck
   |(dsimp only;split;refine(SR.size g).dD λm n s f e=>?_;obtain⟨rfl,_⟩:=e;exact SR.part g (fc.mono f ⟨‹_›,‹_›⟩) _;exact SR.boundsPanic _ _ _ _)
 |string=>
  cases h<;>first
   |exact .stuck
   |(dsimp only;split;exact .ew (.int _ _);exact SR.boundsPanic _ _ _ _)
 |_=>exact .stuck
theorem SR.field(t:cw)(k:VR ρ x y)(i:Nat):SV P ρ (Instr.field t x i) (Instr.field t y i):=by
 unfold Instr.field;refine(SR.under t).dD λg a b c e=>?_;obtain⟨rfl,_⟩:=e;have h:=k.mono c;cases a with
 |struct d=>
  dsimp only;split;exact(SR.asAgg h).dD λj a m f l=>SR.part _ l _;exact .stuck
 |_=>exact .stuck
theorem SR.extract(d:VR ρ x y)(i:Nat):SV P ρ (Instr.extract x i) (Instr.extract y i):=by
 unfold Instr.extract;cases d with
 |tuple e f=>
  dsimp only;rcases fc.get? ⟨e,f⟩ i with⟨b,c⟩|⟨v,h,b,c,g⟩;rw[b];exact .stuck;rw[b,c];exact .ew g
 |Bd j a=>simp;exact .stuck
 |_=>exact .stuck
theorem SR.unary(a:UnOp)(b:VR ρ x y):SV P ρ (Op.unary a x) (Op.unary a y):=by
 unfold Op.unary;cases a<;>cases b<;>first
  |exact .stuck
  |exact .fM
  |exact .ew (.int _ _)
  |exact .ew (.bool _)
end
section
variable{P:cA}{ρ:dm}
def AR.eq{c b d:Addr}(a:AR ρ h c)(k:AR ρ b d)(e:h=b):c=d:=by
 subst e;cases a with
 |mk f g a=>
  cases k with
  |mk i j k=>rw[ρ.mg _ _ _ a k]
theorem AR.r{b:Addr}(a:AR ρ h b):ρ.r h.block b.block:=by cases a with|mk o s a=>exact a
theorem AR.off{a:Addr}(b:AR ρ h a):h.off+(ρ.sh h.block).getD 0=a.off/\h.spot=a.spot:=by cases b with|mk o s b=>exact⟨rfl,rfl⟩
def SR.T4(h:ρ.r m k):SR P (λρ a b=>(ρ.sh m=none/\a=b)\/∃c y,a=some (sR,c)/\b=some y) ρ (Go.shape m) (Go.shape k):=.shape h (λd x=>.pure (.inl ⟨d,rfl⟩)) λ_ c y=>.pure (.inr ⟨c,y,rfl,rfl⟩)
theorem SR.viewAt(h:ρ.r m k):SE P ρ (Go.viewAt m) (Go.viewAt k):=by
 unfold Go.viewAt;refine(SR.T4 h).dD λc a b d e=>?_;rcases e with⟨_,rfl⟩|⟨j,y,rfl,rfl⟩;case inr=>exact .ew rfl
 try dsimp only
 split;exact .ew rfl;refine SR.dD (A:=λρ a b=>jM ρ a b) (.getObj (d.r _ _ h) λo i f _=>.pure f) λg o i _ f=>?_;cases f<;>exact .ew rfl
theorem SR.numberAt(h:ρ.r m k):SR P (λρ a b=>(a=none/\b=none)\/∃x y l,a=some (x,l)/\b=some (y,l)/\AR ρ x y) ρ (Go.numberAt m) (Go.numberAt k):=by
 unfold Go.numberAt;refine(SR.T4 h).dD λc a b d e=>?_;rcases e with⟨_,rfl⟩|⟨j,y,rfl,rfl⟩;case inr=>exact .ew (.inl ⟨rfl,rfl⟩)
 try dsimp only
 split;exact .ew (.inl ⟨rfl,rfl⟩);refine SR.dD (A:=λρ a b=>jM ρ a b) (.getObj (d.r _ _ h) λo i f _=>.pure f) λg o i _ f=>?_;cases f with
 |number l h=>exact .ew (.inr ⟨_,_,l,rfl,rfl,h⟩)
 |_=>exact .ew (.inl ⟨rfl,rfl⟩)
def SR.behind{d:Addr}(f:AR ρ h d):SR P (λρ h b=>AR ρ h.1 b.1/\h.2=b.2) ρ (behindNumber h) (behindNumber d):=by unfold behindNumber;refine(SR.numberAt f.r).dD λa x y c e=>?_;rcases e with⟨rfl,rfl⟩|⟨x,y,l,rfl,rfl,g⟩;exact .ew ⟨f.mono c,rfl⟩;exact .ew ⟨g,rfl⟩
theorem SR.noView{b:Addr}(c:AR ρ h b):SE P ρ (Go.noView h) (Go.noView b):=by unfold Go.noView;refine(SR.viewAt c.r).dD λa x y d e=>?_;subst e;split;exact .fM;exact .ew rfl
theorem SR.byteOf{j:Addr}(f:AR ρ h j)(n:ρ.sh h.block=none):SE P ρ (Go.byteOf h) (Go.byteOf j):=by
 have o:h.off=j.off:=by have:=f.off.1;rw[n]at this;exact this
 unfold Go.byteOf;rw[<-f.off.2];try dsimp only
 split;exact .ew rfl;refine SR.prog.dD λk x y c e=>?_;obtain⟨rfl,rfl⟩:=e;try simp only[ft,jS,iy,ix,eK,eX,fA,fa]
 refine(SR.noView (f.mono c)).dD λd _ _ a _=>?_;have l:d.sh h.block=none:=by rw[<-a.g,<-c.g];exact n
 refine SR.dD (A:=λ_ h b=>h=b) (.shape (((f.mono c).mono a).r) (λ_ x=>.pure rfl) λf=>absurd l f) λm x y i e=>?_;subst e;try dsimp only
 split;rw[<-o];split;exact .ew rfl;split;exact .ew rfl;exact .stuck;exact .stuck
def SR.add{S:dH->Bool}(G:Fit P S D)(j:Array cw)(t:cw){w:cq}(h:VR ρ x z)(H:VR ρ y w)(I:∃a,x=.pointer a):
 SR P (λρ a b=>VR ρ a b/\∃l,a=.pointer l) ρ (Builtin.unsafeAdd_ j t #[x,y]) (Builtin.unsafeAdd_ j t #[z,w]):=by
 obtain⟨a,rfl⟩:=I;have p:∀(o u:ek),((o=none/\u=none)\/∃a v,o=some a/\u=some v/\AR ρ a v)->
  SR P (λρ a b=>VR ρ a b/\∃l,a=.pointer l) ρ (Builtin.unsafeAdd_ j t #[.pointer o,y]) (Builtin.unsafeAdd_ j t #[.pointer u,w]):=by
  intro o u h;unfold Builtin.unsafeAdd_;refine(SR.asInt H).dD λA n m f e=>?_;subst e;dsimp only;rcases h with⟨rfl,rfl⟩|⟨a,v,rfl,rfl,q⟩
  ·dsimp only;repeat' split
   all_goals exact .dead rfl
  dsimp only;split;refine(SR.viewAt (q.mono f).r).dD λB l y k e=>?_;subst e;split;exact .fM;exact .ew ⟨.ptr ((q.mono f).mono k),_,rfl⟩;split;exact .fM
  ·refine(SR.T4 (q.mono f).r).dD λC l y d e=>?_;rcases e with⟨F,rfl⟩|⟨m,y,rfl,rfl⟩;case inr=>
    refine SR.prog.dD λi l y c e=>?_;obtain⟨rfl,rfl⟩:=e;have J:l.cellsOf sR=0:=by simp[Program.cellsOf,G.bad]
    simp only[cellAtBytes,J,true_or,dF];exact .fM
   try dsimp only
   split;refine SR.prog.dD λi l y c e=>?_;obtain⟨rfl,rfl⟩:=e;try simp only[ft,jS,iy,ix,eK,eX,fA,fa]
   have K:a.off=v.off:=by have:=((q.mono f).mono d).off.1;rw[F]at this;exact this
   rw[<-K];split;refine .ew ⟨.ptr ?_,_,rfl⟩;have:=((q.mono f).mono d).mono c;have E:i.sh a.block=none:=by rw[<-c.g];exact F
   cases this with|mk o s h=>exact .of _ _ h E
   exact .fM;exact .fM
 cases h with
 |iR=>exact p _ _ (.inl ⟨rfl,rfl⟩)
 |ptr h=>exact p _ _ (.inr ⟨_,_,rfl,rfl,h⟩)
theorem SR.asNumber{a:Addr}(l:Bool)(d:AR ρ h a):SV P ρ (Go.asNumber h l) (Go.asNumber a l):=by unfold Go.asNumber;exact SR.dD (A:=λρ h b=>ρ.r h b/\ρ.sh h=none) (.new (.number l d) λn i j k e=>.pure ⟨dm.rH _ _ _ _ _,e⟩) λf h b g c=>.ew (.ptr (.of _ _ c.1 c.2))
def SR.Ai{S:dH->Bool}(F:Fit P S D)(t:cw){n:cq}(r:VR ρ x z)(s:VR ρ y n)(u:∃a,x=.pointer a):SV P ρ (movedNumber t x y) (movedNumber t z n):=by
 unfold movedNumber;refine(SR.under t).dD λj a b c e=>?_;obtain⟨rfl,_⟩:=e;have k:=r.mono c;have f:=s.mono c;try dsimp only
 split;exact .fM;obtain⟨a,rfl⟩:=u;cases k with
 |iR=>exact(SR.add F #[] t .iR f ⟨_,rfl⟩).jN λ_ _ _ _ h=>h.1
 |ptr A=>
  dsimp only;refine(SR.behind A).dD λl p q d e=>?_;obtain⟨g,o⟩:=e;obtain⟨C,E⟩:=p;obtain⟨G,H⟩:=q;simp only at o g;subst o;dsimp only;refine(SR.add F #[] t (.ptr g) (f.mono d) ⟨_,rfl⟩).dD λm v w i e=>?_;obtain⟨B,I,rfl⟩:=e;cases B with
  |iR=>exact .ew .iR
  |ptr h=>exact SR.asNumber _ h
def SR.K6{S:dH->Bool}(F:Fit P S D)(t:cw){d:cq}(i:VR ρ x z)(f:VR ρ y d)(j:∃a,x=.pointer a):SV P ρ (movedPointer t x y) (movedPointer t z d):=by
 unfold movedPointer;obtain⟨a,rfl⟩:=j;cases i with
 |iR=>exact(SR.add F #[] t .iR f ⟨_,rfl⟩).jN λ_ _ _ _ h=>h.1
 |ptr g=>
  dsimp only;refine(SR.numberAt g.r).dD λc p q b e=>?_;have k:p.isSome=q.isSome:=by rcases e with⟨rfl,rfl⟩|⟨_,_,_,rfl,rfl,_⟩<;>rfl
  rw[<-k];split;exact .fM;exact(SR.add F #[] t (.ptr (g.mono b)) (f.mono b) ⟨_,rfl⟩).jN λ_ _ _ _ h=>h.1
theorem SR.twoPlaces{S:dH->Bool}(F:Fit P S D){A:dm->Nat×Nat->Nat×Nat->Prop}(a b f g:Addr):SR P A ρ (Op.twoPlaces a b) (Op.twoPlaces f g):=by
 unfold Op.twoPlaces;have e:∀c:Bool,(c||decide (a.block>=P.globals.size))=true:=λc=>by simp[F.globals]
 refine SR.prog.dD λd x y h i=>?_;obtain⟨rfl,rfl⟩:=i;try simp only[ft,jS,iy,ix,eK,eX,fA,fa]
 rw[cB (e _)];exact .dead rfl
theorem SR.addrMod(d:P.info? sR=none)(k:IntKind){l:Addr}(o:AR ρ h l)(n:Int):SV P ρ (Op.addrMod k h n) (Op.addrMod k l n):=by
 unfold Op.addrMod;refine(SR.T4 o.r).dD λf x y b e=>?_;rcases e with⟨p,rfl⟩|⟨m,y,rfl,rfl⟩;case inr=>
  refine .never λw=>?_;obtain⟨c,q⟩:∃c,(typeInfo sR).run P w=.halt (.stuck c) w:=by unfold typeInfo;rw[Sem.run_bind];simp only[show(Go.program).run P w=.ok P w from rfl,Result.andThen_ok,d];exact⟨_,rfl⟩
  refine⟨.stuck c,w,?_,rfl⟩;dsimp only;rw[Sem.run_bind,q];rfl
 try dsimp only
 split;refine(SR.info _).dD λi x y a e=>?_;obtain⟨rfl,_⟩:=e;try dsimp only
 split;exact .fM;refine(SR.byteOf ((o.mono b).mono a) (by rw[<-a.g];exact p)).dD λj x y _ e=>?_;subst e;exact .ew (.int _ _);exact .fM
theorem SR.UF   {S : FuncId → Bool} {dim : Bool} (F : Fit P S dim) (m : Nat) : ∀ (d : Nat) (t : TypeId), eW       P m t = true → m ≤ d → ∀ {ρ : dm}  {x x' y y' : Value}, VR ρ x x' → VR ρ y y' → SE P ρ (Op.equalIn d t x y) (Op.equalIn d t x' y') := by
  induction m with
  | zero => intro d t h; simp [eW]       at h
  | succ m ih =>
    intro d t hf XP  ρ x x' y y' hx hy
    obtain _ | d := d
    · omega
    have SS   : m ≤ d := by omega
    unfold Op.equalIn
    refine (SR.under t).dD  fun SU a b K8   e => ?_
    obtain ⟨rfl, hu⟩ := e
    have Su  := hx.mono K8
    have Of  := hy.mono K8
    simp only [eW,       hu] at hf
    cases a with
    | bool => cases Su  <;> cases Of  <;> first | exact .ew  rfl | exact .stuck
    | string => cases Su  <;> cases Of  <;> first | exact .ew  rfl | exact .stuck
    | slice e => cases Su  <;> cases Of  <;> first | exact .ew  rfl | exact .stuck
    | int k =>
      cases Su  with
      | ptr ha => cases Of  with
        | ptr hb =>
           refine (SR.behind ha).dD  fun xv p q mh   e => ?_
           refine (SR.behind (hb.mono mh)).dD    fun Qj p' q' sS   e' => ?_
           dsimp only
           have hg : ∀ (c : Bool) (n : Nat), (c && decide (n < P.globals.size)) = false := fun c n => by simp [F.globals]
           refine SR.prog.dD  fun Hy x y Bg   e1 => ?_
           obtain ⟨rfl, rfl⟩ := e1
           try simp only [ft,             jS,        iy,          ix,          eK,              eX,             fA,              fa]
           rw [hg, hg]
           simp only [Bool.false_eq_true, if_false]
           refine (SR.info t).dD  fun Qk i j Bh   e2 => ?_
           obtain ⟨rfl, _⟩ := e2
           split
           · by_cases hA : p.1 = p'.1
             · rw [show (p.1 == p'.1) = true by simpa using hA, show (q.1 == q'.1) = true by simpa using (e.1.mono sS).eq   e'.1 hA]
               exact .ew  rfl
             · rw [show (p.1 == p'.1) = false by simpa using hA]
               exact .fM
           · exact .fM
        | int k n =>
          rcases n with (_ | j) | j
          · exact .ew  rfl
          · exact .fM
          · exact .fM
        | _ => exact .fM
      | int k n => cases Of  with
        | ptr hb =>
          rcases n with (_ | j) | j
          · exact .ew  rfl
          · exact .fM
          · exact .fM
        | int k' n' =>
          by_cases hk : k = k'
          · subst hk
            show SE P _ (if k = k then Pure.pure (n == n') else Go.stuck "==: kinds differ") (if k = k then Pure.pure (n == n') else Go.stuck "==: kinds differ")
            rw [if_pos rfl]
            exact .ew  rfl
          · show SE P _ (if k = k' then Pure.pure (n == n') else Go.stuck "==: kinds differ") (if k = k' then Pure.pure (n == n') else Go.stuck "==: kinds differ")
            rw [if_neg hk]
            exact .stuck
        | iR     => exact .fM
        | _ => exact .stuck
      | iR     => cases Of  <;> exact .fM
      | _ => cases Of  <;> first | exact .fM    | exact .stuck
    | struct fields =>
      simp only [Bool.and_eq_true, Bool.not_eq_true', Array.all_eq_true_iff_forall_mem] at hf
      cases Su  <;> cases Of  <;> first
        | exact .stuck
        | (rename_i h1 h2 _ _ h3 h4
           dsimp only
           refine SR.prog.dD  fun xv x y mh   e1 => ?_
           obtain ⟨rfl, rfl⟩ := e1
           try simp only [ft,             jS,        iy,          ix,          eK,              eX,             fA,              fa]
           rw [hf.1]
           simp only [Bool.false_eq_true, if_false]
           rw [← Array.forIn_toList, ← Array.forIn_toList]
           refine SR.dD  (SR.forIn_list _ _ fun f VF  r Qj sS   => ?_) fun Hy r r' _ e => ?_
           · split
             · refine (SR.part f.type (fc.mono  (mh.trans   sS)   ⟨h1, h2⟩) f.offset).dD  fun Hy v v' Bg   hv => ?_
               refine (SR.part f.type (fc.mono  ((mh.trans   sS).trans   Bg)   ⟨h3, h4⟩) f.offset).dD  fun Qk w w' Bh   hw => ?_
               refine (ih d f.type (hf.2 f (by simpa using VF))  SS   (hv.mono Bh)   hw).dD  fun SW p q _ e => ?_
               subst e
               split <;> exact .ew  rfl
             · exact .ew  rfl
           · subst e
             split <;> exact .ew  rfl)
    | array len elem =>
      cases Su  <;> cases Of  <;> first
        | exact .stuck
        | (rename_i h1 h2 _ _ h3 h4
           dsimp only
           refine (SR.size elem).dD  fun xv n n' mh   e1 => ?_
           obtain ⟨rfl, _⟩ := e1
           simp only [Std.Legacy.Range.forIn_eq_forIn_range']
           refine SR.dD  (SR.forIn_list _ _ fun i VF  r Qj sS   => ?_) fun Hy r r' _ e => ?_
           · refine (SR.part elem (fc.mono  (mh.trans   sS)   ⟨h1, h2⟩) _).dD  fun Hy v v' Bg   hv => ?_
             refine (SR.part elem (fc.mono  ((mh.trans   sS).trans   Bg)   ⟨h3, h4⟩) _).dD  fun Qk w w' Bh   hw => ?_
             refine (ih d elem hf SS   (hv.mono Bh)   hw).dD  fun SW p q _ e => ?_
             subst e
             split <;> exact .ew  rfl
           · subst e
             split <;> exact .ew  rfl)
    | _ => simp at hf
end
section
variable{P:cA}{ρ:dm}
def uQ(m:Nat):∀(d:Nat) (t:cw),eW P m t=true->m<=d->P.eqGuardType d t=false:=by
 induction m with
 |zero=>intro d t h;simp[eW]at h
 |succ m g=>
  intro d t f k;obtain _|d:=d;omega;have c:m<=d:=by omega
  simp only[eW]at f;unfold Program.eqGuardType;split at f;rename_i a;simp[a];rename_i a;simp[a];rename_i a;simp[a];rename_i a;simp[a];rename_i j a;simp only[dW,uM]at f;simp only[a];refine Bool.eq_false_iff.2 λb=>?_;obtain⟨i,l,b⟩:=Array.any_eq_true.1 b;simp only[dW]at b;rw[g d j[i].type (f.2 j[i] (Array.getElem_mem l)) c]at b;cases b.2;rename_i e a;simp only[a];exact g d e f c;cases f
theorem SR.eqGuard{S:FuncId->Bool}{j:Bool}(F:Fit P S j)(d:BinOp)(t:TypeId)(u:d≠ .eql->d≠ .neq->True)(p:(d=.eql\/d=.neq)->eW P 5 t=true)(l m:Operand){a n b o:Value}(q:VR ρ a n)(r:VR ρ b o):
 SE P ρ (eqGuard d t l m a b) (eqGuard d t l m n o):=by
 unfold Go.eqGuard
 by_cases g:d=.eql\/d=.neq
 ·have e:(!(match d with| .eql| .neq=>true|_=>false))=false:=by rcases g with rfl|rfl<;>rfl
  have f:=p g
  rcases g with rfl|rfl
  all_goals
   dsimp only
   cases q<;>cases r<;>first
    |exact .ew rfl
    |(dsimp only
      refine SR.prog.dD λc x y h i=>?_
      obtain⟨rfl,rfl⟩:=i
      refine SR.prog.dD λc x y h i=>?_
      obtain⟨rfl,rfl⟩:=i
      try simp only[ft,jS,iy,ix,eK,eX,fA,fa]
      rw[uQ 5 _ _ f F.depth]
      exact .ew (by first|rfl|trivial))
    |(dsimp only
      repeat' split
      all_goals first
      |exact .ew rfl
      |refine SR.dD (A:=λ_ a b=>a=false/\b=false) ?_ λk x y h i=>?_
       ·show SR P _ ρ (Op.eqGuardIn (9999+1) t .nilIface .nilIface) (Op.eqGuardIn (9999+1) t .nilIface .nilIface)
        unfold Op.eqGuardIn
        refine(SR.under t).dD λc a b _ e=>?_
        obtain⟨rfl,s⟩:=e
        simp only[eW,s]at f
        cases a<;>first|exact .ew ⟨rfl,rfl⟩|(simp at f)
       ·obtain⟨rfl,rfl⟩:=i
        exact .ew rfl)
 ·cases d<;>first|exact absurd (.inl rfl) g|exact absurd (.inr rfl) g|exact .ew rfl
def SR.Re(d:BinOp)(t:cw)(k e:IntKind)(a b:Int):SV P ρ (binOp d t (.int k a) (.int e b)) (binOp d t (.int k a) (.int e b)):=by
 have c:∀d:BinOp,SV P ρ (if k≠e then Go.stuck "BinOp: operands of different kinds" else
  match d with
  | .add| .sub| .mul=>Op.intArith d k a b
  | .quo| .rem=>Op.intDiv d k a b
  | .and| .or| .xor| .andNot=>Op.intBits d k a b
  |_=>Op.intCmp d a b) (if k≠e then Go.stuck "BinOp: operands of different kinds" else
  match d with
  | .add| .sub| .mul=>Op.intArith d k a b
  | .quo| .rem=>Op.intDiv d k a b
  | .and| .or| .xor| .andNot=>Op.intBits d k a b
  |_=>Op.intCmp d a b):=by
  intro d;split;exact .stuck;cases d<;>first
   |exact .ew (.int _ _)
   |exact .ew (.bool _)
   |exact .stuck
   |(dsimp only;unfold Op.intDiv;split;exact SR.jB _ (.inr (.inl ⟨_,rfl⟩));exact .ew (.int _ _))
 cases d with
 |add=>exact c .add
 |sub=>exact c .sub
 |mul=>exact c .mul
 |quo=>exact c .quo
 |rem=>exact c .rem
 |and=>exact c .and
 |or=>exact c .or
 |xor=>exact c .xor
 |andNot=>exact c .andNot
 |eql=>exact c .eql
 |neq=>exact c .neq
 |lss=>exact c .lss
 |leq=>exact c .leq
 |gtr=>exact c .gtr
 |geq=>exact c .geq
 |shl=>
  show SV P ρ (Op.shift .shl k a e b) (Op.shift .shl k a e b);unfold Op.shift;split;exact SR.jB _ (.inr (.inl ⟨_,rfl⟩));exact .ew (.int _ _)
 |shr=>
  show SV P ρ (Op.shift .shr k a e b) (Op.shift .shr k a e b);unfold Op.shift;split;exact SR.jB _ (.inr (.inl ⟨_,rfl⟩));exact .ew (.int _ _)
def SR.Rf(c:BinOp)(t:cw)(a b:ByteArray):SV P ρ (binOp c t (.string a) (.string b)) (binOp c t (.string a) (.string b)):=by
 cases c<;>first
  |exact .ew (.bool _)
  |exact .stuck
  |(show SV P ρ (Op.stringOp .add a b) (Op.stringOp .add a b);unfold Op.stringOp;dsimp only;split;exact .fM;exact .ew (.string _))
theorem SR.equal{S:dH->Bool}(F:Fit P S D)(t:cw)(b:eW P 5 t=true){a:cq}(c:VR ρ x z)(d:VR ρ y a):SE P ρ (Op.equal t x y) (Op.equal t z a):=
 SR.UF F 5 Op.maxDepth t b (by decide) c d
def SR.UG{S:dH->Bool}(F:Fit P S D)(d:BinOp)(j:d=.eql\/d=.neq)(t:cw)(i:eW P 5 t=true){f:cq}(g:VR ρ x z)(h:VR ρ y f):SV P ρ (binOp d t x y) (binOp d t z f):=by
 have k:SV P ρ (do Pure.pure (Value.bool (<-Op.equal t x y))) (do Pure.pure (Value.bool (<-Op.equal t z f))):=by refine SR.dD (SR.equal F t i g h) λc a b _ e=>?_;subst e;exact .ew (.bool _)
 have l:SV P ρ (do Pure.pure (Value.bool (!(<-Op.equal t x y)))) (do Pure.pure (Value.bool (!(<-Op.equal t z f)))):=by refine SR.dD (SR.equal F t i g h) λc a b _ e=>?_;subst e;exact .ew (.bool _)
 rcases j with rfl|rfl;cases g<;>cases h<;>first|exact k|exact SR.Re _ _ _ _ _ _|exact SR.Rf _ _ _ _
 cases g<;>cases h<;>first|exact l|exact SR.Re _ _ _ _ _ _|exact SR.Rf _ _ _ _
def SR.SY{S:dH->Bool}(F:Fit P S D)(f:BinOp)(d:f≠ .eql/\f≠ .neq)(t:cw){o:cq}(q:VR ρ x z)(l:VR ρ y o)(p:(∃a,x=.pointer a)\/∃a,y=.pointer a):SV P ρ (binOp f t x y) (binOp f t z o):=by
 cases q with
 |iR=>
  cases l with
  |int k n=>
   cases f<;>first
    |exact .fM
    |exact absurd rfl d.1
    |exact absurd rfl d.2
    |(refine(SR.under t).dD λc a b g e=>?_;obtain⟨rfl,_⟩:=e;cases a<;>first|exact SR.Ai F t .iR (.int k n) ⟨none,rfl⟩|exact SR.K6 F t .iR (.int k n) ⟨none,rfl⟩)
    |exact SR.Ai F t .iR (.int k (-n)) ⟨none,rfl⟩
  |_=>cases f<;>first|exact .fM|exact absurd rfl d.1|exact absurd rfl d.2
 |ptr i=>
  cases l with
  |int k n=>
   cases f<;>first
    |exact .fM
    |exact absurd rfl d.1
    |exact absurd rfl d.2
    |(refine(SR.under t).dD λc a b g e=>?_;obtain⟨rfl,_⟩:=e;split<;>first|exact SR.K6 F t (.ptr (i.mono g)) (.int _ _) ⟨_,rfl⟩|exact SR.Ai F t (.ptr (i.mono g)) (.int _ _) ⟨_,rfl⟩)
    |exact SR.Ai F t (.ptr i) (.int _ _) ⟨_,rfl⟩
    |(refine(SR.behind i).dD λc a b _ e=>?_;exact SR.addrMod F.bad _ e.1 _)
  |ptr j=>
   cases f<;>first
    |exact .fM
    |exact absurd rfl d.1
    |exact absurd rfl d.2
    |(refine(SR.behind i).dD λc a b g e=>?_;refine(SR.behind (j.mono g)).dD λm r s _ u=>?_;first
       |(unfold Op.addrSub;exact SR.dD (SR.twoPlaces F (A:=λ_ _ _=>False) _ _ _ _) λ_ _ _ _ h=>h.elim)
       |(unfold Op.addrCmp;exact SR.dD (SR.twoPlaces F (A:=λ_ _ _=>False) _ _ _ _) λ_ _ _ _ h=>h.elim))
  |_=>cases f<;>first|exact .fM|exact absurd rfl d.1|exact absurd rfl d.2
 |int k n=>
  cases l with
  |iR=>
   cases f<;>first
    |exact .fM
    |exact absurd rfl d.1
    |exact absurd rfl d.2
    |exact SR.Ai F t .iR (.int _ _) ⟨_,rfl⟩
  |ptr j=>
   cases f<;>first
    |exact .fM
    |exact absurd rfl d.1
    |exact absurd rfl d.2
    |exact SR.Ai F t (.ptr j) (.int _ _) ⟨_,rfl⟩
    |(refine(SR.behind j).dD λc a b _ e=>?_;exact SR.addrMod F.bad _ e.1 _)
  |_=>rcases p with⟨a,h⟩|⟨a,h⟩<;>cases h
 |_=>
  cases l with
  |iR=>cases f<;>first|exact .fM|exact absurd rfl d.1|exact absurd rfl d.2
  |ptr j=>cases f<;>first|exact .fM|exact absurd rfl d.1|exact absurd rfl d.2
  |_=>rcases p with⟨a,h⟩|⟨a,h⟩<;>cases h
theorem SR.binOp{S:dH->Bool}{dim:Bool}(F:Fit P S dim)(b:BinOp)(t:cw)(j:(b=.eql\/b=.neq)->eW P 5 t=true){i:cq}(f:VR ρ x z)(g:VR ρ y i):SV P ρ (Go.binOp b t x y) (Go.binOp b t z i):=by
 by_cases d:b=.eql\/b=.neq;exact SR.UG F b d t (j d) f g;have c:b≠ .eql/\b≠ .neq:=⟨λe=>d (.inl e),λe=>d (.inr e)⟩;by_cases h:(∃a,x=.pointer a)\/∃a,y=.pointer a;exact SR.SY F b c t f g h
 ·cases f<;>first|exact absurd (.inl ⟨_,rfl⟩) h|skip
  all_goals cases g
  all_goals first
   |exact absurd (.inr ⟨_,rfl⟩) h
   |exact SR.Re _ _ _ _ _ _
   |exact SR.Rf _ _ _ _
   |(cases b<;>first|exact .stuck|exact .fM|exact absurd rfl c.1|exact absurd rfl c.2)
def SR.conv(s d:cw)(j:intType P s=true)(k:intType P d=true)(l:VR ρ x y):SV P ρ (Go.convert s d x) (Go.convert s d y):=by
 unfold Go.convert;refine(SR.under s).dD λf a b g e=>?_;obtain⟨rfl,m⟩:=e;refine(SR.under d).dD λh n p c e=>?_;obtain⟨rfl,o⟩:=e;simp only[intType,m]at j;simp only[intType,o]at k;have i:=(l.mono g).mono c;cases a<;>first|(simp at j;done)|skip
 cases n<;>first|(simp at k;done)|skip
 cases i<;>first|exact .ew (.int _ _)|exact .fM|exact .stuck
end
section
variable{P:cA}{ρ:dm}
theorem SR.checkKey{S:dH->Bool}(F:Fit P S D)(I:Bool)(m:Nat):∀(d:Nat) (t:cw),eW P m t=true->m<=d->∀{ρ:dm} {x A:cq},VR ρ x A->SE P ρ (Instr.checkKey I d t x) (Instr.checkKey I d t A):=by
 have _:=F;induction m with
 |zero=>intro d t h;simp[eW]at h
 |succ m J=>
  intro d t w K ρ x A L;obtain _|d:=d;omega;have s:m<=d:=by omega
  unfold Instr.checkKey;refine(SR.under t).dD λB a b o e=>?_;obtain⟨rfl,M⟩:=e;have j:=L.mono o;simp only[eW,M]at w;cases a with
  |bool=>cases j<;>exact .ew rfl
  |string=>cases j<;>exact .ew rfl
  |slice e=>cases j<;>exact .ew rfl
  |int k=>cases j<;>exact .ew rfl
  |struct z=>
   simp only[dW,tE,uM]at w;cases j with
   |agg C E=>
    dsimp only;rw[<-SJ,<-SJ];refine SR.dD (SR.forIn_list _ _ λf y r u c=>?_) λg r N _ e=>.ew e;split;refine(SR.part f.type (fc.mono c ⟨C,E⟩) f.offset).dD λg v O p G=>?_;refine SR.dD (J d f.type (w.2 f (by simpa using y)) s G) λ_ _ _ _ _=>.ew rfl;exact .ew rfl
   |_=>exact .stuck
  |array Q l=>
   cases j with
   |agg C E=>
    dsimp only;simp only[Std.Legacy.Range.forIn_eq_forIn_range'];refine SR.dD (SR.forIn_list _ _ λi y r u c=>?_) λg r N _ e=>.ew trivial;refine(SR.size l).dD λH n T q R=>?_;obtain⟨rfl,_⟩:=R;refine(SR.part l (fc.mono (c.trans q) ⟨C,E⟩) _).dD λg v O p G=>?_;refine SR.dD (J d l w s G) λ_ _ _ _ _=>.ew rfl
   |_=>exact .stuck
  |_=>simp at w
inductive oQ (ρ:dm):List MapEntry->List MapEntry->Prop
 |nil:oQ ρ [] []
 |cons {e e':MapEntry} {l l':List MapEntry} (h:sQ ρ e e') (t:oQ ρ l l'):oQ ρ (e::l) (e'::l')
theorem oQ.of{ρ:dm}:∀{l a:List MapEntry},l.length=a.length->(∀(i:Nat) v b,l[i]? =some v->a[i]? =some b->sQ ρ v b)->oQ ρ l a
 |[],[],_,_=>.nil
 |[],_::_,h,_=>by simp at h
 |_::_,[],h,_=>by simp at h
 |v::l,b::a,h,k=>.cons (k 0 v b rfl rfl) (oQ.of (by simpa using h) λi x c d e=>k (i+1) x c (by simpa using d) (by simpa using e))
theorem oQ.mono{ρ a:dm}(b:dm.Le ρ a){l c:List MapEntry}(h:oQ ρ l c):oQ a l c:=by
 induction h with
 |nil=>exact .nil
 |cons h _ d=>exact .cons (h.mono b) d
def oQ.empty{ρ:dm}{l a:List MapEntry}(h:oQ ρ l a):l.isEmpty=a.isEmpty:=by cases h<;>rfl
def IP(a:TypeDesc){b:cq}(c:VR ρ x y)(d:VR ρ z b):Instr.sameNow a x z=Instr.sameNow a y b:=by cases a<;>first|rfl|(cases c<;>cases d<;>rfl)
def IQ(a:TypeDesc)(d:VR ρ x y){l b:List MapEntry}(h:oQ ρ l b):∀i,(Instr.findNow a x l i=none/\Instr.findNow a y b i=none)\/(Instr.findNow a x l i=some none/\Instr.findNow a y b i=some none)\/∃j v c,Instr.findNow a x l i=some (some (j,v))/\Instr.findNow a y b i=some (some (j,c))/\VR ρ v c:=by
 induction h with
 |nil=>exactλi=>.inr (.inl ⟨rfl,rfl⟩)
 |cons h _ e=>
  intro i;simp only[Instr.findNow];rw[<-IP a d h.key];split;exact .inr (.inr ⟨_,_,_,rfl,rfl,h.val⟩);exact e _;exact .inl ⟨rfl,rfl⟩
def K9(ρ:dm)(a b:Option (Nat×cq)):Prop:=(a=none/\b=none)\/∃j v c,a=some (j,v)/\b=some (j,c)/\VR ρ v c
theorem SR.findAsking{S:dH->Bool}(F:Fit P S D)(t:cw)(o:eW P 5 t=true){l m:List MapEntry}(h:oQ ρ l m):∀{d:dm} (i:Nat) {k g:cq},dm.Le ρ d->VR d k g->SR P K9 d (Instr.findAsking t k l i) (Instr.findAsking t g m i):=by
 induction h with
 |nil=>exactλi _ _ _ _=>.ew (.inl ⟨rfl,rfl⟩)
 |cons h _ p=>
  intro d i k g f n;unfold Instr.findAsking;refine(SR.equal F t o n (h.key.mono f)).dD λj a b c e=>?_;subst e;split;exact .ew (.inr ⟨_,_,_,rfl,rfl,h.val.mono (f.trans c)⟩);exact p _ (f.trans c) (n.mono c)
theorem SR.findKey{S:dH->Bool}(F:Fit P S D)(t:cw)(m:eW P 5 t=true){l i:List MapEntry}(h:oQ ρ l i)(k:VR ρ x y):SR P K9 ρ (Instr.findKey t x l) (Instr.findKey t y i):=by unfold Instr.findKey;refine(SR.under t).dD λg a b c e=>?_;obtain⟨rfl,o⟩:=e;rcases IQ a (k.mono c) (h.mono c) 0 with⟨d,f⟩|⟨d,f⟩|⟨j,v,p,d,f,n⟩;rw[d,f];exact SR.findAsking F t m (h.mono c) 0 (.refl _) (k.mono c);rw[d,f];exact .ew (.inl ⟨rfl,rfl⟩);rw[d,f];exact .ew (.inr ⟨_,_,_,rfl,rfl,n⟩)
theorem SR.lookup{S:dH->Bool}(F:Fit P S D)(t:cw)(U:∀z e,P.underlying t=some (.map z e)->eW P 5 z=true)(n:Bool){H:cq}(V:VR ρ x y)(W:VR ρ z H):SV P ρ (Instr.lookup t x z n) (Instr.lookup t y H n):=by
 unfold Instr.lookup;refine(SR.under t).dD λp a b l e=>?_;obtain⟨rfl,X⟩:=e;have L:=V.mono l;have B:=W.mono l;cases a with
 |map q I=>
  have C:=U q I X;dsimp only;have tail:∀d (r h:Array MapEntry),dm.Le p d->oQ d r.toList h.toList->SV P d (do
    Instr.checkKey r.isEmpty 10000 q z;let g<-match<-Instr.findKey q z r.toList with
     |some (_,v)=>Pure.pure (v,true)
     |none=>do Pure.pure (<-zeroValue I,false)
    match g with
    |(v,s)=>Pure.pure (if n=true then Value.tuple #[v,.bool s]else v))
   (do
    Instr.checkKey h.isEmpty 10000 q H;let g<-match<-Instr.findKey q H h.toList with
     |some (_,v)=>Pure.pure (v,true)
     |none=>do Pure.pure (<-zeroValue I,false)
    match g with
    |(v,s)=>Pure.pure (if n=true then Value.tuple #[v,.bool s]else v)):=by
   intro d r h c m;have M:r.isEmpty=h.isEmpty:=by
    have T:∀(a:Array MapEntry),a.isEmpty=a.toList.isEmpty:=λa=>by cases a;simp
    rw[T,T];exact m.empty
   rw[<-M];refine(SR.checkKey F _ 5 10000 q C (by decide) (B.mono c)).dD λu _ _ f _=>(SR.findKey F q C (m.mono f) ((B.mono c).mono f)).dD λN aa ab J O=>?_;have E:∀k (v w:cq) (o:Bool),VR k v w->SV P k (Pure.pure (if n=true then Value.tuple #[v,.bool o]else v)) (Pure.pure (if n=true then Value.tuple #[w,.bool o]else w)):=by intro k v w o K;cases n;exact .ew K;exact .ew (fc.VD (fc.KY K (.bool _)))
   rcases O with⟨rfl,rfl⟩|⟨j,v,w,rfl,rfl,Y⟩;exact(SR.zero F I).dD λQ ac z' _ Z=>E _ _ _ _ Z;exact E _ _ _ _ Y
  cases L with
  |qA=>
   exact SR.dD (A:=λρ (a b:Array MapEntry)=>oQ ρ a.toList b.toList) (.ew .nil) λd r h c m=>tail _ _ _ c m
  |map hr=>
   refine SR.dD (A:=λρ a b=>jM ρ a b/\∀cs t fz,a≠ .cells cs t fz) (.getObj hr λo o' G R=>.pure ⟨G,R⟩) λd o o' c G=>?_;obtain⟨G,R⟩:=G;cases G with
   |map K h2=>exact SR.dD (A:=λρ (a b:Array MapEntry)=>oQ ρ a.toList b.toList) (.ew (oQ.of (by simpa using K) λi v w a b=>h2 i v w (by simpa using a) (by simpa using b))) λu r h f m=>tail _ _ _ (c.trans f) m
   |cells _ _=>exact absurd rfl (R _ _ _)
   |_=>exact .dead rfl
  |_=>exact .dead rfl
 |_=>exact .stuck
theorem FK         (n : Nat) : ∀ {a a' b b' : Value}, VR ρ a a' → VR ρ b b' → Instr.sameBits n a b = true → Instr.sameBits n a' b' = true := by
  have hp : ∀ {x x' y y' : Option Addr}, ((x = none ∧ x' = none) ∨ ∃ p p', x = some p ∧ x' = some p' ∧ AR ρ p p') → ((y = none ∧ y' = none) ∨ ∃ p p', y = some p ∧ y' = some p' ∧ AR ρ p p') → (x == y) = true → (x' == y') = true := by
    intro x x' y y' h k
    rcases h with ⟨rfl, rfl⟩ | ⟨p, p', rfl, rfl, h⟩ <;> rcases k with ⟨rfl, rfl⟩ | ⟨q, q', rfl, rfl, k⟩
    · exact id
    · simp
    · simp
    · simp only [beq_iff_eq, Option.some.injEq]
      exact h.eq k
  have hc : ∀ {x x' y y' : Option Nat}, ((x = none ∧ x' = none) ∨ ∃ p p', x = some p ∧ x' = some p' ∧ ρ.r p p') → ((y = none ∧ y' = none) ∨ ∃ p p', y = some p ∧ y' = some p' ∧ ρ.r p p') → (x == y) = true → (x' == y') = true := by
    intro x x' y y' h k
    rcases h with ⟨rfl, rfl⟩ | ⟨p, p', rfl, rfl, h⟩ <;> rcases k with ⟨rfl, rfl⟩ | ⟨q, q', rfl, rfl, k⟩
    · exact id
    · simp
    · simp
    · simp only [beq_iff_eq, Option.some.injEq]
      exact fun e => by subst e; exact ρ.mg   _ _ _ h k
  induction n with
  | zero =>
    intro a a' b b' ha hb
    cases ha <;> cases hb <;> first
      | exact id
      | exact fun h => by cases h
      | exact hp (.inl ⟨rfl, rfl⟩) (.inl ⟨rfl, rfl⟩)
      | exact hp (.inl ⟨rfl, rfl⟩) (.inr ⟨_, _, rfl, rfl, ‹_›⟩)
      | exact hp (.inr ⟨_, _, rfl, rfl, ‹_›⟩) (.inl ⟨rfl, rfl⟩)
      | exact hc (.inl ⟨rfl, rfl⟩) (.inr ⟨_, _, rfl, rfl, ‹_›⟩)
      | exact hc (.inr ⟨_, _, rfl, rfl, ‹_›⟩) (.inl ⟨rfl, rfl⟩)
      | (rename_i h1 _ _ h2; exact hp (.inr ⟨_, _, rfl, rfl, h1⟩) (.inr ⟨_, _, rfl, rfl, h2⟩))
      | (rename_i h1 _ _ h2; exact hc (.inr ⟨_, _, rfl, rfl, h1⟩) (.inr ⟨_, _, rfl, rfl, h2⟩))
  | succ n ih =>
    have Rg   : ∀ {l l' k k' : List Value}, qc  ρ l l' → qc  ρ k k' → ((l.zip k).all fun (x, y) => Instr.sameBits n x y) = true → ((l'.zip k').all fun (x, y) => Instr.sameBits n x y) = true := by
      intro l l' k k' h
      induction h generalizing k k' with
      | nil => intro _; exact id
      | cons h _ WE  =>
        intro hk
        cases hk with
        | nil => exact id
        | cons h' t' =>
          simp only [List.zip_cons_cons, List.all_cons, Bool.and_eq_true]
          exact fun ⟨x, y⟩ => ⟨ih h h' x, WE  t' y⟩
    intro a a' b b' ha hb
    cases ha <;> cases hb <;> first
      | exact id
      | exact fun h => by cases h
      | exact hp (.inl ⟨rfl, rfl⟩) (.inl ⟨rfl, rfl⟩)
      | exact hp (.inl ⟨rfl, rfl⟩) (.inr ⟨_, _, rfl, rfl, ‹_›⟩)
      | exact hp (.inr ⟨_, _, rfl, rfl, ‹_›⟩) (.inl ⟨rfl, rfl⟩)
      | exact hc (.inl ⟨rfl, rfl⟩) (.inr ⟨_, _, rfl, rfl, ‹_›⟩)
      | exact hc (.inr ⟨_, _, rfl, rfl, ‹_›⟩) (.inl ⟨rfl, rfl⟩)
      | (rename_i h1 _ _ h2; exact hp (.inr ⟨_, _, rfl, rfl, h1⟩) (.inr ⟨_, _, rfl, rfl, h2⟩))
      | (rename_i h1 _ _ h2; exact hc (.inr ⟨_, _, rfl, rfl, h1⟩) (.inr ⟨_, _, rfl, rfl, h2⟩))
      | (rename_i h1 _ _ _ h2
         simp only [Instr.sameBits, Bool.and_eq_true]
         exact fun ⟨x, y⟩ => ⟨x, ih h1 h2 y⟩)
      | (rename_i h1 h2 _ _ h3 h4
         simp only [Instr.sameBits, Bool.and_eq_true]
         rw [h1, h3]
         exact fun ⟨x, y⟩ => ⟨x, Rg   (fc.list  ⟨h1, h2⟩) (fc.list  ⟨h3, h4⟩) y⟩)
def CF(n:Nat):∀{a b:cq},Instr.sameBits n a b=true->a=b:=by
 have g:∀{n:Nat} {x y:ByteArray},Instr.sameBits n (.string x) (.string y)=true->x=y:=by
  intro n x y h;obtain⟨x⟩:=x;obtain⟨y⟩:=y;have z:(x==y)=true:=by cases n<;>exact h
  rw[eq_of_beq z]
 have c:∀{n:Nat} {a b:cq},(∀t v u w,a=.iface t v->b=.iface u w->False)->(∀x y,a=.agg x->b=.agg y->False)->Instr.sameBits n a b=true->a=b:=by intro n a b A B h;cases a<;>cases b<;>first|(exact(A _ _ _ _ rfl rfl).elim)|(exact(B _ _ rfl rfl).elim)|rfl|(cases n<;>simp_all[Instr.sameBits];done)|(rename_i x y;rw[g h])
 induction n with
 |zero=>
  intro a b h;refine c (λt v u w d e=>?_) (λx y d e=>?_) h<;>(subst d e;cases h)
 |succ n o=>
  intro a b h;by_cases r:∃t v u w,a=.iface t v/\b=.iface u w;obtain⟨t,v,u,w,rfl,rfl⟩:=r;simp only[Instr.sameBits,dW,ol]at h;rw[h.1,o h.2];by_cases s:∃x y,a=.agg x/\b=.agg y;obtain⟨x,y,rfl,rfl⟩:=s;simp only[Instr.sameBits,dW,ol]at h
  have i:∀(l m:dr),l.kq=m.kq->((l.zip m).all λ(x,y)=>Instr.sameBits n x y)=true->l=m:=by
   intro l;induction l with
   |nil=>intro m f _;cases m with|nil=>rfl|cons _ _=>simp at f
   |cons p l j=>
    intro m f k;cases m with
    |nil=>simp at f
    |cons q m=>
     simp only[List.zip_cons_cons,List.all_cons,dW]at k;rw[o k.1,j m (by simpa using f) k.2]
  rw[Array.toList_inj.1 (i _ _ (by simpa using h.1) h.2)];exact c (λt v u w d e=>r ⟨t,v,u,w,d,e⟩) (λx y d e=>s ⟨x,y,d,e⟩) h
theorem SX.mapUpdate{S:dH->Bool}(F:Fit P S D)(t:cw)(X:∀k e,P.underlying t=some (.map k e)->eW P 5 k=true){k G Y:cq}(hm:VR ρ y z)(hk:VR ρ k G)(hx:VR ρ x Y):
 SX P (λ_ (a b:Unit)=>a=b) ρ (Instr.mapUpdate t y k x) (Instr.mapUpdate t z G Y):=by
 unfold Instr.mapUpdate;refine SX.dD (SR.under t) λZ a b w e=>?_;obtain⟨rfl,hu⟩:=e;have aa:=hm.mono w;have K:=hk.mono w;have ab:=hx.mono w;cases a with
 |map kt et=>
  have Q:=X kt et hu;dsimp only;cases aa with
  |qA=>exact .of<|SR.jB _ (.inr (.inr (.inl ⟨_,rfl⟩)))
  | @map r r' hr=>
   refine SX.dD (A:=λρ a b=>jM ρ a b/\∀cs t fz,a≠ .cells cs t fz) (.getObj hr λo o' R hc=>.pure ⟨R,hc⟩) λL o o' l R=>?_;obtain⟨R,hc⟩:=R;cases R with
   | @map H u c T h2=>
    dsimp only;have ac:oQ L H.toList u.toList:=oQ.of (by simpa using T) λi v v' a b=>h2 i v v' (by simpa using a) (by simpa using b);refine SX.dD (SR.checkKey F _ 5 10000 kt Q (by decide) (K.mono l)) λad _ _ g _=>SX.dD (SR.findKey F kt Q (ac.mono g) ((K.mono l).mono g)) λB p q m ae=>?_;have E:=((K.mono l).mono g).mono m;have U:=((ab.mono l).mono g).mono m;have M:=m.r _ _ (g.r _ _ (l.r _ _ hr));have I:∀(i:Nat) e J,H[i]? =some e->u[i]? =some J->sQ B e J:=λi e J a b=>((h2 i e J a b).mono g).mono m;rcases ae with⟨rfl,rfl⟩|⟨j,v,v',rfl,rfl,hv⟩;refine .of<| .setObj M (.map (by simp[T]) λi e J a b=>?_) (λ_ _ _ e=>by cases e) (.pure rfl);rw[nS]at a b;rw[<-T]at b;split at a;rename_i N;rw[cB N]at b;cases a;cases b;exact⟨E,U,rfl⟩;rename_i N;rw[cy N]at b;exact I i e J a b;dsimp only;have C:VR B (((H[j]?).map (·.key)).getD k) (((u[j]?).map (·.key)).getD G):=by by_cases hj:j<H.size;have V:j<u.size:=T▸hj;rw[iY hj,iY V];exact(I j _ _ (iY hj) (iY V)).key;rw[lT (by omega),lT (by omega)];exact E
    have W:∀{s:dm} {a b:cq},dm.Le B s->VR s a b->jM s (.map (H.modify j λe=>{e with key:=a,val:=x}) c) (.map (u.modify j λe=>{e with key:=b,val:=Y}) c):=λf O=>.map (by simp[T]) λi e J c d=>by rw[mR]at c d;split at c;rename_i N;rw[cB N]at d;obtain⟨e1,f1,rfl⟩:=il.1 c;obtain⟨e2,f2,rfl⟩:=il.1 d;exact⟨O,U.mono f,(I i e1 e2 f1 f2).born⟩;rename_i N;rw[cy N]at d;exact(I i e J c d).mono f
    have same:∀(b b':Bool),b=b'->SX P (λ_ (a b:Unit)=>a=b) B
     ((if b=true then Pure.pure k else(do Pure.pure (if(<-Go.choose (.extern "map.whichKeyStays" 2))=0 then k else((H[j]?).map (·.key)).getD k)):Sem cq)>>=λkey=>setObj r (.map (H.modify j λe=>{e with key,val:=x}) c))
     ((if b'=true then Pure.pure G else(do Pure.pure (if(<-Go.choose (.extern "map.whichKeyStays" 2))=0 then G else((u[j]?).map (·.key)).getD G)):Sem cq)>>=λkey=>setObj r' (.map (u.modify j λe=>{e with key,val:=Y}) c)):=by
     intro b b' e;subst e;refine .of (SR.dD (A:=λρ a b=>VR ρ a b) ?_ λs a b f O=>.setObj (f.r _ _ M) (W f O) (λ_ _ _ e=>by cases e) (.pure rfl));split;exact .ew E;refine SR.dD (A:=λ_ a b=>a=b) (.choose λn=>.pure rfl) λs a b f e=>?_;subst e;refine .ew ?_;split;exact E.mono f;exact C.mono f
    unfold Instr.keyThatStays;by_cases hs:Instr.sameBits 10000 (((H[j]?).map (·.key)).getD k) k=Instr.sameBits 10000 (((u[j]?).map (·.key)).getD G) G;exact same _ _ hs
    have hf:Instr.sameBits 10000 (((H[j]?).map (·.key)).getD k) k=false:=by
     cases h:Instr.sameBits 10000 (((H[j]?).map (·.key)).getD k) k with
     |false=>rfl
     |true=>exact absurd (h.trans (FK 10000 C E h).symm) hs
    have X:Instr.sameBits 10000 (((u[j]?).map (·.key)).getD G) G=true:=by
     cases h:Instr.sameBits 10000 (((u[j]?).map (·.key)).getD G) G with
     |true=>rfl
     |false=>exact absurd (hf.trans h.symm) hs
    rw[hf,X];rw[CF _ X]at C;refine SX.skip (o:=λn=>.map (H.modify j λe=>{e with key:=if n=0 then k else((H[j]?).map (·.key)).getD k,val:=x}) c) M (λn=>W (.refl _) ?_) (λ_ _ _ _ e=>by cases e) rfl;split;exact E;exact C
   |cells _ _=>exact absurd rfl (hc _ _ _)
   |_=>exact .of .stuck
  |_=>exact .of .stuck
 |_=>exact .of .stuck
theorem SR.makeMap(t:cw){r g:Option cq}(h:qC ρ r g):SV P ρ (Instr.makeMap t r) (Instr.makeMap t g):=by
 unfold Instr.makeMap
 have tail:∀d,SV P d (do Pure.pure (Value.map (some (<-newObj (.map #[] 0))))) (do Pure.pure (Value.map (some (<-newObj (.map #[] 0))))):=λd=>
  SR.dD (A:=λρ a b=>ρ.r a b) (.new (.map rfl λi e l h=>by simp at h) λn m o p _=>.pure (dm.rH _ _ _ _ _)) λd a b j k=>.ew (.map k)
 cases h with
 |none=>exact tail _
 |some h=>
  dsimp only;refine(SR.under t).dD λf a b c e=>?_;obtain⟨rfl,q⟩:=e;split;exact(SR.asInt (h.mono c)).dD λ_ _ _ _ _=>tail _;exact .stuck
def SR.len(q:Array cw)(t:cw)(h:fc ρ W X):SV P ρ (Builtin.len_ q t W) (Builtin.len_ q t X):=by
 unfold Builtin.len_;rcases h.get? 0 with⟨r,_⟩|⟨x,D,r,y,z⟩;rw[r];cases q[0]? <;>exact .stuck;rw[r,y];cases q[0]? with
 |none=>exact .stuck
 |some B=>
  dsimp only;refine(SR.under B).dD λl a b j e=>?_;obtain⟨rfl,E⟩:=e;have c:=z.mono j;cases a with
  |array n e=>cases c<;>exact .ew (.int _ _)
  |pointer m=>
   have tail:SV P l (do let d<-Go.underlying m;match d with| .array n _=>Pure.pure (goInt n)|_=>Go.stuck "len: pointer to array expected") (do let d<-Go.underlying m;match d with| .array n _=>Pure.pure (goInt n)|_=>Go.stuck "len: pointer to array expected"):=by refine(SR.under m).dD λg a b f e=>?_;obtain⟨rfl,_⟩:=e;cases a<;>first|exact .stuck|exact .ew (.int _ _)
   cases c<;>exact tail
  |string=>cases c<;>first|exact .stuck|exact .ew (.int _ _)
  |slice e=>cases c<;>first|exact .stuck|exact .ew (.int _ _)
  |map k e=>
   cases c with
   |qA=>exact .ew (.int _ _)
   |map s=>
    refine SR.dD (A:=λρ a b=>jM ρ a b/\∀u t v,a≠ .cells u t v) (.getObj s λo w i p=>.pure ⟨i,p⟩) λg o w f i=>?_;obtain⟨i,p⟩:=i;cases i with
    |map C F=>dsimp only;rw[C];exact .ew (.int _ _)
    |cells _ _=>exact absurd rfl (p _ _ _)
    |_=>exact .stuck
   |_=>exact .stuck
  |chan k e=>
   cases c with
   |po=>exact .ew (.int _ _)
   |chan s=>
    refine SR.dD (A:=λρ a b=>jM ρ a b/\∀u t v,a≠ .cells u t v) (.getObj s λo w i p=>.pure ⟨i,p⟩) λg o w f i=>?_;obtain⟨i,p⟩:=i;cases i with
    |cells _ _=>exact absurd rfl (p _ _ _)
    |_=>exact .stuck
   |_=>exact .stuck
  |_=>cases c<;>exact .stuck
def SR.cap(p:Array cw)(t:cw)(h:fc ρ W X):SV P ρ (Builtin.cap_ p t W) (Builtin.cap_ p t X):=by
 unfold Builtin.cap_;rcases h.get? 0 with⟨q,_⟩|⟨x,C,q,s,u⟩;rw[q];cases p[0]? <;>exact .stuck;rw[q,s];cases p[0]? with
 |none=>exact .stuck
 |some v=>
  dsimp only;refine(SR.under v).dD λi a b f e=>?_;obtain⟨rfl,D⟩:=e;have c:=u.mono f;cases a with
  |array n e=>cases c<;>exact .ew (.int _ _)
  |pointer j=>
   have tail:SV P i (do let d<-Go.underlying j;match d with| .array n _=>Pure.pure (goInt n)|_=>Go.stuck "cap: pointer to array expected") (do let d<-Go.underlying j;match d with| .array n _=>Pure.pure (goInt n)|_=>Go.stuck "cap: pointer to array expected"):=by refine(SR.under j).dD λl a b g e=>?_;obtain⟨rfl,_⟩:=e;cases a<;>first|exact .stuck|exact .ew (.int _ _)
   cases c<;>exact tail
  |slice e=>cases c<;>first|exact .stuck|exact .ew (.int _ _)
  |chan k e=>
   cases c with
   |po=>exact .ew (.int _ _)
   |chan w=>
    refine SR.dD (A:=λρ a b=>jM ρ a b/\∀y t z,a≠ .cells y t z) (.getObj w λo B m r=>.pure ⟨m,r⟩) λl o B g m=>?_;obtain⟨m,r⟩:=m;cases m with
    |cells _ _=>exact absurd rfl (r _ _ _)
    |_=>exact .stuck
   |_=>exact .stuck
  |_=>cases c<;>exact .stuck
def SR.Ql{f:cq->cq->Sem cq}(n:∀{ρ:dm} {a l b m:cq},VR ρ a l->VR ρ b m->SV P ρ (f a b) (f l m))(h:qc ρ M Y):∀{c:dm} {x g:cq},dm.Le ρ c->VR c x g->SV P c (M.foldlM f x) (Y.foldlM f g):=by
 induction h with
 |nil=>exactλ_ i=>.ew i
 |cons h _ o=>
  intro c x g e i;simp only[List.foldlM_cons];exact(n i (h.mono e)).dD λj a b d k=>o (e.trans d) k
theorem SR.max2{ρ:dm}{a:cq}(b:VR ρ x y)(c:VR ρ z a):SV P ρ (Builtin.max2 x z) (Builtin.max2 y a):=by cases b<;>cases c<;>first|exact .stuck|exact .fM|exact .ew (.int _ _)|exact .ew (.string _)
theorem SR.min2{ρ:dm}{a:cq}(b:VR ρ x y)(c:VR ρ z a):SV P ρ (Builtin.min2 x z) (Builtin.min2 y a):=by cases b<;>cases c<;>first|exact .stuck|exact .fM|exact .ew (.int _ _)|exact .ew (.string _)
def SR.max(b:Array cw)(t:cw)(h:fc ρ W X):SV P ρ (Builtin.max_ b t W) (Builtin.max_ b t X):=by
 unfold Builtin.max_;have a:=h.list;revert a;generalize W.toList=l;generalize X.toList=e;intro a;cases a with
 |nil=>exact .stuck
 |cons h t=>exact SR.Ql (λc d=>SR.max2 c d) t (.refl _) h
def SR.min(b:Array cw)(t:cw)(h:fc ρ W X):SV P ρ (Builtin.min_ b t W) (Builtin.min_ b t X):=by
 unfold Builtin.min_;have a:=h.list;revert a;generalize W.toList=l;generalize X.toList=e;intro a;cases a with
 |nil=>exact .stuck
 |cons h t=>exact SR.Ql (λc d=>SR.min2 c d) t (.refl _) h
end
section
variable{P:cA}{ρ:dm}
theorem SR.lenOf(h:VR ρ x y):SE P ρ (Builtin.lenOf x) (Builtin.lenOf y):=by cases h<;>first|exact .ew rfl|exact .stuck
theorem SR.firstCells(size n:Nat)(h:VR ρ x y):SR P (λρ a b=>fc ρ a b) ρ (Builtin.firstCells size n x) (Builtin.firstCells size n y):=by
 cases h<;>first
  |exact SR.loadCells ‹_› _
  |exact .ew .nil
  |exact .ew (fc.map _ _ _ λ_ _=>.int _ _)
  |exact .stuck
def CG(h:fc ρ W X)(n:Nat):fc ρ (Builtin.zeroCells W n) (Builtin.zeroCells X n):=by
 unfold Builtin.zeroCells;have e:∀(a:dU) (i:Nat),a[i]! =(a[i]?).getD default:=λa i=>by simp[getElem!_def];cases a[i]? <;>rfl
 rw[<-h.size];refine fc.map _ _ _ λi _=>?_;rw[e,e];rcases h.get? (i%W.size)with⟨b,c⟩|⟨v,f,b,c,d⟩;rw[b,c];exact .bool _;rw[b,c];exact d
theorem SR.askRoom(n:Nat):SE P ρ (Go.askRoom n) (Go.askRoom n):=by unfold Go.askRoom;split;exact .noRoom (.pure rfl);exact .ew rfl
def CH(size f n:Nat)(e:ek)(x:cq)(w:cn):∃b,(Builtin.mayShare size f n e x).run P w=.ok b w:=by
 have g:∀(a:Addr) (c:Nat),∃b,(Builtin.holdsCells a c).run P w=.ok b w:=by
  intro a c;unfold Builtin.holdsCells;rw[Sem.run_bind];show∃b,((Result.ok (w.shape? a.block) w).andThen _)=_;rw[Result.andThen_ok];cases w.shape? a.block with
  |none=>exact⟨_,rfl⟩
  |some p=>exact⟨_,rfl⟩
 have tail:∀d:Bool,∃b,(if(!d)=true then Pure.pure true else match x with
  | .slice (some b) _ _=>do Pure.pure (!(<-Builtin.holdsCells b (n*size))||e.any (·.block==b.block))
  |_=>Pure.pure false:Sem Bool).run P w=.ok b w:=by
  intro d;cases d with
  |false=>exact⟨_,rfl⟩
  |true=>
   simp only[Bool.not_true,ik,eF];cases x with
   |slice a l c=>
    cases a with
    |none=>exact⟨_,rfl⟩
    |some b=>
     obtain⟨z,h⟩:=g b (n*size);exact⟨!z||e.any (·.block==b.block),by simp only[Sem.run_bind,h,Result.andThen_ok];rfl⟩
   |_=>exact⟨_,rfl⟩
 unfold Builtin.mayShare;cases e with
 |none=>exact tail true
 |some a=>
  obtain⟨b,i⟩:=g a (f*size);dsimp only;simp only[Sem.run_bind,i,Result.andThen_ok];exact tail (b&&!(w.frozen? (a.add (f/2*size))))
theorem SR.append{S:FuncId->Bool}{ai:Bool}(F:Fit P S ai)(V:Array TypeId)(t:TypeId)(ab:∀u,V[1]? =some u->intType P u=false){xs ac:Array Value}(h:fc ρ xs ac):SV P ρ (Builtin.append_ V t xs) (Builtin.append_ V t ac):=by
 unfold Builtin.append_
 rcases h.get? 0 with⟨e1,_⟩|⟨s,s',e1,e2,hs⟩
 ·rw[e1];cases V[0]? <;>exact .stuck
 rcases h.get? 1 with⟨f1,_⟩|⟨x,W,f1,f2,hx⟩
 ·rw[e1,f1];cases V[0]? <;>exact .stuck
 rw[e1,e2,f1,f2]
 cases V[0]? with
 |none=>exact .stuck
 |some sT=>
  dsimp only
  refine(SR.under sT).dD λN a b Q e=>?_
  obtain⟨rfl,hu⟩:=e
  have aj:=hs.mono Q
  have ak:=hx.mono Q
  cases a with
  |slice g=>
   dsimp only
   have R:∀(H:dm) (size:Nat) (y r:Option Addr) (d k:Nat),dm.Le N H->VR N (.slice y d k) (.slice r d k)->((y=none/\r=none)\/∃p p',y=some p/\r=some p'/\AR N p p')->
    SV P H (do
     let n<-Builtin.lenOf x
     if d+n<=k then
      let D<-Builtin.firstCells size n x
      if let some a:=y then Go.storeCells (a.add (d*size)) D.toList
      Pure.pure (.slice y (d+n) k)
     else
      if((d+n:Nat):Int)>IntKind.i64.max/\(false=true\/(<-typeInfo g).bytes=0)then runtimePanic (.error "growslice: len out of range")
      if Builtin.nextslicecap (d+n) k*(<-typeInfo g).bytes>2^48 then(do
       if !(<-Builtin.mayShare size d n y x)then Go.mark .noRoom
       Go.unsupported (.resourceLimit "append: a slice or a string whose bytes no memory bears"))
      let f<-Go.choose (.appendCap (d+n) k g)
      Go.askRoom (f*(<-typeInfo g).bytes)
      let I<-Builtin.firstCells size d (.slice y d k)
      let D<-Builtin.firstCells size n x
      let B:=Builtin.zeroCells (<-zeroValue g).cells (f-(d+n))
      Pure.pure (.slice (some (<-Go.newRow g (I++D++B))) (d+n) f))
    (do
     let n<-Builtin.lenOf W
     if d+n<=k then
      let D<-Builtin.firstCells size n W
      if let some a:=r then Go.storeCells (a.add (d*size)) D.toList
      Pure.pure (.slice r (d+n) k)
     else
      if((d+n:Nat):Int)>IntKind.i64.max/\(false=true\/(<-typeInfo g).bytes=0)then runtimePanic (.error "growslice: len out of range")
      if Builtin.nextslicecap (d+n) k*(<-typeInfo g).bytes>2^48 then(do
       if !(<-Builtin.mayShare size d n r W)then Go.mark .noRoom
       Go.unsupported (.resourceLimit "append: a slice or a string whose bytes no memory bears"))
      let f<-Go.choose (.appendCap (d+n) k g)
      Go.askRoom (f*(<-typeInfo g).bytes)
      let I<-Builtin.firstCells size d (.slice r d k)
      let D<-Builtin.firstCells size n W
      let B:=Builtin.zeroCells (<-zeroValue g).cells (f-(d+n))
      Pure.pure (.slice (some (<-Go.newRow g (I++D++B))) (d+n) f)):=by
    intro H size y r d k v al hb
    have X:=ak.mono v
    have ad:=al.mono v
    refine(SR.lenOf X).dD λam n m J e=>?_
    subst e
    by_cases K:d+n<=k
    ·rw[if_pos K,if_pos K]
     refine(SR.firstCells size n (X.mono J)).dD λO c c' L hc=>?_
     rcases hb with⟨rfl,rfl⟩|⟨p,p',rfl,rfl,hp⟩
     ·exact .ew (.fF _ _)
     ·have ae:=((hp.mono v).mono J).mono L
      refine SR.dD (SR.storeCells 0 (ae.add (d*size)) hc.list) λC _ _ E _=>?_
      exact .ew (.slice _ _ (ae.mono E))
    ·rw[if_neg K,if_neg K]
     refine(SR.info g).dD λO i j L e=>?_
     obtain⟨rfl,_⟩:=e
     have tail:∀C,dm.Le O C->SV P C
      (do
       let f<-Go.choose (.appendCap (d+n) k g)
       Go.askRoom (f*(<-typeInfo g).bytes)
       let I<-Builtin.firstCells size d (.slice y d k)
       let D<-Builtin.firstCells size n x
       let B:=Builtin.zeroCells (<-zeroValue g).cells (f-(d+n))
       Pure.pure (.slice (some (<-Go.newRow g (I++D++B))) (d+n) f))
      (do
       let f<-Go.choose (.appendCap (d+n) k g)
       Go.askRoom (f*(<-typeInfo g).bytes)
       let I<-Builtin.firstCells size d (.slice r d k)
       let D<-Builtin.firstCells size n W
       let B:=Builtin.zeroCells (<-zeroValue g).cells (f-(d+n))
       Pure.pure (.slice (some (<-Go.newRow g (I++D++B))) (d+n) f)):=by
      intro C E
      refine SR.dD (A:=λ_ a b=>a=b) (.choose λn=>.pure rfl) λY c c' M e=>?_
      subst e
      refine(SR.info g).dD λan i j T e=>?_
      obtain⟨rfl,_⟩:=e
      refine(SR.askRoom _).dD λao _ _ U _=>?_
      have hl:=((((J.trans L).trans E).trans M).trans T).trans U
      refine(SR.firstCells size d (ad.mono hl)).dD λaq o o' af ho=>?_
      refine(SR.firstCells size n ((X.mono hl).mono af)).dD λar w w' ag hw=>?_
      refine(SR.zero F g).dD λau z z' ah hz=>?_
      refine SR.dD (SR.newRow g ((((ho.mono ag).append hw).mono ah).append (CG hz.cells _))) λav q q' _ hq=>?_
      exact .ew (.slice _ _ hq)
     have ap:∀C,dm.Le O C->SV P C
      (do
       if Builtin.nextslicecap (d+n) k*(<-typeInfo g).bytes>2^48 then(do
        if !(<-Builtin.mayShare size d n y x)then Go.mark .noRoom
        Go.unsupported (.resourceLimit "append: a slice or a string whose bytes no memory bears"))
       let f<-Go.choose (.appendCap (d+n) k g)
       Go.askRoom (f*(<-typeInfo g).bytes)
       let I<-Builtin.firstCells size d (.slice y d k)
       let D<-Builtin.firstCells size n x
       let B:=Builtin.zeroCells (<-zeroValue g).cells (f-(d+n))
       Pure.pure (.slice (some (<-Go.newRow g (I++D++B))) (d+n) f))
      (do
       if Builtin.nextslicecap (d+n) k*(<-typeInfo g).bytes>2^48 then(do
        if !(<-Builtin.mayShare size d n r W)then Go.mark .noRoom
        Go.unsupported (.resourceLimit "append: a slice or a string whose bytes no memory bears"))
       let f<-Go.choose (.appendCap (d+n) k g)
       Go.askRoom (f*(<-typeInfo g).bytes)
       let I<-Builtin.firstCells size d (.slice r d k)
       let D<-Builtin.firstCells size n W
       let B:=Builtin.zeroCells (<-zeroValue g).cells (f-(d+n))
       Pure.pure (.slice (some (<-Go.newRow g (I++D++B))) (d+n) f)):=by
      intro C E
      refine(SR.info g).dD λY i j M e=>?_
      obtain⟨rfl,_⟩:=e
      dsimp only
      split
      ·refine .never λw=>?_
       obtain⟨b,hb⟩:=CH (P:=P) size d n y x w
       simp only[Sem.run_bind,hb,Result.andThen_ok]
       cases b<;>exact⟨_,_,rfl,rfl⟩
      ·exact tail _ (E.trans M)
     dsimp only
     split
     ·exact SR.dD (A:=λ_ _ _=>False) (SR.jB _ (.inr (.inl ⟨_,rfl⟩))) λ_ _ _ _ h=>h.elim
     ·exact ap _ (.refl _)
   cases aj with
   |fF l c=>
    refine(SR.size g).dD λZ size b G e=>?_
    obtain⟨rfl,_⟩:=e
    cases h1:V[1]? with
    |none=>exact R _ size none none l c G (.fF _ _) (.inl ⟨rfl,rfl⟩)
    |some u=>
     have hi:=ab u h1
     refine(SR.under u).dD λH a b v e=>?_
     obtain⟨rfl,aa⟩:=e
     simp only[intType,aa]at hi
     cases a<;>first|exact R _ size none none l c (G.trans v) (.fF _ _) (.inl ⟨rfl,rfl⟩)|(simp at hi)
   |slice l c ha=>
    refine(SR.size g).dD λZ size b G e=>?_
    obtain⟨rfl,_⟩:=e
    cases h1:V[1]? with
    |none=>exact R _ size _ _ l c G (.slice _ _ ha) (.inr ⟨_,_,rfl,rfl,ha⟩)
    |some u=>
     have hi:=ab u h1
     refine(SR.under u).dD λH a b v e=>?_
     obtain⟨rfl,aa⟩:=e
     simp only[intType,aa]at hi
     cases a<;>first|exact R _ size _ _ l c (G.trans v) (.slice _ _ ha) (.inr ⟨_,_,rfl,rfl,ha⟩)|(simp at hi)
   |_=>exact .stuck
  |_=>exact .stuck
theorem SR.makeSlice{S:dH->Bool}(F:Fit P S D)(t:cw){C:cq}(N:VR ρ x y)(O:VR ρ z C):SV P ρ (Instr.makeSlice t x z) (Instr.makeSlice t y C):=by
 unfold Instr.makeSlice;refine(SR.under t).dD λE a b d e=>?_;obtain⟨rfl,R⟩:=e;cases a with
 |slice c=>
  dsimp only;refine(SR.asInt (N.mono d)).dD λG n m l e=>?_;subst e;refine(SR.asInt ((O.mono d).mono l)).dD λH k m v e=>?_;subst e;refine(SR.info c).dD λI i j w e=>?_;obtain⟨rfl,_⟩:=e;have tail:∀f,SV P f
   (do
    Go.askRoom ((IntKind.i64.wrap k).toNat*i.bytes);let r:=(IntKind.i64.wrap k).toNat*(<-Go.sizeOf c);let zero<-if r=0 then Pure.pure #[]else do Pure.pure (<-zeroValue c).cells
    let a<-Go.newRow c ((Array.range r).map (zero[·%zero.size]!));Pure.pure (.slice (some a) (IntKind.i64.wrap n).toNat (IntKind.i64.wrap k).toNat))
   (do
    Go.askRoom ((IntKind.i64.wrap k).toNat*i.bytes);let r:=(IntKind.i64.wrap k).toNat*(<-Go.sizeOf c);let zero<-if r=0 then Pure.pure #[]else do Pure.pure (<-zeroValue c).cells
    let a<-Go.newRow c ((Array.range r).map (zero[·%zero.size]!));Pure.pure (.slice (some a) (IntKind.i64.wrap n).toNat (IntKind.i64.wrap k).toNat)):=by
   intro f;refine(SR.askRoom _).dD λJ _ _ _ _=>(SR.size c).dD λo s T _ e=>?_;obtain⟨rfl,_⟩:=e;dsimp only;split;exact SR.dD (A:=λρ a b=>fc ρ a b) (.ew .nil) λg L M _ u=>SR.dD (SR.newRow c (Bf u _)) λp q Q _ K=>.ew (.slice _ _ K);exact(SR.zero F c).dD λg L M _ u=>SR.dD (A:=λρ a b=>fc ρ a b) (.ew u.cells) λg L M _ u=>SR.dD (SR.newRow c (Bf u _)) λp q Q _ K=>.ew (.slice _ _ K)
  try dsimp only
  repeat' split
  all_goals first
   |exact tail _
   |exact SR.dD (A:=λ_ _ _=>False) (SR.jB _ (.inr (.inl ⟨_,rfl⟩))) λ_ _ _ _ h=>h.elim
   |(refine SR.dD (A:=λ_ a b=>a=b) (.choose λn=>.pure rfl) λo z C B e=>?_;subst e;exact SR.dD (A:=λ_ _ _=>False) (SR.jB _ (.inr (.inl ⟨_,rfl⟩))) λ_ _ _ _ h=>h.elim)
 |_=>exact .stuck
inductive se (ρ:dm):Deferred->Deferred->Prop
 |fn {f:dH} {cs rI xs xs':Array cq} (hS:ρ.S f=true) (h1:fc ρ cs rI) (h2:fc ρ xs xs'):se ρ {target:=.fn (.func f) cs,args:=xs} {target:=.fn (.func f) rI,args:=xs'}
 |yield {l l':Nat} {xs xs':Array cq} (h:ρ.r l l') (h2:fc ρ xs xs'):se ρ {target:=.fn (.yield l) #[],args:=xs} {target:=.fn (.yield l') #[],args:=xs'}
 |nil {xs xs':Array cq} (h2:fc ρ xs xs'):se ρ {target:=.nil,args:=xs} {target:=.nil,args:=xs'}
 |collected {l l':Nat} (h:ρ.r l l'):se ρ {target:=.collected l,args:=#[]} {target:=.collected l',args:=#[]}
inductive qD (ρ:dm):Next->Next->Prop
 |value {v v':cq} (h:VR ρ v v'):qD ρ (.value v) (.value v')
 |skip:qD ρ .skip .skip
 |enter {f:dH} {xs xs':Array cq} (hS:ρ.S f=true) (h:fc ρ xs xs'):qD ρ (.enter f xs) (.enter f xs')
 |round {l l':Nat} {f:dH} {xs xs':Array cq} {a b:Code} (hl:ρ.r l l') (hf:ρ.S f=true) (hh:ρ.hole f=false) (hd:ρ.df f=false) (ha:ρ.ok f a=true) (hb:ρ.ok f b=true) (h:fc ρ xs xs'):qD ρ (.round l f xs a b) (.round l' f xs' a b)
 |defer {d d':Deferred} (h:se ρ d d') (hd:ρ.Def):qD ρ (.defer d) (.defer d')
abbrev SN(P:cA)(ρ:dm)(s a:Sem Next):Prop:=SR P qD ρ s a
def SN.v{s a:Sem cq}(h:SV P ρ s a):SN P ρ (do Pure.pure (.value (<-s))) (do Pure.pure (.value (<-a))):=SR.dD h λ_ _ _ _ b=>.ew (.value b)
def SN.u{s a:Sem Unit}(h:SE P ρ s a):SN P ρ (do s;Pure.pure .skip) (do a;Pure.pure .skip):=SR.dD h λ_ _ _ _ _=>.ew .skip
structure Og(P:cA)(ρ:dm):Prop where
 fn:∀f,ρ.S f=true->∃fn' c,ρ.fs[f]? =some fn'/\(fn'.name== "runtime.NumGoroutine")=false/\fn'.body=some c/\(ρ.hole f=false->P.funcs[f]? =some fn')
def Og.mono{ρ b:dm}(h:Og P ρ)(a:dm.Le ρ b):Og P b:=⟨by rw[<-a.s,<-a.f,<-a.h];exact h.fn⟩
theorem SR.callFunc(F:Fit P ρ.S ρ.dim)(T:Og P ρ)(f:dH)(i:ρ.S f=true)(h:fc ρ W X):SN P ρ (Go.callFunc f W) (Go.callFunc f X):=by obtain⟨q,c,k,l,m⟩:=F.fn f i;obtain⟨j,r,n,o,p,_⟩:=T.fn f i;unfold Go.callFunc;refine SR.prog.dD λd a b g e=>?_;obtain⟨rfl,rfl⟩:=e;rw[k,show(a.it d.fs).funcs[f]? =some j from by rw[<-n,<-g.f]];dsimp only;rw[l,m,o,p];exact .ew (.enter (g.s▸i) (h.mono g))
theorem SR.getLoop(h:ρ.r m k):SR P (λρ a b=>Cy ρ a b) ρ (Instr.getLoop m) (Instr.getLoop k):=by
 unfold Instr.getLoop;refine SR.dD (A:=λρ a b=>jM ρ a b/\∀g t i,a≠ .cells g t i) (.getObj h λo j c e=>.pure ⟨c,e⟩) λf o j d c=>?_;obtain⟨c,e⟩:=c;cases c with
 |loop h=>exact .ew h
 |cells _ _=>exact absurd rfl (e _ _ _)
 |_=>exact .stuck
def IR(h:qc ρ M Y):∀(c:List Tmp) {d b:dU},fc ρ d b->
 fc ρ ((c.zip M).foldl (λa (x:Tmp×cq)=>a.setIfInBounds x.1 x.2) d) ((c.zip Y).foldl (λa (x:Tmp×cq)=>a.setIfInBounds x.1 x.2) b):=by
 induction h with
 |nil=>exactλc d b h=>by simpa using h
 |cons h _ f=>
  intro c d b e;cases c with
  |nil=>simpa using e
  |cons p c=>exact f c (e.set p h)
theorem SR.yield(h:ρ.r m k)(d:fc ρ W X):SN P ρ (Instr.yield m W) (Instr.yield k X):=by unfold Instr.yield;refine(SR.getLoop h).dD λc r j b a=>?_;have e:=a.params;have f:=a.fn;have g:=a.assign;have i:=a.body;rw[<-e,<-d.size];split;exact .dead rfl;refine .ew ?_;rw[<-f,<-g,<-i];refine .round (b.r _ _ h) a.fnS a.fnH a.hd a.okA a.okB ?_;have:=IR (d.mono b).list r.params.toList a.tmps;rw[<-KN,<-KN,Array.toList_zip,Array.toList_zip];exact this
theorem SR.enterLoop{fn:FuncId}(VG:ρ.S fn=true)(WF:ρ.hole fn=false){ts UH:Array Value}(ht:fc ρ ts UH)(ps:Array Tmp)(a b:Code)(ha:ρ.ok fn a=true)(hb:ρ.ok fn b=true)(UI:ρ.df fn=false){ar UJ:Option Nat} (WG:(ar=none/\UJ=none)\/∃l l',ar=some l/\UJ=some l'/\ρ.r l l'):
 SR P (λρ (x y:Nat×List Deferred)=>ρ.r x.1 y.1/\((x.2=[]/\y.2=[])\/∃d d',x.2=[d]/\y.2=[d']/\se ρ d d'/\∃b,d.target=.collected b)) ρ (Instr.enterLoop fn ts ps a b ar) (Instr.enterLoop fn UH ps a b UJ):=by
 unfold Instr.enterLoop;have fin:∀nM (d d':Nat) (m m':List Deferred),dm.Le ρ nM->nM.r d d'->((m=[]/\m'=[])\/∃x x',m=[x]/\m'=[x']/\se nM x x'/\∃b,x.target=.collected b)->
  SR P (λρ (x y:Nat×List Deferred)=>ρ.r x.1 y.1/\((x.2=[]/\y.2=[])\/∃d d',x.2=[d]/\y.2=[d']/\se ρ d d'/\∃b,d.target=.collected b)) nM
   (do Pure.pure (<-newObj (.loop {state:=.ready,pending:=none,fn,tmps:=ts,params:=ps,assign:=a,body:=b,defers:=d}),m))
   (do Pure.pure (<-newObj (.loop {state:=.ready,pending:=none,fn,tmps:=UH,params:=ps,assign:=a,body:=b,defers:=d'}),m')):=by
  intro nM d d' m m' hle hd hm;refine SR.dD (A:=λOh a b=>Oh.r a b/\dm.Le nM Oh) (.new (.loop ⟨rfl,rfl,rfl,ht.mono hle,rfl,rfl,rfl,hd,hle.s▸VG,hle.o▸ha,hle.o▸hb,(λ_ e=>by cases e),hle.w▸UI,hle.h▸WF⟩) λn n' hn hm _=>.pure ⟨dm.rH _ _ _ _ _,dm.sP _ _ _ _ _⟩) λxv x y mh CI=>?_;refine .ew ⟨CI.1,?_⟩;rcases hm with⟨rfl,rfl⟩|⟨x,x',rfl,rfl,hx,hb⟩
  ·exact .inl ⟨rfl,rfl⟩
  ·refine .inr ⟨x,x',rfl,rfl,?_,hb⟩;cases hx with
   |fn hS h1 h2=>exact .fn (CI.2.s▸hS) (h1.mono CI.2) (h2.mono CI.2)
   |yield h h2=>exact .yield (CI.2.r _ _ h) (h2.mono CI.2)
   |nil h2=>exact .nil (h2.mono CI.2)
   |collected h=>exact .collected (CI.2.r _ _ h)
 rcases WG with⟨rfl,rfl⟩|⟨l,l',rfl,rfl,hl⟩
 ·dsimp only;refine SR.dD (A:=λOh a b=>Oh.r a b) (.new .tI λn n' hn hm _=>.pure (dm.rH _ _ _ _ _)) λxv x y mh CI=>?_;exact fin xv x y _ _ mh CI (.inr ⟨_,_,rfl,rfl,.collected CI,_,rfl⟩)
 ·dsimp only;refine(SR.getLoop hl).dD λxv x y mh CI=>?_;exact fin xv _ _ _ _ mh CI.defers (.inl ⟨rfl,rfl⟩)
theorem SR.beginRound(h:ρ.r m k):SE P ρ (Instr.beginRound m) (Instr.beginRound k):=by
 unfold Instr.beginRound;refine(SR.getLoop h).dD λc r g d a=>SR.dD (A:=λ_ _ _=>True) (.setObj (d.r _ _ h) (.loop ⟨rfl,a.pending,a.fn,a.tmps,a.params,a.assign,a.body,a.defers,a.fnS,a.okA,a.okB,a.okP,a.hd,a.fnH⟩) (λ_ _ _ e=>by cases e) (.pure trivial)) λf _ _ b _=>?_;rw[<-a.state];cases r.state with
 |ready=>exact .ew rfl
 |_=>exact SR.jB _ (.inr (.inl ⟨_,rfl⟩))
theorem SR.endRound(h:ρ.r m k)(j:Option Code)(l:∀c,j=some c->∀f,ρ.ok f c=true):SV P ρ (Instr.endRound m j) (Instr.endRound k j):=by unfold Instr.endRound;exact(SR.getLoop h).dD λg r n b a=>SR.dD (A:=λ_ _ _=>True) (.setObj (b.r _ _ h) (.loop ⟨rfl,rfl,a.fn,a.tmps,a.params,a.assign,a.body,a.defers,a.fnS,a.okA,a.okB,b.o▸l,a.hd,a.fnH⟩) (λ_ _ _ e=>by cases e) (.pure trivial)) λi _ _ d _=>.ew (.bool _)
theorem SR.endLoop(h:ρ.r m k):SR P (λρ a b=>a=b/\∀c,a=some c->∀f,ρ.ok f c=true) ρ (Instr.endLoop m) (Instr.endLoop k):=by
 unfold Instr.endLoop;refine(SR.getLoop h).dD λg r q j d=>?_;have s:=d.state;have l:SR P (λρ a b=>a=b/\∀c,a=some c->∀f,ρ.ok f c=true) g (do Go.setObj m (.loop {r with state:=.exhausted});Pure.pure r.pending) (do Go.setObj k (.loop {q with state:=.exhausted});Pure.pure q.pending):=by exact SR.dD (A:=λn _ _=>dm.Le g n) (.setObj (j.r _ _ h) (.loop ⟨rfl,d.pending,d.fn,d.tmps,d.params,d.assign,d.body,d.defers,d.fnS,d.okA,d.okB,d.okP,d.hd,d.fnH⟩) (λ_ _ _ e=>by cases e) (.pure (.refl _))) λp _ _ i t=>.ew ⟨d.pending,λc e=>t.o▸d.okP c e⟩
 rw[<-s];split;exact SR.dD (A:=λ_ _ _=>False) (SR.jB _ (.inr (.inl ⟨_,rfl⟩))) λ_ _ _ _ h=>h.elim;exact l
theorem SR.takeDeferred(h:ρ.r m k):SR P (λ_ a b=>a=[]/\b=[]) ρ (Instr.takeDeferred m) (Instr.takeDeferred k):=by
 unfold Instr.takeDeferred;refine SR.dD (A:=λρ a b=>jM ρ a b/\∀i t j,a≠ .cells i t j) (.getObj h λo l f g=>.pure ⟨f,g⟩) λd o l c f=>?_;obtain⟨f,g⟩:=f;cases f with
 |tI=>
  dsimp only;exact SR.dD (A:=λ_ _ _=>True) (.setObj (c.r _ _ h) .taken (λ_ _ _ e=>by cases e) (.pure trivial)) λd _ _ c _=>.ew ⟨rfl,rfl⟩
 |cells _ _=>exact absurd rfl (g _ _ _)
 |_=>exact .stuck
theorem SR.ofValue(h:VR ρ x y){xs xs':dU}(a:fc ρ xs xs'):SR P se ρ (Deferred.ofValue x xs) (Deferred.ofValue y xs'):=by
 unfold Deferred.ofValue;cases h with
 |func b c d e f=>exact .ew (.fn b ⟨e,f⟩ (fc.append ⟨c,d⟩ a))
 |yield h=>exact .ew (by simpa using se.yield h a)
 |nilFunc=>exact .ew (.nil a)
 |_=>exact .stuck
theorem SR.invoke(F:Fit P ρ.S ρ.dim)(T:Og P ρ){d b:Deferred}(h:se ρ d b):SN P ρ (Go.invoke d.target d.args) (Go.invoke b.target b.args):=by
 unfold Go.invoke;cases h with
 |fn c e a=>exact SR.callFunc F T _ c (a.append e)
 |yield h a=>exact SR.yield h a
 |nil a=>exact SR.jB _ (.inr (.inr (.inr rfl)))
 |collected h=>exact .stuck
def CJ{c a:dw->cq}{b:Array dw}(h:∀x,jq ρ.S x=true->VR ρ (c x) (a x))(d:∀x∈b,jq ρ.S x=true):fc ρ (b.map c) (b.map a):=
 fc.map _ _ _ λx e=>h x (d x e)
def SR.exec(F:Fit P ρ.S ρ.dim)(T:Og P ρ){ev ev':dw->cq}(h:∀x,jq ρ.S x=true->VR ρ (ev x) (ev' x))(I:D=true->ρ.Def)(J:∀v,ev (.const v)=v/\ev' (.const v)=v)(o:Oper)(O:ot P ρ.S ρ.dim D o=true)(V:∀t m k x,o.op≠ .mapUpdate t m k x):SN P ρ (execOp ev o) (execOp ev' o):=by
 simp only[ot,dW,uM]at O;obtain⟨g,j⟩:=O;unfold execOp;cases Q:o.op<;>simp only[Q,CC,Op.operands]at g j;case move x=>exact .ew (.value (h x (g x (by simp))))
 case assign x=>exact .ew (.value (h x (g x (by simp))))
 case pick c a b=>
  refine(SR.asBool (h c (g c (by simp)))).dD λE x y p e=>?_;subst e;refine .ew (.value ?_);split;exact(h a (g a (by simp))).mono p;exact(h b (g b (by simp))).mono p
 case alloc t=>exact SN.v (SR.alloc F t _)
 case box t x=>exact SN.v (SR.box t (h x (g x (by simp))))
 case build t L=>
  refine SN.v (SR.build F t ?_);have:=uP (ρ:=ρ) (ev:=ev) (ev':=ev') (l:=L.toList) λx w=>h _ (g _ (by simp;exact⟨x.1,by simpa using w⟩));simpa using this
 case buildSlice t n L=>
  refine SN.v (SR.buildSlice F t n ?_);have:=uP (ρ:=ρ) (ev:=ev) (ev':=ev') (l:=L.toList) λx w=>h _ (g _ (by simp;exact⟨x.1,by simpa using w⟩));simpa using this
 case load t a=>exact SN.v (SR.loadAt t (h a (g a (by simp))))
 case store t a x=>exact SN.u (SR.storeAt t (h a (g a (by simp))) (h x (g x (by simp))))
 case nilCheck x=>
  have w:=h x (g x (by simp));dsimp only;revert w;generalize ev x=v;generalize ev' x=v';intro w;cases w<;>first
   |exact SR.jB _ (.inr (.inr (.inr rfl)))
   |exact .ew (.value (by first|exact .bool _|exact .int _ _|exact .string _|exact .ptr ‹_›|exact .fF _ _|exact .slice _ _ ‹_›|exact .qA|exact .map ‹_›|exact .po|exact .chan ‹_›|exact .func ‹_› ‹_› ‹_› ‹_› ‹_›|exact .yield ‹_›|exact .iface _ ‹_›|exact .agg ‹_› ‹_›|exact .tuple ‹_› ‹_›|exact .Bd ‹_› _))
 case binOp H t x y yt=>
  refine SN.v ?_;have w:=h x (g x (by simp));have K:=h y (g y (by simp));have R:(H=.eql\/H=.neq)->eW P 5 t=true:=by rintro(rfl|rfl)<;>simpa using j
  exact(SR.eqGuard F H t (λ_ _=>trivial) R x y w K).dD λE _ _ p _=>SR.binOp (dim:=ρ.dim) F H t R (w.mono p) (K.mono p)
 case unOp H t x=>exact SN.v (SR.unary H (h x (g x (by simp))))
 case convert s d x=>
  simp only[dW]at j;exact SN.v (SR.conv s d j.1 j.2 (h x (g x (by simp))))
 case makeFunc W fs cs=>
  cases W with
  |func f=>exact SN.v (.ew (.func j (by simp) (CJ h λx w=>g x (by simp[w])).at_ (by simp) (CJ h λx w=>g x (by simp[w])).at_))
  |_=>simp at j
 case makeMap t r=>
  refine SN.v (SR.makeMap t ?_);cases r with
  |none=>exact .none
  |some x=>exact .some (h x (g x (by simp)))
 case makeSlice t l c=>exact SN.v (SR.makeSlice F t (h l (g l (by simp))) (h c (g c (by simp))))
 case slice t x X Y Z=>
  have G:∀(y:Option dw),(∀z,y=some z->jq ρ.S z=true)->qC ρ (y.map ev) (y.map ev'):=by
   intro y K;cases y with
   |none=>exact .none
   |some z=>exact .some (h z (K z rfl))
  exact SN.v (SR.sliceAt t (h x (g x (by simp))) (G X λz e=>g z (by simp[e])) (G Y λz e=>g z (by simp[e])) (G Z λz e=>g z (by simp[e])))
 case fieldAddr s x i=>exact SN.v (SR.fieldAt s i (by simpa[CC]using j) (h x (g x (by simp))))
 case field s x i=>exact SN.v (SR.field s (h x (g x (by simp))) i)
 case indexAddr t x i=>exact SN.v (SR.indexAt t (h x (g x (by simp))) (h i (g i (by simp))))
 case index t x i=>exact SN.v (SR.index t (h x (g x (by simp))) (h i (g i (by simp))))
 case lookup t m k ok=>
  refine SN.v (SR.lookup F t (λkt e M=>?_) ok (h m (g m (by simp))) (h k (g k (by simp))));simp only[M,dW]at j;exact j.2
 case mapUpdate t m k x=>exact absurd Q (V t m k x)
 case extract x i=>exact SN.v (SR.extract (h x (g x (by simp))) i)
 case call c=>
  obtain⟨A,B,C⟩:=c;cases A with
  |value f=>
   unfold resolve;dsimp only;exact SR.dD (SR.ofValue (h f (g f (by simp[Call.operands]))) (CJ h λx w=>g x (by simp[Call.operands,w]))) λE d d' p N=>SR.invoke (p.s▸p.d▸F) (T.mono p) N
  |builtin b=>
   unfold resolve;have q:fc ρ (B.map ev) (B.map ev'):=CJ h λx w=>g x (by simp[Call.operands,w]);simp only[dW]at j;obtain⟨h1,U⟩:=j;dsimp only;show SN P ρ (Go.builtin b C o.type _ (B.map ev)) (Go.builtin b C o.type _ (B.map ev'));cases b<;>first
    |(simp[Ae]at h1;done)
    |exact SN.v (SR.len C o.type q)
    |exact SN.v (SR.cap C o.type q)
    |exact SN.v (SR.max C o.type q)
    |exact SN.v (SR.min C o.type q)
    |(refine SN.v (SR.append F C o.type (λu M=>?_) q);simp only[M,tE]at U;exact U)
  |invoke r n=>simp at j
 case defer c=>
  obtain⟨A,B,C⟩:=c;cases A with
  |value f=>
   unfold resolve;dsimp only;exact SR.dD (SR.ofValue (h f (g f (by simp[Call.operands]))) (CJ h λx w=>g x (by simp[Call.operands,w]))) λE d d' p N=>.ew (.defer N ((I j).mono p))
  |_=>simp at j
 case panic x=>
  split at j;rename_i t k n;refine SN.v (?_:SV P ρ (Instr.panic (ev (.const (.iface t (.int k n))))) (Instr.panic (ev' (.const (.iface t (.int k n))))));rw[(J _).1,(J _).2];exact SR.goPanic (.iface _ (.int _ _)) (.inl (I j));cases j
 all_goals simp at j
theorem SX.exec(F:Fit P ρ.S ρ.dim)(T:Og P ρ){f c:dw->cq}(b:∀x,jq ρ.S x=true->VR ρ (f x) (c x))(g:D=true->ρ.Def)(h:∀v,f (.const v)=v/\c (.const v)=v)(o:Oper)(i:ot P ρ.S ρ.dim D o=true):SX P qD ρ (execOp f o) (execOp c o):=by by_cases j:∃t m k x,o.op=.mapUpdate t m k x;obtain⟨t,m,k,x,l⟩:=j;simp only[ot,dW,uM]at i;obtain⟨a,d⟩:=i;unfold execOp;simp only[l,CC,Op.operands]at a d⊢;refine SX.map (SX.mapUpdate F t (λp e n=>?_) (b m (a m (by simp))) (b k (a k (by simp))) (b x (a x (by simp)))) λ_ _ _ _=>.skip;simp only[n,dW]at d;exact d.2;exact .of (SR.exec F T b g h o i λt m k x e=>j ⟨t,m,k,x,e⟩)
end
end Go.cP
variable{F:Go.Frame}{K:dH}
namespace Go.cP
section
variable{P:cA}
structure Good(P:cA)(ρ:dm):Prop where
 fit:Fit P ρ.S ρ.dim
 ok:ρ.ok=λf=>gD P ρ.S ρ.dim (ρ.df f)
 code:∀f,ρ.S f=true->ρ.hole f=false->∃fn c,P.funcs[f]? =some fn/\fn.body=some c/\gD P ρ.S ρ.dim (ρ.df f) c=true
 two:Og P ρ
 dh:ρ.Def->∀f,ρ.hole f=false
theorem Good.mono{b:dm}(h:Good P R)(a:dm.Le R b):Good P b:=⟨a.s▸a.d▸h.fit,by rw[<-a.o,<-a.s,<-a.d,<-a.w];exact h.ok,by rw[<-a.s,<-a.d,<-a.w,<-a.h];exact h.code,h.two.mono a,λ⟨f,c⟩ g=>by rw[<-a.h];exact h.dh ⟨f,by rw[a.w];exact c⟩ g⟩
inductive qd (P:cA) (ρ:dm) (f:dH):Item->Item->Prop
 |code {c:Code} (h:ρ.ok f c=true):qd P ρ f (.code c) (.code c)
 |inBlock (id:Nat):qd P ρ f (.inBlock id) (.inBlock id)
 |inLoop {c:Code} (h:ρ.ok f c=true):qd P ρ f (.inLoop c) (.inLoop c)
 |inScope {c:Code} (h:ρ.ok f c=true):qd P ρ f (.inScope c) (.inScope c)
 |inRegion {ops:Array Oper} (todo:List Nat) (h:∀(i:Nat) o,ops[i]? =some o->ot P ρ.S ρ.dim (ρ.df f) o=true):qd P ρ f (.inRegion ops todo) (.inRegion ops todo)
 |inRangeFunc {l l':Nat} (h:ρ.r l l'):qd P ρ f (.inRangeFunc l) (.inRangeFunc l')
 |endRangeFunc {l l':Nat} (h:ρ.r l l'):qd P ρ f (.endRangeFunc l) (.endRangeFunc l')
 |beginRound:qd P ρ f .beginRound .beginRound
inductive jO (P:cA) (ρ:dm) (f:dH):List Item->List Item->Prop
 |nil:jO P ρ f [] []
 |cons {x x':Item} {l l':List Item} (h:qd P ρ f x x') (t:jO P ρ f l l'):jO P ρ f (x::l) (x'::l')
inductive tK (ρ:dm):List Deferred->List Deferred->Prop
 |nil:tK ρ [] []
 |cons {x x':Deferred} {l l':List Deferred} (h:se ρ x x') (hq:ρ.Def\/∃b,x.target=.collected b) (t:tK ρ l l'):tK ρ (x::l) (x'::l')
structure UK(ρ:dm)(a b:PanicEntry):Prop where
 v:VR ρ a.v b.v
 rcv:a.recovered=b.recovered
 ge:a.goexit=b.goexit
 ok:sv ρ a.v
inductive kS (ρ:dm):List PanicEntry->List PanicEntry->Prop
 |nil:kS ρ [] []
 |cons {x x':PanicEntry} {l l':List PanicEntry} (h:UK ρ x x') (t:kS ρ l l'):kS ρ (x::l) (x'::l')
inductive vJ (ρ:dm):FrameMode->FrameMode->Prop
 |run:vJ ρ .run .run
 |returning:vJ ρ .returning .returning
 |panicking {c c':List PanicEntry} (h:kS ρ c c'):vJ ρ (.panicking c) (.panicking c')
structure dQ(P:cA)(ρ:dm)(fr uR:Frame):Prop where
 fn:fr.fn=uR.fn
 fnS:ρ.S fr.fn=true/\ρ.hole fr.fn=false
 tmps:fc ρ fr.tmps uR.tmps
 todo:jO P ρ fr.fn fr.todo uR.todo
 defers:tK ρ fr.defers uR.defers
 mode:vJ ρ fr.mode uR.mode
 kind:fr.kind=uR.kind
 round:(fr.roundOf=none/\uR.roundOf=none)\/∃l l',fr.roundOf=some l/\uR.roundOf=some l'/\ρ.r l l'/\ρ.df fr.fn=false
inductive ie (P:cA) (ρ:dm):List Frame->List Frame->Prop
 |nil:ie P ρ [] []
 |cons {x x':Frame} {l l':List Frame} (h:dQ P ρ x x') (t:ie P ρ l l'):ie P ρ (x::l) (x'::l')
def qd.mono{b:dm}(a:dm.Le R b){x e:Item}(h:qd P R K x e):qd P b K x e:=by
 cases h with
 |code h=>exact .code (a.o▸h)
 |inBlock f=>exact .inBlock f
 |inLoop h=>exact .inLoop (a.o▸h)
 |inScope h=>exact .inScope (a.o▸h)
 |inRegion c h=>exact .inRegion c (by rw[<-a.s,<-a.d,<-a.w];exact h)
 |inRangeFunc h=>exact .inRangeFunc (a.r _ _ h)
 |endRangeFunc h=>exact .endRangeFunc (a.r _ _ h)
 |beginRound=>exact .beginRound
theorem jO.mono{a:dm}(b:dm.Le R a){x c:List Item}(h:jO P R K x c):jO P a K x c:=by
 induction h with
 |nil=>exact .nil
 |cons h _ d=>exact .cons (h.mono b) d
theorem se.mono{b:dm}(a:dm.Le R b){x d:Deferred}(h:se R x d):se b x d:=by
 cases h with
 |fn e f c=>exact .fn (a.s▸e) (f.mono a) (c.mono a)
 |yield h c=>exact .yield (a.r _ _ h) (c.mono a)
 |nil c=>exact .nil (c.mono a)
 |collected h=>exact .collected (a.r _ _ h)
theorem tK.mono{a:dm}(b:dm.Le R a){x c:List Deferred}(h:tK R x c):tK a x c:=by
 induction h with
 |nil=>exact .nil
 |cons h d _ e=>exact .cons (h.mono b) (d.imp (.mono b) id) e
theorem kS.mono{a:dm}(b:dm.Le R a){x c:List PanicEntry}(h:kS R x c):kS a x c:=by
 induction h with
 |nil=>exact .nil
 |cons h _ d=>exact .cons ⟨h.v.mono b,h.rcv,h.ge,h.ok.mono b⟩ d
theorem vJ.mono{a:dm}(b:dm.Le R a){x c:FrameMode}(h:vJ R x c):vJ a x c:=by
 cases h with
 |run=>exact .run
 |returning=>exact .returning
 |panicking h=>exact .panicking (h.mono b)
theorem dQ.mono{f:dm}(e:dm.Le R f){g:Frame}(h:dQ P R F g):dQ P f F g:=
 ⟨h.fn,⟨e.s▸h.fnS.1,e.h▸h.fnS.2⟩,h.tmps.mono e,h.todo.mono e,h.defers.mono e,h.mode.mono e,h.kind,h.round.imp id λ⟨l,i,a,b,c,d⟩=>⟨l,i,a,b,e.r _ _ c,e.w▸d⟩⟩
theorem ie.mono{a:dm}(b:dm.Le R a){x c:List Frame}(h:ie P R x c):ie P a x c:=by
 induction h with
 |nil=>exact .nil
 |cons h _ d=>exact .cons (h.mono b) d
def kS.append{a c b d:List PanicEntry}(h:kS R a c)(k:kS R b d):kS R (a++b) (c++d):=by
 induction h with
 |nil=>exact k
 |cons h _ e=>exact .cons h e
def tK.append{a c b d:List Deferred}(h:tK R a c)(k:tK R b d):tK R (a++b) (c++d):=by
 induction h with
 |nil=>exact k
 |cons h e _ f=>exact .cons h e f
theorem jO.exitTo(a:Nat){k b:List Item}(h:jO P R K k b):(exitTo a k=none/\exitTo a b=none)\/∃j c,exitTo a k=some j/\exitTo a b=some c/\jO P R K j c:=by
 induction h with
 |nil=>exact .inl ⟨rfl,rfl⟩
 |cons h t d=>
  cases h with
  |inBlock e=>
   simp only[Go.exitTo];split;exact .inr ⟨_,_,rfl,rfl,t⟩;exact d
  |_=>exact d
theorem pr{S:dH->Bool}:∀{c:Code} {l:Nat} {r:Code},gD P S D E c=true->findLabel c l=some r->gD P S D E r=true
 | .seq a b,l,r,h,e=>by simp only[gD,dW]at h;simp only[findLabel]at e;split at e;rename_i d f;cases e;simp only[gD,dW];exact⟨pr h.1 f,h.2⟩;exact pr h.2 e
 | .label g,l,r,h,e=>by simp only[findLabel]at e;split at e;cases e;rfl;cases e
 | .skip,_,_,_,e=>by simp[findLabel]at e
 | .region _ _ _,_,_,_,e=>by simp[findLabel]at e
 | .cond _ _ _,_,_,_,e=>by simp[findLabel]at e
 | .block _ _,_,_,_,e=>by simp[findLabel]at e
 | .loop _,_,_,_,e=>by simp[findLabel]at e
 | .rangeFunc _ _ _ _,_,_,_,e=>by simp[findLabel]at e
 | .exit _,_,_,_,e=>by simp[findLabel]at e
 | .scope _,_,_,_,e=>by simp[findLabel]at e
 | .goto _,_,_,_,e=>by simp[findLabel]at e
 | .ret,_,_,_,e=>by simp[findLabel]at e
 | .refuse _,_,_,_,e=>by simp[findLabel]at e
theorem jO.gotoIn(f:Good P R)(l:Nat){k a:List Item}(h:jO P R K k a):(gotoIn l k=none/\gotoIn l a=none)\/∃j d,gotoIn l k=some j/\gotoIn l a=some d/\jO P R K j d:=by
 induction h with
 |nil=>exact .inl ⟨rfl,rfl⟩
 |cons h t e=>
  cases h with
  | @inScope c b=>
   simp only[Go.gotoIn];cases g:findLabel c l with
   |none=>exact e
   |some r=>exact .inr ⟨_,_,rfl,rfl,.cons (.code (by rw[f.ok]at b⊢;exact pr b g)) (.cons (.inScope b) t)⟩
  |_=>exact e
theorem dQ.eval{a:Frame}(h:dQ P R F a)(x:dw)(b:jq R.S x=true):VR R (F.eval x) (a.eval x):=by
 cases x with
 |tmp t=>exact h.tmps.getD .undef t
 |const v=>exact oP b
 |global g=>simp[jq]at b
 |func f=>exact .func b rfl (λi v c h=>by simp at h) rfl (λi v c h=>by simp at h)
theorem dQ.finish{l:Frame}(h:dQ P R F l)(B:VR R x y):dQ P R (F.finish x) (l.finish y):=by
 obtain⟨I,u,v,o,w,kind,J⟩:=F;obtain⟨C,p,q,m,r,s,D⟩:=l;obtain⟨b,c,a,z,e,f,g,j⟩:=h;simp only at b c a z e f g j;cases z with
 |nil=>exact⟨b,c,a,.nil,e,f,g,j⟩
 |cons E k=>
  cases E with
  | @inRegion t G n=>
   cases G with
   |nil=>exact⟨b,c,a,.cons (.inRegion _ n) k,e,f,g,j⟩
   |cons i A=>
    refine⟨b,c,?_,.cons (.inRegion _ n) k,e,f,g,j⟩;simp only[Frame.finish];cases(t[i]?).bind (·.dst)with
    |none=>exact a
    |some d=>exact a.set d B
  |inRangeFunc h=>exact⟨b,c,a,.cons (.endRangeFunc h) k,e,f,g,j⟩
  |beginRound=>exact⟨b,c,a,k,e,f,g,j⟩
  |code h=>exact⟨b,c,a,.cons (.code h) k,e,f,g,j⟩
  |inBlock H=>exact⟨b,c,a,.cons (.inBlock H) k,e,f,g,j⟩
  |inLoop h=>exact⟨b,c,a,.cons (.inLoop h) k,e,f,g,j⟩
  |inScope h=>exact⟨b,c,a,.cons (.inScope h) k,e,f,g,j⟩
  |endRangeFunc h=>exact⟨b,c,a,.cons (.endRangeFunc h) k,e,f,g,j⟩
theorem dQ.raise{a:Frame}(h:dQ P R F a){c c':List PanicEntry}(m:kS R c c'):dQ P R (F.raise c) (a.raise c'):=by
 obtain⟨x,r,s,d,t,kind,y⟩:=F;obtain⟨v,n,o,b,p,q,w⟩:=a;obtain⟨e,f,g,i,j,u,k,l⟩:=h;simp only at e f g i j u k l;cases u with
 |run=>exact⟨e,f,g,i,j,.panicking m,k,l⟩
 |returning=>exact⟨e,f,g,i,j,.panicking m,k,l⟩
 |panicking h=>exact⟨e,f,g,i,j,.panicking (m.append h),k,l⟩
def dQ.xw{a:Frame}(h:dQ P R F a){k b:List Item}(c:jO P R F.fn k b):dQ P R {F with todo:=k} {a with todo:=b}:=
 ⟨h.fn,h.fnS,h.tmps,c,h.defers,h.mode,h.kind,h.round⟩
def dQ.CK{a:Frame}(h:dQ P R F a){k b:FrameMode}(c:vJ R k b):dQ P R {F with mode:=k} {a with mode:=b}:=
 ⟨h.fn,h.fnS,h.tmps,h.todo,h.defers,c,h.kind,h.round⟩
def dQ.nf{a:Frame}(h:dQ P R F a){k b:List Deferred}(c:tK R k b):dQ P R {F with defers:=k} {a with defers:=b}:=
 ⟨h.fn,h.fnS,h.tmps,h.todo,c,h.mode,h.kind,h.round⟩
def Oi(a:Good P R)(b:R.S K=true)(d:R.hole K=false)(h:fc R W X)(k:CallKind):dQ P R (Frame.enter P K W k) (Frame.enter (P.it R.fs) K X k):=by
 obtain⟨n,c,f,g,i⟩:=a.code K b d;obtain⟨j,o,l,_,_,m⟩:=a.two.fn K b;have e:(P.it R.fs).funcs[K]? =P.funcs[K]? :=by rw[m d];exact l
 refine⟨rfl,⟨b,d⟩,?_,?_,.nil,.run,rfl,.inl ⟨rfl,rfl⟩⟩;simp only[Frame.enter];rw[<-h.size,e];exact h.append (fc.replicate _ .undef);simp only[Frame.enter];rw[e];simp only[f,sN,g,jI];exact .cons (.code (by rw[a.ok];exact i)) .nil
def floor:Frame:={(default:Frame)with fn:=0,tmps:=#[],todo:=[.code (.refuse "floor")],defers:=[{target:=.nil,args:=#[]}],mode:=.run,kind:=.normal}
inductive FL (P:cA) (ρ:dm):Frame->Frame->Prop
 |fr {fr uR:Frame} (h:dQ P ρ fr uR):FL P ρ fr uR
 |hole {f:dH} (hS:ρ.S f=true) (hh:ρ.hole f=true) {xs xs':Array cq} (h:fc ρ xs xs'):FL P ρ (Frame.enter P f xs .normal) (Frame.enter (P.it ρ.fs) f xs' .normal)
def rJ(d:Good P R)(c:R.S K=true)(h:fc R W X)(k:CallKind)(b:k=.normal\/R.hole K=false):FL P R (Frame.enter P K W k) (Frame.enter (P.it R.fs) K X k):=by
 cases a:R.hole K with
 |true=>
  rcases b with rfl|b;exact .hole c a h;rw[b]at a;cases a
 |false=>exact .fr (Oi d c a h k)
structure qe(P:cA)(ρ:dm)(cs:List Frame)(g g':cx):Prop where
 fr:FL P ρ g.frame g'.frame
 callers:∃X X',g.callers=X++[floor]/\g'.callers=X'++cs/\ie P ρ X X'
 st:g.status=.running/\g'.status=.running
 dy:g.dying=none/\g'.dying=none
 of:g.offers=none/\g'.offers=none
def xx(g:cx):Prop:=g.status=.running/\g.dying=none/\g.offers=none/\g.callers=[]/\(g.frame=floor\/∃c,g.frame=floor.raise c)
def dB(P:cA)(f:dm)(v u:cn)(g:List Frame)(s h:GStep):Prop:=
 match s with
 | .go d i _=>xx d\/∃a b e c,h=.go b e c/\Be f a v u i e c/\qe P a g d b
 | .ended _ _ _=>True
 |_=>False
def j9{b:Array Event}{e:Event}(h:e∈seen P K b):e∈b:=by
 unfold seen at h;dsimp only at h;rw[<-KN]at h
 have c:∀(l:List Event) (x:Bool×Array Event),e∈(l.foldl (λ(x:Bool×Array Event) e=>match e.loc with| .mark (.extern f)=>((P.funcs[f]?).any (·.norace),x.2)|_=>(x.1,if(x.1&&!e.sync)=true then x.2 else x.2.push e)) x).2->e∈x.2\/e∈l:=by
  intro l;induction l with
  |nil=>exactλx h=>.inl h
  |cons a l d=>
   intro x h;simp only[qa]at h;rcases d _ h with h|h;split at h;exact .inl h;simp only at h;split at h;exact .inl h;rcases Array.mem_push.1 h with h|h;exact .inl h;exact .inr (by simp[h]);exact .inr (by simp[h])
 rcases c b.toList (_,#[]) h with h|h;simp at h;simpa using h
def eT.sub{a:dm}{d:cn}{f b:Array Event}(m:eT R a w t e d f)(h:∀c∈b,c∈f):eT R a w t e d b:=
 ⟨m.le,m.rel,m.vsize,m.usize,m.fresh,m.same,m.tC,m.warm,m.rows,m.tape,m.os,m.output,m.vtape,λc g=>m.evs c (h c g)⟩
end
end Go.cP
variable{Z:cx}
namespace Go.cP
section
variable{P:cA}{ρ:dm}{v u:cn}{cs:List Frame}
theorem ie.length{X a:List Frame}(h:ie P ρ X a):X.length=a.length:=by
 induction h with
 |nil=>rfl
 |cons _ _ b=>simp[b]
def dB.still(w:WR ρ v u){a:cx}(h:qe P ρ cs Z a){b:Array Event}:dB P ρ v u cs (.go Z v b) (.go a u):=
 .inr ⟨ρ,a,u,#[],rfl,(eT.refl w).hr,h⟩
def dB.xy{b:cn}(w:WR ρ {b with drawn:=d} u){a:cx}(h:qe P ρ cs Z a){es:Array Event}:dB P ρ {b with drawn:=d} u cs (.go Z b es) (.go a u):=
 .inr ⟨ρ,a,u,#[],rfl,⟨d,eT.refl w⟩,h⟩
def dB.SZ{t y:Type}{A:dm->t->y->Prop}{s:Sem t}{n:Sem y}(w:WR ρ v u)(h:SX P A ρ s n):(∃m e j,s.runT P v #[]=(.halt m e,j)/\m.dead=true)\/(∃a b e g c j f d,s.runT P v #[]=(.ok a e,j)/\n.runT (P.it ρ.fs) u #[]=(.ok b g,f)/\A c a b/\eT ρ c v u {e with drawn:=d} g f)\/
 (∃a b e g c j f,s.runT P v #[]=(.halt (.panic a) e,j)/\n.runT (P.it ρ.fs) u #[]=(.halt (.panic b) g,f)/\(VR c a b/\sv c a)/\eT ρ c v u e g f):=by
 have k:=h.run w #[] #[];unfold CB at k;generalize s.runT P v #[]=r at k⊢;obtain⟨r,l⟩:=r;cases r with
 |ok a e=>
  obtain⟨b,g,c,i,o,p,d,q⟩:=k;exact .inr (.inl ⟨a,b,e,g,c,l,i,d,rfl,by simpa using o,p,q⟩)
 |halt m e=>
  cases m with
  |panic x=>
   obtain⟨b,g,c,i,o,p,q⟩:=k;exact .inr (.inr ⟨x,b,e,g,c,l,i,rfl,by simpa using o,p,q⟩)
  |_=>exact .inl ⟨_,_,_,rfl,k⟩
theorem dB.run{q t:Type}{A:dm->q->t->Prop}{s:Sem q}{m:Sem t}(w:WR ρ v u)(h:SR P A ρ s m):(∃l d i,s.runT P v #[]=(.halt l d,i)/\l.dead=true)\/(∃a b d f c i e,s.runT P v #[]=(.ok a d,i)/\m.runT (P.it ρ.fs) u #[]=(.ok b f,e)/\A c a b/\eT ρ c v u d f e)\/(∃a b d f c i e,s.runT P v #[]=(.halt (.panic a) d,i)/\m.runT (P.it ρ.fs) u #[]=(.halt (.panic b) f,e)/\(VR c a b/\sv c a)/\eT ρ c v u d f e):=by
 have j:=h.run w #[] #[];unfold j8 at j;generalize s.runT P v #[]=r at j⊢;obtain⟨r,k⟩:=r;cases r with
 |ok a d=>
  obtain⟨b,f,c,g,n,o,p⟩:=j;exact .inr (.inl ⟨a,b,d,f,c,k,g,rfl,by simpa using n,o,p⟩)
 |halt l d=>
  cases l with
  |panic x=>
   obtain⟨b,f,c,g,n,o,p⟩:=j;exact .inr (.inr ⟨x,b,d,f,c,k,g,rfl,by simpa using n,o,p⟩)
  |_=>exact .inl ⟨_,_,_,rfl,j⟩
theorem dB.after{b:dm}{l n:cn}{s p:GStep}{g a c:Array Event}(w:WR ρ v u)(m:eT ρ b v u l n c)(f:∀e∈a,e∈c)(q:dB P b l n cs s p):dB P ρ v u cs (GStep.after g s) (GStep.after a p):=by
 cases s with
 |go z A r=>
  rcases q with t|⟨h,i,x,j,rfl,k,y⟩;exact .inl t;obtain⟨d,k⟩:=k;exact .inr ⟨h,i,x,a++j,rfl,⟨d,(m.sub f).trans w k⟩,y⟩
 |ended o B r=>trivial
 |_=>exact q.elim
def jO.kind{k a:List Item}(h:jO P ρ K k a):(match k with| .call _ true _ _::_=>CallKind.wrapped|_=>.normal)=.normal/\(match a with| .call _ true _ _::_=>CallKind.wrapped|_=>.normal)=.normal:=by
 cases h with
 |nil=>exact⟨rfl,rfl⟩
 |cons h _=>cases h<;>exact⟨rfl,rfl⟩
def qe.mk'{b a:Frame}{X X':List Frame}(h:dQ P ρ b a)(c:ie P ρ X X'):qe P ρ cs {frame:=b,callers:=X++[floor],status:=.running,dying:=none} {frame:=a,callers:=X'++cs,status:=.running,dying:=none}:=
 ⟨.fr h,⟨X,X',rfl,rfl,c⟩,⟨rfl,rfl⟩,⟨rfl,rfl⟩,⟨rfl,rfl⟩⟩
def qe.top{b a:Frame}{X X':List Frame}(h:FL P ρ b a)(c:ie P ρ X X'):qe P ρ cs {frame:=b,callers:=X++[floor],status:=.running,dying:=none} {frame:=a,callers:=X'++cs,status:=.running,dying:=none}:=
 ⟨h,⟨X,X',rfl,rfl,c⟩,⟨rfl,rfl⟩,⟨rfl,rfl⟩,⟨rfl,rfl⟩⟩
def Hz{a b:Code}(d:ρ.r m k)(e:ρ.S K=true)(f:ρ.hole K=false)(g:ρ.df K=false)(i:ρ.ok K a=true)(j:ρ.ok K b=true)(h:fc ρ W X)(c:CallKind):dQ P ρ (Frame.round m K W a b c) (Frame.round k K X a b c):=
 ⟨rfl,⟨e,f⟩,h,.cons (.code i) (.cons .beginRound (.cons (.code j) .nil)),.nil,.run,rfl,.inr ⟨m,k,rfl,rfl,d,g⟩⟩
def Bi(H:Good P ρ)(w:WR ρ v u){t g:Frame}{X X':List Frame}(h:dQ P ρ t g)(E:ie P ρ X X'){s F:Sem Next}(I:SX P qD ρ s F):dB P ρ v u cs (stepG.apply P true t (X++[floor]) none s v) (stepG.apply (P.it ρ.fs) true g (X'++cs) none F u):=by
 have j:∀(r:Array Event),∀e∈seen (P.it ρ.fs) g.fn (if(g.kind==CallKind.early)=true then #[]else r),e∈r:=by intro r e J;have:=j9 J;split at this;simp at this;exact this
 unfold stepG.apply;rcases dB.SZ w I with⟨y,G,es,e,p⟩|⟨a,b,G,K,z,es,i,d,e,A,n,m⟩|⟨a,b,G,K,z,es,i,e,A,n,m⟩;simp only[dF,e];cases y with
 |stuck s=>trivial
 |unsupported L=>cases L<;>first|trivial|cases p
 |_=>cases p
 simp only[dF,e,A];have B:=H.mono m.le;have q:=h.mono m.le;have l:=E.mono m.le;cases n with
 |value M=>exact dB.after w m (j i) (dB.xy m.rel (qe.mk' (q.finish M) l))
 |skip=>exact dB.after w m (j i) (dB.xy m.rel (qe.mk' (q.finish .undef) l))
 |enter N C=>
  refine dB.after w m (j i) ?_;have x:=dB.xy (es:=#[]) m.rel (qe.top (cs:=cs) (X:=t::X) (X':=g::X') (m.le.f▸rJ B N C .normal (.inl rfl)) (.cons q l));have o:=h.todo;generalize t.todo=k at o⊢;generalize g.todo=U at o⊢;cases o with
  |nil=>exact x
  |cons O _=>cases O<;>exact x
 |round Q R y p S T C=>
  exact dB.after w m (j i) (dB.xy m.rel (qe.mk' (X:=t::X) (X':=g::X') (Hz Q R y p S T C .normal) (.cons q l)))
 |defer p D=>
  exact dB.after w m (j i) (dB.xy m.rel (qe.mk' ((q.nf (.cons p (.inl D) q.defers)).finish .undef) l))
 simp only[dF,e,A];exact dB.after w m (j i) (dB.still m.rel (qe.mk' ((h.mono m.le).raise (c:=[{v:=a,recovered:=false}]) (c':=[{v:=b,recovered:=false}]) (.cons ⟨n.1,rfl,rfl,n.2⟩ .nil)) (E.mono m.le)))
def xz(w:WR ρ v u){q j:Frame}{X r:List Frame}(h:dQ P ρ q j)(g:ie P ρ X r)(C:VR ρ x y)(k i:Bool):dB P ρ v u cs (doReturn P k q (X++[floor]) none x v) (doReturn (P.it ρ.fs) i j (r++cs) none y u):=by
 have F:=h.kind;cases g with
 |nil=>
  simp only[sr,doReturn];cases s:q.kind;all_goals simp only[]
  all_goals exact .inl ⟨rfl,rfl,rfl,rfl,.inl rfl⟩
 | @cons c n X r e g=>
  simp only[qx,doReturn];rw[<-F];have f:dQ P ρ (match c.mode with
     | .panicking ({recovered:=true,..}::d)=>
      match d.dropWhile (!·.goexit)with
      |[]=>{c with mode:=.returning}
      |rest=>{c with mode:=.panicking rest}
     |_=>c)
   (match n.mode with
     | .panicking ({recovered:=true,..}::d)=>
      match d.dropWhile (!·.goexit)with
      |[]=>{n with mode:=.returning}
      |rest=>{n with mode:=.panicking rest}
     |_=>n):=by
   have z:=e.mode
   have A:∀{l o:List PanicEntry},kS ρ l o->kS ρ (l.dropWhile (!·.goexit)) (o.dropWhile (!·.goexit)):=by
    intro l o h;induction h with
    |nil=>exact .nil
    |cons h t G=>
     simp only[List.dropWhile_cons,<-h.ge];split;exact G;exact .cons h t
   revert z;generalize H:c.mode=R;generalize D:n.mode=I;intro z;cases z with
   |run=>exact e
   |returning=>exact e
   |panicking B=>
    cases B with
    |nil=>exact e
    | @cons p J l o K L=>
     obtain⟨S,M,T⟩:=p;obtain⟨N,O,Q⟩:=J;obtain⟨_,E,_⟩:=K;simp only at E;subst E;cases M with
     |false=>exact e
     |true=>
      dsimp only;have:=A L;revert this;generalize l.dropWhile (!·.goexit)=m;generalize o.dropWhile (!·.goexit)=U;intro this;cases this with
      |nil=>exact e.CK .returning
      |cons a b=>exact e.CK (.panicking (.cons a b))
  cases s:q.kind
  all_goals simp only[]
  exact dB.still w (qe.mk' (e.finish C) g);exact dB.still w (qe.mk' f g);exact dB.still w (qe.mk' (e.finish C) g);exact dB.still w (qe.mk' f g);exact dB.still w (qe.mk' e g)
def dB.ite{c:Prop} [Decidable c]{a b d:GStep}(e:c->dB P ρ v u cs a d)(f:¬c->dB P ρ v u cs b d):dB P ρ v u cs (if c then a else b) d:=by split;exact e ‹_›;exact f ‹_›
def ng(x:Good P ρ)(w:WR ρ v u){o i:Frame}{X X':List Frame}(h:dQ P ρ o i)(D:ie P ρ X X'){d E:Deferred}(n:se ρ d E)(p:ρ.Def):dB P ρ v u cs (callDeferred P o (X++[floor]) none d v) (callDeferred (P.it ρ.fs) i (X'++cs) none E u):=by
 have j:∀(r:Array Event),∀e∈seen (P.it ρ.fs) i.fn r,e∈r:=λr e H=>j9 H;unfold callDeferred;refine dB.ite (λ_=>trivial) λI=>?_;rw[cy (by intro J;apply I;revert J;have y:=h.mode;revert y;generalize o.mode=m;generalize i.mode=S;intro y;cases n<;>cases y<;>simp)];rcases dB.run w (SR.invoke x.fit x.two n)with⟨z,F,G,e,n⟩|⟨a,b,F,K,A,G,g,e,B,l,m⟩|⟨a,b,F,K,A,G,g,e,B,l,m⟩;simp only[e];cases z with
 |stuck s=>trivial
 |unsupported L=>cases L<;>first|trivial|cases n
 |_=>cases n
 simp only[e,B];have q:=x.mono m.le;have t:=h.mono m.le;have k:=D.mono m.le;cases l with
 |value T=>exact dB.after w m (j g) (dB.still m.rel (qe.mk' t k))
 |skip=>exact dB.after w m (j g) (dB.still m.rel (qe.mk' t k))
 |enter M C=>exact dB.after w m (j g) (dB.still m.rel (qe.top (X:=o::X) (X':=i::X') (m.le.f▸rJ q M C .deferred (.inr (q.dh (p.mono m.le) _))) (.cons t k)))
 |round N O z n Q R C=>exact dB.after w m (j g) (dB.still m.rel (qe.mk' (X:=o::X) (X':=i::X') (Hz N O z n Q R C .deferred) (.cons t k)))
 |defer n _=>exact dB.after w m (j g) (dB.still m.rel (qe.mk' t k))
 simp only[e,B];exact dB.after w m (j g) (dB.still m.rel (qe.mk' ((h.mono m.le).raise (c:=[{v:=a,recovered:=false}]) (c':=[{v:=b,recovered:=false}]) (.cons ⟨l.1,rfl,rfl,l.2⟩ .nil)) (D.mono m.le)))
theorem SR.results{fn:Func}(h:fc ρ W X):SV P ρ (results fn W) (results fn X):=by
 unfold Go.results
 have r:∀(l:List ResultVar) {g:dm},dm.Le ρ g->SR P (λρ a b=>qc ρ a b) g
  (l.mapM λx=>match x with| .tmp t=>Pure.pure (W.getD t fR)| .cell a t=>do Go.loadVar t (<-Go.asAddr (W.getD a fR)))
  (l.mapM λx=>match x with| .tmp t=>Pure.pure (X.getD t fR)| .cell a t=>do Go.loadVar t (<-Go.asAddr (X.getD a fR))):=by
  intro l;induction l with
  |nil=>intro g j;rw[List.mapM_nil,List.mapM_nil];exact .ew .nil
  |cons x l s=>
   intro g j;rw[List.mapM_cons,List.mapM_cons]
   have u:SV P g (match x with| .tmp t=>Pure.pure (W.getD t fR)| .cell a t=>do Go.loadVar t (<-Go.asAddr (W.getD a fR))) (match x with| .tmp t=>Pure.pure (X.getD t fR)| .cell a t=>do Go.loadVar t (<-Go.asAddr (X.getD a fR))):=by
    cases x with
    |tmp t=>exact .ew ((h.mono j).getD .undef t)
    |cell a t=>exact(SR.asAddr ((h.mono j).getD .undef a)).dD λ_ _ _ _ v=>SR.loadVar t v
   exact SR.dD u λi a b k e=>SR.dD (s (j.trans k)) λp c d m q=>.ew (.cons (e.mono m) q)
 rw[Ho,Ho];refine SR.dD (A:=λρ a b=>fc ρ a b) (SR.dD (f:=λl=>Pure.pure l.toArray) (f':=λl=>Pure.pure l.toArray) (r fn.results.toList (.refl _)) λi a b _ e=>.ew e.array) λi a b _ e=>.ew ?_;by_cases o:a.size=1;have n:b.size=1:=e.size▸o;rw[dif_pos o,dif_pos n];exact e.at_ 0 _ _ (iY (by omega)) (iY (by omega));have n:¬b.size=1:=e.size▸o;rw[dif_neg o,dif_neg n];exact e.VD
def La(s:Good P ρ)(w:WR ρ v u){fr g:Frame}{X M:List Frame}(h:dQ P ρ fr g)(o:ie P ρ X M)(p i:Bool):dB P ρ v u cs (unwind P p fr (X++[floor]) none v) (unwind (P.it ρ.fs) i g (M++cs) none u):=by
 have E:∀(r:Array Event),∀e∈seen (P.it ρ.fs) g.fn r,e∈r:=λr e F=>j9 F;unfold unwind;have t:=h.defers;revert t;generalize fr.defers=R;generalize g.defers=G;intro t;cases t with
 |nil=>
  dsimp only;have H:=h.mode;have z:=h.fn;revert H;generalize S:fr.mode=m;generalize N:g.mode=Z;intro H;cases H with
  |run=>trivial
  |panicking T=>
   dsimp only;have q:∀{fr:Frame} {Q:cA},(∃fn,Q.funcs[fr.fn]? =some fn)->fr.catches Q=false:=by rintro fr Q ⟨fn,j⟩;unfold Frame.catches;rw[j]
   obtain⟨fn,c,j,_,_⟩:=s.fit.fn _ h.fnS.1;obtain⟨x,U,I,_,_,_⟩:=s.two.fn _ h.fnS.1;rw[q ⟨fn,j⟩,q (fr:=g) (Q:=P.it ρ.fs) ⟨x,z▸I⟩];simp only[ik,eF];cases o with
   |nil=>exact .inl ⟨rfl,rfl,rfl,rfl,.inr ⟨_,rfl⟩⟩
   |cons J o=>exact dB.still w (qe.mk' (J.raise T) o)
  |returning=>
   dsimp only;obtain⟨fn,c,j,_,_⟩:=s.fit.fn _ h.fnS.1;obtain⟨x,U,I,_,_,V⟩:=s.two.fn _ h.fnS.1;obtain rfl:fn=x:=by rw[V h.fnS.2]at j;exact(cO j).symm
   rw[<-z,j,show(P.it ρ.fs).funcs[fr.fn]? =some fn from I];dsimp only;rcases dB.run w (SR.results (fn:=fn) h.tmps)with⟨O,A,B,e,t⟩|⟨a,b,A,K,y,B,l,e,C,k,m⟩|⟨a,b,A,K,y,B,l,e,C,k,m⟩;rw[e];cases O<;>trivial;rw[e,C];rw[m.le.f];exact dB.after w m (λe F=>j9 F) (xz m.rel (h.mono m.le) (o.mono m.le) k p i);rw[e];trivial
 | @cons d d' R G t L n=>
  cases t with
  |collected W=>
   dsimp only;rcases dB.run w (SR.takeDeferred W)with⟨O,A,B,e,t⟩|⟨a,b,A,K,y,B,l,e,C,k,m⟩|⟨a,b,A,K,y,B,l,e,C,k,m⟩;rw[e];trivial;rw[e,C];obtain⟨rfl,rfl⟩:=k;exact dB.after w m (E l) (dB.still m.rel (qe.mk' ((h.mono m.le).nf (n.mono m.le)) (o.mono m.le)));rw[e];trivial
  |fn Y j D=>exact ng s w (h.nf n) o (.fn Y j D) (L.resolve_right λ⟨_,h⟩=>by cases h)
  |yield j D=>exact ng s w (h.nf n) o (.yield j D) (L.resolve_right λ⟨_,h⟩=>by cases h)
  |nil D=>exact ng s w (h.nf n) o (.nil D) (L.resolve_right λ⟨_,h⟩=>by cases h)
def IS{a:Array Oper}(h:fc ρ W X)(j:Nat):yielded a W j=yielded a X j:=by
 unfold yielded;cases(a[j]?).bind (·.dst)with
 |none=>rfl
 |some d=>
  simp only[sN];rcases h.get? d with⟨b,c⟩|⟨v,f,b,c,e⟩;rw[b,c];rw[b,c];cases e<;>rfl
def Oj(D:Good P ρ)(w:WR ρ v u){k d:Frame}{X r:List Frame}(h:dQ P ρ k d)(B:ie P ρ X r)(i g:Bool)(j:Option Code){lost lost':GStep}(E:∃o n p,lost=.ended o n p):(∀c,j=some c->∀f,ρ.ok f c=true)->dB P ρ v u cs (match k.roundOf with
    |none=>if(match j with|none|some .ret=>true|_=>false)=true then .go {frame:={k with mode:=.returning},callers:=X++[floor],status:=.running,dying:=none} v else lost
    |some l=>GStep.after (seen P k.fn ((Instr.endRound l j).runT P v #[]).2)<|match((Instr.endRound l j).runT P v #[]).1 with
     | .ok x w=>doReturn P i k (X++[floor]) none x w
     | .halt _ w=>.ended (.stuck "range over a function: no such loop" (k.pos P)) w)
  (match d.roundOf with
    |none=>if(match j with|none|some .ret=>true|_=>false)=true then .go {frame:={d with mode:=.returning},callers:=r++cs,status:=.running,dying:=none} u else lost'
    |some l=>GStep.after (seen (P.it ρ.fs) d.fn ((Instr.endRound l j).runT (P.it ρ.fs) u #[]).2)<|match((Instr.endRound l j).runT (P.it ρ.fs) u #[]).1 with
     | .ok x w=>doReturn (P.it ρ.fs) g d (r++cs) none x w
     | .halt _ w=>.ended (.stuck "range over a function: no such loop" (d.pos (P.it ρ.fs))) w):=by
 have _:=D;intro F;rcases h.round with⟨s,t⟩|⟨l,K,s,t,G,_⟩;rw[s,t];dsimp only;have y:dQ P ρ {k with mode:=.returning,roundOf:=none} {d with mode:=.returning,roundOf:=none}:=⟨h.fn,h.fnS,h.tmps,h.todo,h.defers,.returning,h.kind,.inl ⟨rfl,rfl⟩⟩;refine dB.ite (λH=>?_) λ_=>?_;rw[cB H];exact dB.still w (qe.mk' y B);obtain⟨o,n,p,rfl⟩:=E;trivial;rw[s,t];dsimp only;rcases dB.run w (SR.endRound G j F)with⟨L,n,p,e,M⟩|⟨a,b,n,I,z,p,A,e,C,q,m⟩|⟨a,b,n,I,z,p,A,e,C,q,m⟩;rw[e];trivial;rw[e,C,m.le.f];exact dB.after w m (λe J=>j9 J) (xz m.rel (h.mono m.le) (B.mono m.le) q i g);rw[e];trivial
end
section
variable{P:cA}{ρ:dm}{v u:cn}{cs:List Frame}
def fG(a:Good P ρ){c:Code}(h:gD P ρ.S ρ.dim (ρ.df K) c=true):ρ.ok K c=true:=by rw[a.ok];exact h
def rK(a:Good P ρ){c:Code}(h:(match c with| .ret| .exit _| .goto _=>true|_=>false)=true)(f:dH):ρ.ok f c=true:=by rw[a.ok];cases c<;>first|rfl|cases h
def Rh(q:Good P ρ)(w:WR ρ v u){z p:Frame}{X X':List Frame}(h:dQ P ρ z p)(N:ie P ρ X X')(F L:Bool):dB P ρ v u cs (stepG.exec P F true z (X++[floor]) none v) (stepG.exec (P.it ρ.fs) L true p (X'++cs) none u):=by
 have aa:=h.fn;have I:∀{k k':List Item},jO P ρ z.fn k k'->dB P ρ v u cs (.go {frame:={z with todo:=k},callers:=X++[floor],status:=.running,dying:=none} v) (.go {frame:={p with todo:=k'},callers:=X'++cs,status:=.running,dying:=none} u):=
  λC=>dB.still w (qe.mk' (h.xw C) N)
 have lv:=λ(j:Option Code)=>Oj (cs:=cs) (lost:=.ended (.stuck "exit, goto: no such block or label" (z.pos P)) v) (lost':=.ended (.stuck "exit, goto: no such block or label" (p.pos (P.it ρ.fs))) u) q w h N F L j ⟨_,_,_,rfl⟩;have ah:=q.ok;have G:=h.todo;unfold stepG.exec;revert G lv;generalize ai:z.todo=k0;generalize ab:p.todo=ao;intro lv G;cases G with
 |nil=>exact lv none (λc e=>by cases e)
 | @cons x x' k k' hx C=>
  cases hx with
  | @code c M=>
   have g:=M;rw[ah]at g;dsimp only at g;cases c with
   |ret=>exact lv (some .ret) (λc e=>by cases e;exact rK q rfl)
   |skip=>exact I C
   |label l=>exact I C
   |seq a b=>
    simp only[gD,dW]at g;exact I (.cons (.code (fG q g.1)) (.cons (.code (fG q g.2)) C))
   |cond c a b=>
    simp only[gD,dW]at g;dsimp only;have R:=h.eval c g.1.1;revert R;generalize z.eval c=x;generalize p.eval c=x';intro R;cases R with
    |bool t=>
     refine I (.cons (.code ?_) C);split;exact fG q g.1.2;exact fG q g.2
    |_=>trivial
   |block K b=>
    exact I (.cons (.code (fG q g)) (.cons (.inBlock K) C))
   |loop b=>
    exact I (.cons (.code (fG q g)) (.cons (.inLoop (fG q g)) C))
   |scope b=>
    exact I (.cons (.code (fG q g)) (.cons (.inScope (fG q g)) C))
   |exit K=>
    dsimp only;rcases C.exitTo K with⟨D,E⟩|⟨j,j',D,E,hj⟩;rw[D,E];exact lv (some (.exit K)) (λc e=>by cases e;exact rK q rfl);rw[D,E];exact I hj
   |goto l=>
    dsimp only;rcases C.gotoIn q l with⟨D,E⟩|⟨j,j',D,E,hj⟩;rw[D,E];exact lv (some (.goto l)) (λc e=>by cases e;exact rK q rfl);rw[D,E];exact I hj
   |refuse ap=>trivial
   |rangeFunc f ps a b=>
    simp only[gD,dW]at g;simp only[tE]at g;dsimp only;rw[show(Instr.enterLoop p.fn p.tmps ps a b p.roundOf)=(Instr.enterLoop z.fn p.tmps ps a b p.roundOf)from by rw[aa]];rcases dB.run w (SR.enterLoop h.fnS.1 h.fnS.2 h.tmps ps a b (fG q g.1.2) (fG q g.2) g.1.1.1 (h.round.imp (λh=>h) λ⟨l,l',a,b,c,_⟩=>⟨l,l',a,b,c⟩))with⟨hh,T,es,e,hd⟩|⟨x,y,T,u1,A,es,U,e,e',H,m⟩|⟨x,y,T,u1,A,es,U,e,e',H,m⟩;rw[e];trivial;rw[e,e'];obtain⟨l,mk⟩:=x;obtain⟨l',ac⟩:=y;obtain⟨hl,ad⟩:=H;simp only at hl ad;have V:=q.mono m.le;have O:=h.mono m.le;have ae:tK A mk ac:=by rcases ad with⟨rfl,rfl⟩|⟨d,d',rfl,rfl,hd,hb⟩;exact .nil;exact .cons hd (.inr hb) .nil
    have af:dQ P A {z with todo:=.inRangeFunc l::k,defers:=mk++z.defers} {p with todo:=.inRangeFunc l'::k',defers:=ac++p.defers}:=
     ⟨O.fn,O.fnS,O.tmps,.cons (.inRangeFunc hl) (C.mono m.le),ae.append O.defers,O.mode,O.kind,O.round⟩
    refine dB.after w m (λe W=>j9 W) ?_;dsimp only;rw[m.le.f];refine Bi V m.rel af (N.mono m.le) (.of ?_);unfold resolve;dsimp only;refine SR.dD (SR.ofValue (af.eval f (m.le.s▸g.1.1.2)) (xs:=_) (xs':=_) ?_) λaj d d' ag hd=>SR.invoke ((V.mono ag).fit) ((V.mono ag).two) hd;simp only[List.map_toArray,lq,vC,Frame.eval];exact fc.one (.yield hl);rw[e];trivial
   |region K B draw=>
    simp only[gD,uM]at g;have J:∀(i:Nat) o,B[i]? =some o->ot P ρ.S ρ.dim (ρ.df z.fn) o=true:=λi o e=>g o (mo e);dsimp only;cases draw with
    |false=>exact I (.cons (.inRegion _ J) C)
    |true=>
     simp only[Bool.not_true,ik,eF];rw[show Go.choose (.order p.fn K)=Go.choose (.order z.fn K)from by rw[aa]];have ak:SR P (λ_ (a b:Nat)=>a=b) ρ (Go.choose (.order z.fn K)) (Go.choose (.order z.fn K)):=.choose λn=>.pure rfl;have Q:=ak.run w #[] #[];unfold j8 at Q;rw[lB,lB]at Q;simp only at Q;revert Q;generalize (Go.choose (.order z.fn K)).run P v=r;intro Q;cases r with
     |ok t T=>
      obtain⟨b,u1,A,aq,D,rfl,m⟩:=Q;have E:(Go.choose (.order z.fn K)).run (P.it ρ.fs) u=.ok t u1:=cT Prod.fst D;rw[E];have O:=h.mono m.le;refine .inr ⟨A,_,u1,#[],rfl,(m.sub (λe W=>by simp at W)).hr,?_⟩;refine qe.mk' (O.xw ?_) (N.mono m.le);have Y:∀(i:Nat) o,B[i]? =some o->ot P A.S A.dim (A.df z.fn) o=true:=by rw[<-m.le.s,<-m.le.d,<-m.le.w];exact J
      exact .cons (.inRegion _ Y) (C.mono m.le)
     |halt hh T=>trivial
  |inBlock K=>exact I C
  |inScope M=>exact I C
  |inLoop M=>exact I (.cons (.code M) (.cons (.inLoop M) C))
  |inRangeFunc hl=>trivial
  |beginRound=>
   dsimp only;refine Bi q w h N (.of ?_);rcases h.round with⟨D,E⟩|⟨l,l',D,E,Q,_⟩;rw[D,E];exact .dead rfl;rw[D,E];exact SR.dD (SR.beginRound Q) λ_ _ _ _ _=>.ew .skip
  |endRangeFunc hl=>
   dsimp only;rcases dB.run w (SR.endLoop hl)with⟨hh,T,es,e,hd⟩|⟨x,y,T,u1,A,es,U,e,e',H,m⟩|⟨x,y,T,u1,A,es,U,e,e',H,m⟩
   ·rw[e];cases hh<;>first|trivial|(cases hd;done)
   rw[e,e'];obtain⟨rfl,hj⟩:=H;refine dB.after w m (λe W=>j9 W) (dB.still m.rel (qe.mk' ((h.mono m.le).xw ?_) (N.mono m.le)));cases x with
   |none=>exact C.mono m.le
   |some c=>exact .cons (.code (hj c rfl _)) (C.mono m.le)
   rw[e,e'];exact dB.after w m (λe W=>j9 W) (dB.still m.rel (qe.mk' ((h.mono m.le).raise (c:=[{v:=x,recovered:=false}]) (c':=[{v:=y,recovered:=false}]) (.cons ⟨H.1,rfl,rfl,H.2⟩ .nil)) (N.mono m.le)))
  | @inRegion B td J=>
   cases td with
   |nil=>exact I C
   |cons i an=>
    dsimp only;have hy:((B[i]?).map (Region.wanted · (yielded B z.tmps))).getD false=((B[i]?).map (Region.wanted · (yielded B p.tmps))).getD false:=by have:yielded B z.tmps=yielded B p.tmps:=funext (IS h.tmps);rw[this]
    rw[<-hy];refine dB.ite (λM=>?_) λM=>?_;rw[cB M];cases ho:B[i]? with
    |none=>rw[ho]at M;cases M
    |some o=>
     unfold stepG.oper;have D:z.oper?=some o:=by simp only[Frame.oper?,ai];exact ho
     have E:p.oper?=some o:=by simp only[Frame.oper?,ab];exact ho
     rw[D,E];dsimp only;have Z:=J i o ho;have hs:SX P qD ρ (execOp z.eval o) (execOp p.eval o):=SX.exec q.fit q.two (λx hx=>h.eval x hx) (λe=>⟨_,e⟩) (λ_=>⟨rfl,rfl⟩) o Z;have F:=Bi (cs:=cs) q w h N hs;rcases h.round with⟨D,E⟩|⟨l,l',D,E,Q,al⟩;rw[D,E];exact F;rw[D,E];cases am:o.op<;>first|exact F|skip
     rename_i c;simp only[ot,dW,am,CC]at Z;exfalso;have:=Z.2;rw[al]at this;revert this;split<;>(intro h;cases h)
    rw[cy M];exact dB.still w (qe.mk' (h.finish .undef) N)
end
section
variable{P:cA}{ρ:dm}{v u:cn}{cs:List Frame}
def FM(p:Good P ρ)(w:WR ρ v u){g:cx}(h:qe P ρ cs Z g)(i:dQ P ρ Z.frame g.frame)(d c:Bool):dB P ρ v u cs (stepG P d Z v) (stepG (P.it ρ.fs) c g u):=by
 obtain⟨l,G,H,I,j⟩:=Z;obtain⟨e,D,E,F,f⟩:=g;obtain⟨_,⟨X,q,r,s,t⟩,⟨x,y⟩,⟨z,A⟩,B,C⟩:=h;simp only at r s x y z A B C i;subst r s x y z A B C;have n:=Rh (cs:=cs) p w i t d c;have k:=La (cs:=cs) p w i t d c;have o:=i.mode;unfold stepG;dsimp only;revert n k;generalize stepG.exec P d true l (X++[floor]) none v=a;generalize stepG.exec (P.it ρ.fs) c true e (q++cs) none u=J;generalize unwind P d l (X++[floor]) none v=b;generalize unwind (P.it ρ.fs) c e (q++cs) none u=K;intro n k;revert o;generalize l.mode=m;generalize e.mode=L;intro o;cases o with
 |run=>exact n
 |returning=>exact k
 |panicking _=>exact k
theorem xx.ended{P:cA}(h:xx Z)(a:Bool)(w:cn):∃o j k,stepG P a Z w=.ended o j k:=by obtain⟨l,m,n,p,b⟩:=Z;obtain⟨d,e,f,g,i⟩:=h;simp only at f d e g i;subst f d e g;rcases i with rfl|⟨c,rfl⟩;exact⟨_,_,_,rfl⟩;exact⟨_,_,_,rfl⟩
end
abbrev Ta:=Nat->Question->Nat
def cQ(v:cn)(T:Ta):cn:={v with tape:=T}
def FN{a:Type}:Result a->cn
 | .ok _ w=>w
 | .halt _ w=>w
def Lc{b:Type}(T:Ta):Result b->Result b
 | .ok a w=>.ok a (cQ w T)
 | .halt h w=>.halt h (cQ w T)
def Qm{a:Type}:Result a->Prop
 | .ok _ _=>False
 | .halt h _=>h.dead=true
def Ld(v a:cn)(T:Ta):Prop:=∀j,v.drawn<=j->j<a.drawn->T j=v.tape j
structure kC(v v1:cn)(C:Ta->Prop):Prop where
 le:v.drawn<=v1.drawn
 tape:v1.tape=v.tape
 run:∀T,Ld v v1 T->C T
theorem kC.trans{v v1 c:cn}{C d:Ta->Prop}(h:v.drawn<=v1.drawn)(e:v1.tape=v.tape)(k:kC v1 c d)(g:∀T,Ld v v1 T->d T->C T):kC v c C:=
 ⟨cZ h k.le,k.tape.trans e,λT f=>g T (λj a b=>f j a (dE b k.le)) (k.run T λj a b=>by rw[e];exact f j (cZ h a) b)⟩
def SR.xA{Y Z:Type}{A:dm->Y->Z->Prop}{s:Sem Y}{s':Sem Z}(h:SR P A R s s'):
 ∀{v u:cn},WR R v u->∀d,Qm (s.runT P v d).1\/kC v (FN (s.runT P v d).1) λT=>s.runT P (cQ v T) d=(Lc T (s.runT P v d).1,(s.runT P v d).2):=by
 induction h with
 | @pure R a b h=>exactλ{v u} f d=>.inr ⟨cJ _,rfl,λT _=>rfl⟩
 | @load R a a' k F J _ j=>
  intro v u f d;cases G:v.cell? a with
  |none=>
   cases J with
   | @mk b c o s z=>
    obtain⟨hh,e,l⟩:=tJ (P:=P) (a:=⟨b,o,s⟩) (at_:=(Mode.plain==Mode.atomic)) (f.noView z) (f.noPending z);refine .inl ?_;simp only[Sem.runT,G,e];exact l
  |some x=>
   obtain⟨O,aa,S⟩:=f.cell J G;rcases j x O S f (d.push ⟨.cell a,false,false⟩)with l|i;refine .inl ?_;simp only[Sem.runT,G];exact l;refine .inr ?_;have B:∀T,(cQ v T).cell? a=some x:=λT=>G;simp only[Sem.runT,G,B];exact i
 | @store R a a' x O k F J S _ j=>
  intro v u f d;by_cases C:(∃g,x=.agg g)\/∃g,x=.tuple g;rcases C with⟨g,rfl⟩|⟨g,rfl⟩<;>exact .inl rfl;have B:∀(a:Addr) (v:cn) (d:Array Event),(Sem.store .plain a x k).runT P v d=(match v.cell? a with
   |some _=>if v.frozen? a then(.halt (.unsupported (.unsafePointer "a write to bytes that a string shares")) v,d)else k.runT P (v.setCell a x) (d.push ⟨.cell a,true,false⟩)
   |none=>match v.farStore P a x false with
    | .ok (w,D)=>k.runT P w (d++D.toArray.map (⟨.cell ·,true,false⟩))
    | .error h=>(.halt h v,d)):=by
   intro a v d;cases x<;>first|rfl|exact absurd (.inl ⟨_,rfl⟩) C|exact absurd (.inr ⟨_,rfl⟩) C
  cases K:v.cell? a with
  |none=>
   cases J with
   | @mk b c o s z=>
    obtain⟨hh,e,l⟩:=sx (P:=P) (a:=⟨b,o,s⟩) (x:=x) (at_:=false) (f.noView z) (f.noPending z);refine .inl ?_;rw[B];simp only[K,e];exact l
  |some y=>
   by_cases hz:v.frozen? a=true;refine .inl ?_;rw[B];simp only[K,hz,dF];exact rfl;have H:v.frozen? a=false:=by simpa using hz
   obtain⟨hu,L⟩:=eT.store f J S K H;have M:∀T,(cQ v T).cell? a=some y:=λT=>K;have e3:∀T,(cQ v T).frozen? a=false:=λT=>H;have e4:∀T,(cQ v T).setCell a x=cQ (v.setCell a x) T:=λT=>rfl;simp only[B,K,H,M,e3,e4,ik,eF];rcases j L.rel (d.push ⟨.cell a,true,false⟩)with l|i;exact .inl l;exact .inr ⟨i.le,i.tape,i.run⟩
 | @new R o U k F ho _ j=>
  intro v u f d;have L:=eT.new f ho;rcases j v.me u.me f.Rc f.Rd (f.low _ (cJ _)) L.rel d with l|i;exact .inl l;exact .inr ⟨i.le,i.tape,i.run⟩
 | @getObj R r Q k F z _ j=>
  intro v u f d;obtain⟨o,U,E,h2,h3⟩:=f.obj r Q z;by_cases i:∃g t n,o=.cells g t n;obtain⟨g,t,n,rfl⟩:=i;refine .inl ?_;simp only[Sem.runT,E];exact rfl;have p:∀g t n,o≠ .cells g t n:=λg t n e=>i ⟨g,t,n,e⟩;have B:∀{N:Type} (k:Obj->Sem N) (w:cn) (r:Nat) (o:Obj) (d:Array Event),w.heap[r]? =some o->(∀g t n,o≠ .cells g t n)->(Sem.getObj r k).runT P w d=(k o).runT P w (d.push ⟨.obj r,false,o.isChan⟩):=by intro N k w r o d h I;cases o<;>first|exact absurd rfl (I _ _ _)|simp only[Sem.runT,h]
  have M:∀T,(Sem.getObj r k).runT P (cQ v T) d=(k o).runT P (cQ v T) (d.push ⟨.obj r,false,o.isChan⟩):=λT=>B k _ r o d E p;simp only[B k v r o d E p,M];exact j o U (h3.plain p) p f _
 | @setObj R r Q x O k F z G V _ j=>
  intro v u f d;obtain⟨o,U,E,h2,h3⟩:=f.obj r Q z;by_cases i:∃g t n,o=.cells g t n;obtain⟨g,t,n,rfl⟩:=i;refine .inl ?_;simp only[Sem.runT,E];exact rfl;have p:∀g t n,o≠ .cells g t n:=λg t n e=>i ⟨g,t,n,e⟩;have B:∀{N:Type} (k:Sem N) (w:cn) (r:Nat) (x o:Obj) (d:Array Event),w.heap[r]? =some o->(∀g t n,o≠ .cells g t n)->(Sem.setObj r x k).runT P w d=k.runT P {w with heap:=w.heap.setIfInBounds r x} (d.push ⟨.obj r,true,x.isChan⟩):=by intro N k w r x o d h I;cases o<;>first|exact absurd rfl (I _ _ _)|simp only[Sem.runT,h]
  have M:∀T,(Sem.setObj r x k).runT P (cQ v T) d=k.runT P (cQ {v with heap:=v.heap.setIfInBounds r x} T) (d.push ⟨.obj r,true,x.isChan⟩):=λT=>B k _ r x o d E p;simp only[B k v r x o d E p,M];have L:=eT.setObj f z G E p V;rcases j L.rel (d.push ⟨.obj r,true,x.isChan⟩)with l|i;exact .inl l;exact .inr ⟨i.le,i.tape,i.run⟩
 | @shape R r Q k F z _ _ j ib=>
  intro v u f d;rcases f.shape z with⟨W,_⟩|⟨W,m,y,e,_⟩;exact j W _ f d;have h:=ib W m y f d;rw[<-e]at h;exact h
 | @choose R q k F _ j=>
  intro v u f d;by_cases hq:q.forced=true;simp only[Sem.runT,hq,dF];exact j 0 f d;have X:q.forced=false:=by simpa using hq
  simp only[Sem.runT,X,ik,eF];rcases j (q.cut (v.tape v.drawn q)) f.draw d with l|i;exact .inl l;refine .inr (kC.trans (v1:={v with drawn:=v.drawn+1}) (tH _) rfl i λT hT h=>?_);rw[show(cQ v T).tape=T from rfl,show(cQ v T).drawn=v.drawn from rfl,hT v.drawn (cJ _) (Nat.lt_succ_self _)];exact h
 |program _ j=>exactλf d=>j f d
 | @noRoom R k F _ j=>exactλ{v u} f d=>j f _
 | @panic R x O h=>exactλ{v u} f d=>.inr ⟨cJ _,rfl,λT _=>rfl⟩
 |dead l=>exactλ{v u} f d=>.inl l
 | @never R s s' h=>
  intro v u f d;obtain⟨hh,w',e,l⟩:=h v;refine .inl ?_;rw[lB,e];exact l
theorem SX.xA{t w:Type}{A:dm->t->w->Prop}{s:Sem t}{x:Sem w}(h:SX P A R s x):
 ∀{v u:cn},WR R v u->∀d,Qm (s.runT P v d).1\/kC v (FN (s.runT P v d).1) λT=>s.runT P (cQ v T) d=(Lc T (s.runT P v d).1,(s.runT P v d).2):=by
 induction h with
 |of h=>exactλe d=>h.xA e d
 | @skip R q r z o C a b g D E h=>exactλ{v u} e d=>(SR.choose (P:=P) (A:=A) (k':=λ_=>.setObj z C (.pure b)) λn=>.setObj g (D n) (E n) (.pure h)).xA e d
 | @bind R J K B s x f L h k F=>
  intro v u e d;have g:=h.run e d #[];have c:=h.xA e d;rw[Sem.runT_bind'];simp only[Sem.runT_bind'];unfold j8 at g;generalize s.runT P v d=r at g c⊢;obtain⟨r,i⟩:=r;cases r with
  |ok a G=>
   obtain⟨b,M,j,H,N,I,m⟩:=g;rcases c with c|c;exact c.elim;rcases F j a b m.le I m.rel i with l|l;exact .inl l;refine .inr (kC.trans c.le c.tape l λT p y=>?_);rw[c.run T p];exact y
  |halt y G=>
   rcases c with c|c;exact .inl c;refine .inr ⟨c.le,c.tape,λT p=>?_⟩;rw[c.run T p];rfl
def dz(F:cn->GStep)(v:cn):Prop:=
 match F v with
 | .go b a c=>kC v a λT=>F (cQ v T)=.go b (cQ a T) c
 |_=>True
def kC.refl(v:cn){C:Ta->Prop}(h:∀T,C T):kC v v C:=⟨cJ _,rfl,λT _=>h T⟩
theorem dz.go(v:cn)(g:cx)(a:Array Event):dz (λw=>.go g w a) v:=kC.refl v λ_=>rfl
theorem dz.ended(v:cn)(o:Outcome)(a:Array Event):dz (λw=>.ended o w a) v:=trivial
theorem dz.after{v:cn}{F:cn->GStep}(a:Array Event)(h:dz F v):dz (λw=>GStep.after a (F w)) v:=by
 unfold dz at*;dsimp only;revert h;generalize d:F v=x;intro h;cases x with
 |go e f b=>exact⟨h.le,h.tape,λT c=>by rw[h.run T c];rfl⟩
 |_=>trivial
def dz.ite{v:cn}{c:Prop} [Decidable c]{F b:cn->GStep}(h:c->dz F v)(d:¬c->dz b v):dz (λw=>if c then F w else b w) v:=by by_cases a:c;have:=h a;simp only[a,dF];exact this;have:=d a;simp only[a,eF];exact this
def dz.congr{v:cn}{F a:cn->GStep}(h:dz F v)(e:∀T,a (cQ v T)=F (cQ v T)):dz a v:=by
 have b:a v=F v:=e v.tape;unfold dz at*;rw[b];revert h;generalize F v=x;intro h;cases x with
 |go f g c=>exact⟨h.le,h.tape,λT d=>by rw[e];exact h.run T d⟩
 |_=>trivial
def S3(s:GStep):Prop:=match s with| .go _ _ _=>False|_=>True
section
variable{P:cA}{ρ:dm}{v u:cn}{cs:List Frame}
theorem dz.run{p t:Type}{A:dm->p->t->Prop}{s:Sem p}{y:Sem t}(w:WR ρ v u)(h:SR P A ρ s y)(K:Result p->Array Event->GStep) (z:∀l d f,l.dead=true->S3 (K (.halt l d) f))
 (B:∀a b d o g f i,A g a b->eT ρ g v u d o i->dz (λw=>K (.ok a w) f) d)
 (C:∀a d f,dz (λw=>K (.halt (.panic a) w) f) d):
 dz (λw=>K (s.runT P w #[]).1 (s.runT P w #[]).2) v:=by
 rcases dB.run w h with⟨l,d,f,e,D⟩|⟨a,b,d,o,g,f,i,e,E,n,m⟩|⟨a,b,d,o,g,f,i,e,E,n,m⟩;have:=z l d f D;unfold dz;simp only[e];revert this;generalize K (.halt l d) f=x;intro F;cases x with
 |go _ _ _=>exact F.elim
 |_=>trivial
 have c:=h.xA w #[];rw[e]at c;rcases c with c|c;exact c.elim;have k:=B a b d o g f i n m;unfold dz at*;simp only[e];dsimp only at k;revert k;generalize G:K (.ok a d) f=x;intro k;cases x with
 |go H I q=>
  refine kC.trans c.le c.tape k λT r h=>?_;rw[c.run T λj a b=>r j a b];exact h
 |_=>trivial
 have c:=h.xA w #[];rw[e]at c;rcases c with c|c;exact absurd (show Halt.dead (.panic a)=true from c) (by intro l;cases l);have k:=C a d f;unfold dz at*;simp only[e];dsimp only at k;revert k;generalize G:K (.halt (.panic a) d) f=x;intro k;cases x with
 |go H I q=>
  refine kC.trans c.le c.tape k λT r h=>?_;rw[c.run T λj a b=>r j a b];exact h
 |_=>trivial
end
section
variable{P:cA}{ρ:dm}{v u:cn}{cs:List Frame}
def kC.runs{n o:Type}{A:dm->n->o->Prop}{s:Sem n}{p:Sem o}(w:WR ρ v u)(h:SR P A ρ s p):(∃j c d,s.runT P v #[]=(.halt j c,d)/\j.dead=true)\/
 (∃a b c l g d i,s.runT P v #[]=(.ok a c,d)/\A g a b/\eT ρ g v u c l i/\kC v c λT=>s.runT P (cQ v T) #[]=(.ok a (cQ c T),d))\/
 (∃a c d,s.runT P v #[]=(.halt (.panic a) c,d)/\kC v c λT=>s.runT P (cQ v T) #[]=(.halt (.panic a) (cQ c T),d)):=by
 have f:=h.xA w #[];rcases dB.run w h with⟨j,c,d,e,q⟩|⟨a,b,c,l,g,d,i,e,r,k,m⟩|⟨a,b,c,l,g,d,i,e,r,k,m⟩;exact .inl ⟨j,c,d,e,q⟩;rw[e]at f;rcases f with f|f;exact f.elim;exact .inr (.inl ⟨a,b,c,l,g,d,i,e,k,m,f⟩);rw[e]at f;rcases f with f|f;exact absurd (show Halt.dead (.panic a)=true from f) (by intro j;cases j);exact .inr (.inr ⟨a,c,d,e,f⟩)
def kC.S5{n o:Type}{A:dm->n->o->Prop}{s:Sem n}{p:Sem o}(w:WR ρ v u)(h:SX P A ρ s p):(∃j c f,s.runT P v #[]=(.halt j c,f)/\j.dead=true)\/
 (∃a b c i f,s.runT P v #[]=(.ok a c,f)/\A i a b/\kC v c λT=>s.runT P (cQ v T) #[]=(.ok a (cQ c T),f))\/
 (∃a c f,s.runT P v #[]=(.halt (.panic a) c,f)/\kC v c λT=>s.runT P (cQ v T) #[]=(.halt (.panic a) (cQ c T),f)):=by
 have g:=h.xA w #[];rcases dB.SZ w h with⟨j,c,f,e,q⟩|⟨a,b,c,r,i,f,l,d,e,t,k,m⟩|⟨a,b,c,r,i,f,l,e,t,k,m⟩;exact .inl ⟨j,c,f,e,q⟩;rw[e]at g;rcases g with g|g;exact g.elim;exact .inr (.inl ⟨a,b,c,i,f,e,k,g⟩);rw[e]at g;rcases g with g|g;exact absurd (show Halt.dead (.panic a)=true from g) (by intro j;cases j);exact .inr (.inr ⟨a,c,f,e,g⟩)
def Bj(w:WR ρ v u){fr:Frame}{cl:List Frame}{s s':Sem Next}(j:SX P qD ρ s s'):dz (λv=>stepG.apply P true fr cl none s v) v:=by
 rcases kC.S5 w j with⟨l,g,h,e,i⟩|⟨a,b,g,m,h,e,f,c⟩|⟨a,g,h,e,c⟩;unfold dz stepG.apply;simp only[dF,e];cases l with
 |stuck s=>trivial
 |unsupported n=>cases n<;>first|trivial|cases i
 |_=>cases i
 unfold dz stepG.apply;simp only[dF,e];cases f with
 |enter q r=>
  have:∀(k:List Item) (X:CallKind->Prop),(X .normal)->(X .wrapped)->X (match k with| .call _ true _ _::_=>.wrapped|_=>.normal):=by intro k X o p;split;exact p;exact o
  refine⟨c.le,c.tape,λT d=>?_⟩;simp only[c.run T d];rfl
 |_=>
  refine⟨c.le,c.tape,λT d=>?_⟩;simp only[c.run T d];rfl
 unfold dz stepG.apply;simp only[dF,e];refine⟨c.le,c.tape,λT d=>?_⟩;simp only[c.run T d];rfl
def xB{fr:Frame}{cl:List Frame}(a:Bool)(x:cq)(b:cl≠[]):dz (λv=>doReturn P a fr cl none x v) v:=by
 cases cl with
 |nil=>exact absurd rfl b
 |cons c cl=>
  unfold dz doReturn;dsimp only;cases fr.kind<;>exact kC.refl v λT=>rfl
def nh(w:WR ρ v u){l:Frame}{n:List Frame}{d i:Deferred}(f:SN P ρ (Go.invoke d.target d.args) (Go.invoke i.target i.args)):dz (λv=>callDeferred P l n none d v) v:=by
 unfold callDeferred;refine dz.ite (λ_=>dz.ended v _ #[]) λ_=>?_;rcases kC.runs w f with⟨o,j,k,e,f⟩|⟨a,b,j,t,p,k,q,e,g,m,c⟩|⟨a,j,k,e,c⟩;unfold dz;simp only[e];cases o with
 |stuck s=>trivial
 |unsupported r=>cases r<;>first|trivial|cases f
 |_=>cases f
 unfold dz;simp only[e];cases g with
 |_=>
  refine⟨c.le,c.tape,λT h=>?_⟩;simp only[c.run T h];rfl
 unfold dz;simp only[e];refine⟨c.le,c.tape,λT h=>?_⟩;simp only[c.run T h];rfl
def Lf(i:Good P ρ)(w:WR ρ v u){fr j:Frame}{cl:List Frame}(p:cl≠[])(h:dQ P ρ fr j)(f:Bool):dz (λv=>unwind P f fr cl none v) v:=by
 unfold unwind;have l:=h.defers;revert l;generalize fr.defers=F;generalize j.defers=x;intro l;cases l with
 |nil=>
  dsimp only;have z:=h.mode;revert z;generalize G:fr.mode=m;generalize E:j.mode=M;intro z;cases z with
  |run=>exact dz.ended v _ #[]
  |panicking g=>
   dsimp only;cases cl with
   |nil=>exact absurd rfl p
   |cons c cl=>
    dsimp only;split;exact dz.ended v _ #[];exact dz.go v _ #[]
  |returning=>
   dsimp only;obtain⟨fn,c,q,_,_⟩:=i.fit.fn _ h.fnS.1;rw[q];dsimp only;rcases kC.runs (P:=P) w (SR.results (fn:=fn) h.tmps)with⟨s,n,o,e,l⟩|⟨a,b,n,H,A,o,B,e,C,m,g⟩|⟨a,n,o,e,g⟩;unfold dz;simp only[e];cases s<;>trivial;have k:=xB (P:=P) (v:=n) (fr:=fr) (cl:=cl) f a p;have t:=dz.after (seen P fr.fn o) k;unfold dz at*;simp only[e];dsimp only at t;revert t;generalize GStep.after (seen P fr.fn o) (doReturn P f fr cl none a n)=y;intro t;cases y with
   |go N O I=>
    refine kC.trans g.le g.tape t λT D s=>?_;simp only[g.run T D];exact s
   |_=>trivial
   unfold dz;simp only[e];trivial
 | @cons d Q F x l J=>
  cases l with
  |collected K=>
   dsimp only;rcases kC.runs (P:=P) w (SR.takeDeferred K)with⟨s,n,o,e,l⟩|⟨a,b,n,H,A,o,B,e,C,m,g⟩|⟨a,n,o,e,g⟩;unfold dz;simp only[e];trivial;unfold dz;simp only[e];refine⟨g.le,g.tape,λT D=>?_⟩;simp only[g.run T D];rfl;unfold dz;simp only[e];trivial
  |fn L q r=>exact nh w (SR.invoke i.fit i.two (.fn L q r))
  |yield q r=>exact nh w (SR.invoke i.fit i.two (.yield q r))
  |nil r=>exact nh w (SR.invoke i.fit i.two (.nil r))
end
section
variable{P:cA}{ρ:dm}{v u:cn}{cs:List Frame}
def Ol(w:WR ρ v u){fr q:Frame}{cl:List Frame}(r:cl≠[])(h:dQ P ρ fr q)(d:Bool)(j:Option Code)(o:Outcome):(∀c,j=some c->∀f,ρ.ok f c=true)->dz (λv=>
  (match fr.roundOf with
    |none=>if(match j with|none|some .ret=>true|_=>false)=true then .go {frame:={fr with mode:=.returning},callers:=cl,status:=.running,dying:=none} v else .ended o v
    |some l=>GStep.after (seen P fr.fn ((Instr.endRound l j).runT P v #[]).2)<|match((Instr.endRound l j).runT P v #[]).1 with
     | .ok x w=>doReturn P d fr cl none x w
     | .halt _ w=>.ended (.stuck "range over a function: no such loop" (fr.pos P)) w)) v:=by
 intro z;rcases h.round with⟨s,A⟩|⟨l,H,s,A,B,_⟩;rw[s];dsimp only;exact dz.ite (λ_=>dz.go v _ #[]) λ_=>dz.ended v _ #[];rw[s];dsimp only;rcases kC.runs (P:=P) w (SR.endRound B j z)with⟨t,g,i,e,I⟩|⟨a,b,g,J,C,i,D,e,E,m,n⟩|⟨a,g,i,e,n⟩;unfold dz;simp only[e];trivial;have k:=xB (P:=P) (v:=g) (fr:=fr) (cl:=cl) d a r;have p:=dz.after (seen P fr.fn i) k;unfold dz at*;simp only[e];dsimp only at p;revert p;generalize GStep.after (seen P fr.fn i) (doReturn P d fr cl none a g)=y;intro p;cases y with
 |go K L F=>
  refine kC.trans n.le n.tape p λT G t=>?_;simp only[n.run T G];exact t
 |_=>trivial
 unfold dz;simp only[e];trivial
theorem Ri(hG:Good P ρ)(w:WR ρ v u){fr uR:Frame}{cl:List Frame}(Om:cl≠[])(h:dQ P ρ fr uR)(main:Bool):
 dz (λv=>stepG.exec P main true fr cl none v) v:=by
 have WH:=hG.ok;have lv:=λ(j:Option Code)=>Ol w Om h main j (.stuck "exit, goto: no such block or label" (fr.pos P));have Lg:=h.todo;unfold stepG.exec;revert Lg lv;generalize UL:fr.todo=k0;generalize UM:uR.todo=XQ;intro lv Lg;cases Lg with
 |nil=>exact lv none (λc e=>by cases e)
 | @cons x x' k k' hx hk=>
  cases hx with
  | @code c hc=>
   have Qn:=hc;rw[WH]at Qn;dsimp only at Qn;cases c with
   |ret=>exact lv (some .ret) (λc e=>by cases e;exact rK hG rfl)
   |cond c a b=>
    dsimp only;cases fr.eval c<;>first|exact dz.ended v _ #[]|exact dz.go v _ #[]
   |exit id=>
    dsimp only;cases exitTo id k with
    |none=>exact lv (some (.exit id)) (λc e=>by cases e;exact rK hG rfl)
    |some j=>exact dz.go v _ #[]
   |goto l=>
    dsimp only;cases gotoIn l k with
    |none=>exact lv (some (.goto l)) (λc e=>by cases e;exact rK hG rfl)
    |some j=>exact dz.go v _ #[]
   |refuse XR=>exact dz.ended v _ #[]
   |rangeFunc f ps a b=>
    simp only[gD,Bool.and_eq_true]at Qn;simp only[Bool.not_eq_true']at Qn;dsimp only;rcases kC.runs (P:=P) w (SR.enterLoop h.fnS.1 h.fnS.2 h.tmps ps a b (fG hG Qn.1.2) (fG hG Qn.2) Qn.1.1.1 (h.round.imp id λ⟨l,l',a,b,c,_⟩=>⟨l,l',a,b,c⟩))with⟨hh,v1,es,e,hd⟩|⟨x,y,v1,u1,nM,es,Od,e,CI,m,On⟩|⟨x,v1,es,e,On⟩
    ·unfold dz;simp only[e];trivial
    ·obtain⟨l,mk⟩:=x;obtain⟨l',mk'⟩:=y;obtain⟨hl,VH⟩:=CI;simp only at hl VH;have VI:=hG.mono m.le;have h':=h.mono m.le;have UN:tK nM mk mk':=by
      rcases VH with⟨rfl,rfl⟩|⟨d,d',rfl,rfl,hd,hb⟩
      ·exact .nil
      ·exact .cons hd (.inr hb) .nil
     have FO:dQ P nM {fr with todo:=.inRangeFunc l::k,defers:=mk++fr.defers} {uR with todo:=.inRangeFunc l'::k',defers:=mk'++uR.defers}:=
      ⟨h'.fn,h'.fnS,h'.tmps,.cons (.inRangeFunc hl) (hk.mono m.le),UN.append h'.defers,h'.mode,h'.kind,h'.round⟩
     have hs:SN P nM (do let d<-resolve (Frame.eval {fr with todo:=.inRangeFunc l::k,defers:=mk++fr.defers}) {callee:=.value f,args:=#[.const (.func (.yield l) #[] #[])],argTypes:=#[]} 0;invoke d.target d.args)
      (do let d<-resolve (Frame.eval {uR with todo:=.inRangeFunc l'::k',defers:=mk'++uR.defers}) {callee:=.value f,args:=#[.const (.func (.yield l') #[] #[])],argTypes:=#[]} 0;invoke d.target d.args):=by
      unfold resolve;dsimp only;refine SR.dD (SR.ofValue (FO.eval f (m.le.s▸Qn.1.1.2)) (xs:=_) (xs':=_) ?_) λSU d d' hle hd=>SR.invoke ((VI.mono hle).fit) ((VI.mono hle).two) hd;simp only[List.map_toArray,List.map_cons,List.map_nil,Frame.eval];exact fc.one (.yield hl)
     have k2:=dz.after (seen P fr.fn es) (Bj (fr:={fr with todo:=.inRangeFunc l::k,defers:=mk++fr.defers}) (cl:=cl) m.rel (.of hs));unfold dz at*;simp only[e];dsimp only at k2;revert k2;generalize GStep.after (seen P fr.fn es) (stepG.apply P true {fr with todo:=.inRangeFunc l::k,defers:=mk++fr.defers} cl none _ v1)=y;intro k2;cases y with
     |go g1 v2 WI=>
      refine kC.trans On.le On.tape k2 λT hT hh=>?_;simp only[On.run T hT];exact hh
     |_=>trivial
    ·unfold dz;simp only[e];trivial
   |region id ops draw=>
    dsimp only;cases draw with
    |false=>exact dz.go v _ #[]
    |true=>
     simp only[Bool.not_true,Bool.false_eq_true,if_false];have WJ:SR P (λ_ (a b:Nat)=>a=b) ρ (Go.choose (.order fr.fn id)) (Go.choose (.order fr.fn id)):=.choose λn=>.pure rfl;rcases kC.runs (P:=P) w WJ with⟨hh,v1,es,e,hd⟩|⟨x,y,v1,u1,nM,es,Od,e,CI,m,On⟩|⟨x,v1,es,e,On⟩
     ·have e1:(Go.choose (.order fr.fn id)).run P v=.halt hh v1:=by rw[Sem.runT_eq]at e;exact congrArg Prod.fst e
      unfold dz;simp only[e1]
     ·have e1:(Go.choose (.order fr.fn id)).run P v=.ok x v1:=by rw[Sem.runT_eq]at e;exact congrArg Prod.fst e
      unfold dz;simp only[e1];refine⟨On.le,On.tape,λT hT=>?_⟩;have e2:(Go.choose (.order fr.fn id)).run P (cQ v T)=.ok x (cQ v1 T):=by have:=On.run T hT;rw[Sem.runT_eq]at this;exact congrArg Prod.fst this
      simp only[e2]
     ·have e1:(Go.choose (.order fr.fn id)).run P v=.halt (.panic x) v1:=by rw[Sem.runT_eq]at e;exact congrArg Prod.fst e
      unfold dz;simp only[e1]
   |_=>exact dz.go v _ #[]
  |inRangeFunc hl=>exact dz.ended v _ #[]
  |beginRound=>
   dsimp only;refine Bj (s':=(do uR.roundOf.elim (Go.stuck "beginRound: no round") Instr.beginRound;Pure.pure .skip)) w (.of ?_);rcases h.round with⟨e1,e2⟩|⟨l,l',e1,e2,hr,_⟩
   ·rw[e1,e2];exact .dead rfl
   ·rw[e1,e2];exact SR.dD (SR.beginRound hr) λ_ _ _ _ _=>.ew .skip
  |endRangeFunc hl=>
   dsimp only;rcases kC.runs (P:=P) w (SR.endLoop hl)with⟨hh,v1,es,e,hd⟩|⟨x,y,v1,u1,nM,es,Od,e,CI,m,hc⟩|⟨x,v1,es,e,hc⟩
   ·unfold dz;simp only[e];cases hh<;>first|trivial|(cases hd;done)
   ·unfold dz;simp only[e];refine⟨hc.le,hc.tape,λT hT=>?_⟩;simp only[hc.run T hT];rfl
   ·unfold dz;simp only[e];refine⟨hc.le,hc.tape,λT hT=>?_⟩;simp only[hc.run T hT];rfl
  | @inRegion ops td UO=>
   cases td with
   |nil=>exact dz.go v _ #[]
   |cons i rest=>
    dsimp only;refine dz.ite (λhc=>?_) λhc=>dz.go v _ #[];cases ho:ops[i]? with
    |none=>rw[ho]at hc;cases hc
    |some o=>
     unfold stepG.oper;have e1:fr.oper?=some o:=by simp only[Frame.oper?,UL];exact ho
     rw[e1];dsimp only;have UP:=UO i o ho;have hs:SX P qD ρ (execOp fr.eval o) (execOp uR.eval o):=SX.exec hG.fit hG.two (λx hx=>h.eval x hx) (λe=>⟨_,e⟩) (λ_=>⟨rfl,rfl⟩) o UP;have main:=Bj (fr:=fr) (cl:=cl) w hs;rcases h.round with⟨e1,e2⟩|⟨l,l',e1,e2,hr,WL⟩
     ·rw[e1];exact main
     ·rw[e1];cases T5:o.op<;>first|exact main|skip
      rename_i c;simp only[ot,Bool.and_eq_true,T5,CC]at UP;exfalso;have:=UP.2;rw[WL]at this;revert this;split<;>(intro h;cases h)
  |_=>exact dz.go v _ #[]
def Rj(i:Good P ρ)(w:WR ρ v u){g:cx}{f:Frame}(b:g.callers≠[])(d:g.dying=none)(h:dQ P ρ g.frame f)(a:Bool):
 dz (λv=>stepG P a g v) v:=by
 obtain⟨k,m,n,o,e⟩:=g;simp only at b d h;subst d;have l:=Ri i w b h a;have j:=Lf i w b h a;unfold stepG;dsimp only;cases p:k.mode with
 |run=>simp only;exact l
 |returning=>simp only;exact j
 |panicking c=>simp only;exact j
end
end Go.cP
namespace Go.cP
open Go.Conc (G)
structure pt where
 fr:Frame
 cl:List Frame
 v:cn
def Below(v:cn)(T:Ta):Prop:=∀j,j<v.drawn->T j=v.tape j
inductive Reach (P:cA) (Stop:Frame->List Frame->cn->Prop):pt->Prop
 |here {c:pt} (h:Stop c.fr c.cl c.v):Reach P Stop c
 |next {c:pt} (h1:∀T,Below c.v T->∃(c1:pt) (es:Array Event),stepG P true (G c.fr c.cl) (cQ c.v T)=.go (G c1.fr c1.cl) c1.v es)
  (h2:∀T (c1:pt) (es:Array Event),Below c.v T->stepG P true (G c.fr c.cl) (cQ c.v T)=.go (G c1.fr c1.cl) c1.v es->Reach P Stop c1):Reach P Stop c
def Reach.step{P:cA}{Stop:Frame->List Frame->cU}{c:pt}(h:∀T:Ta,Below c.v T->∃a b d f,stepG P true (G c.fr c.cl) (cQ c.v T)=.go (G a b) d f/\Reach P Stop ⟨a,b,d⟩):Reach P Stop c:=by refine .next (λT g=>?_) λT l f g e=>?_;obtain⟨a,b,d,f,e,_⟩:=h T g;exact⟨⟨a,b,d⟩,f,e⟩;obtain⟨a,b,d,m,n,o⟩:=h T g;rw[n]at e;injection e with p i q;injection p with j k;obtain⟨r,s,v⟩:=l;simp only at i j k;subst i j k;exact o
def Inv(P:cA)(c:pt):Prop:=∃a u b,Good P a/\(∀f,a.hole f=false)/\WR a c.v u/\qe P a [] (G c.fr c.cl) b
def WR.Rk{v u:cn}(h:WR R v u)(T:Ta):WR R (cQ v T) {u with tape:=λj q=>T (v.drawn+(j-u.drawn)) q}:=
 ⟨h.obj,h.low,λj q=>by show T (v.drawn+j) q=T (v.drawn+(u.drawn+j-u.drawn)) q;rw[Nat.add_sub_cancel_left]⟩
def HR.wr{v u:cn}(h:HR R v u):WR R v {u with tape:=λj q=>v.tape (v.drawn+(j-u.drawn)) q}:=
 ⟨h.obj,h.low,λj q=>by show v.tape (v.drawn+j) q=v.tape (v.drawn+(u.drawn+j-u.drawn)) q;rw[Nat.add_sub_cancel_left]⟩
theorem Inv.cQ{P:cA}{c:pt}(h:Inv P c)(T:Ta):Inv P {c with v:=cQ c.v T}:=by obtain⟨a,u,b,d,e,f,g⟩:=h;exact⟨a,_,b,d,e,f.Rk T,g⟩
theorem FL.frame{P:Program}{ρ:dm}(hh:∀f,ρ.hole f=false){fr uR:Frame}(h:FL P ρ fr uR):dQ P ρ fr uR:=by
 cases h with
 |fr h=>exact h
 |hole _ hf _=>rw[hh]at hf;cases hf
theorem Inv.callers{P:cA}{c:pt}(h:Inv P c):c.cl≠[]:=by obtain⟨f,u,g,i,j,k,b⟩:=h;obtain⟨X,l,e,_⟩:=b.callers;intro d;have a:c.cl=X++[floor]:=e;rw[d]at a;simp at a
def Inv.step{P:cA}{c:pt}(h:Inv P c):(∃o w a,stepG P true (G c.fr c.cl) c.v=.ended o w a)\/(∃e f a,stepG P true (G c.fr c.cl) c.v=.go e f a/\xx e)\/∃g i f a,stepG P true (G c.fr c.cl) c.v=.go (G g i) f a/\Inv P ⟨g,i,f⟩:=by
 obtain⟨B,u,C,n,p,y,q⟩:=h;have j:=FM n y q (q.fr.frame p) true true;revert j;generalize stepG P true (G c.fr c.cl) c.v=s;intro j;cases s with
 |go e f a=>
  rcases j with z|⟨k,l,D,A,_,⟨d,m⟩,b⟩;exact .inr (.inl ⟨e,f,a,rfl,z⟩);refine .inr (.inr ⟨e.frame,e.callers,f,a,?_,k,_,l,n.mono m.le,by rw[<-m.le.h];exact p,m.rel.hr.drawn.wr,?_⟩);obtain⟨E,F,H,I,J⟩:=e;have r:=b.st.1;have t:=b.dy.1;have x:=b.of.1;simp only at r t x;subst r t x;rfl;exact⟨b.fr,b.callers,⟨rfl,b.st.2⟩,⟨rfl,b.dy.2⟩,⟨rfl,b.of.2⟩⟩
 |ended o w a=>exact .inl ⟨o,w,a,rfl⟩
 |_=>exact j.elim
def Inv.xA{P:cA}{c:pt}(h:Inv P c):dz (λv=>stepG P true (G c.fr c.cl) v) c.v:=by have a:=h.callers;obtain⟨i,u,j,b,d,e,f⟩:=h;exact Rj (g:=G c.fr c.cl) b e a rfl (f.fr.frame d) true
def Comes(P:cA)(Stop:Frame->List Frame->cU)(c:pt):Prop:=
 ∀T,Below c.v T->∃n a b v,runN P n (lone c.fr c.cl (cQ c.v T))=.next (lone a b v)/\Stop a b v
section
variable{P:cA}{Stop:Frame->List Frame->cn->Prop}
def pu{c a:Frame}{d b:List Frame}{v e:cn}{f:Array Event}(h:stepG P true (G c d) v=.go (G a b) e f):Go.step P (lone c d v)=.next (lone a b e):=by refine step_lone_go ?_;have g:stepG P true {frame:=c,callers:=d,status:=.running,dying:=none} v=.go (G a b) e f:=h;rw[g];rfl
def nj{a:Frame}{b:List Frame}{v c:cn}{o:Outcome}{d:Array Event}(h:stepG P true (G a b) v=.ended o c d):Go.step P (lone a b v)=.ended o c:=by refine step_lone_ended ?_;have e:stepG P true {frame:=a,callers:=b,status:=.running,dying:=none} v=.ended o c d:=h;rw[e];rfl
structure S6(P:cA)(Stop:Frame->List Frame->cn->Prop)(c:pt):Prop where
 inv:Inv P c
 comes:Comes P Stop c
 not:¬Reach P Stop c
structure S7(P:cA)(c c1:pt)(T:Ta):Prop where
 below:Below c.v T
 tape:c1.v.tape=T
 le:c.v.drawn<=c1.v.drawn
 step:∀L,(∀j,c.v.drawn<=j->j<c1.v.drawn->L j=T j)->stepG P true (G c.fr c.cl) (cQ c.v L)=.go (G c1.fr c1.cl) (cQ c1.v L) (match stepG P true (G c.fr c.cl) (cQ c.v L)with| .go _ _ es=>es|_=>#[])
theorem S6.next(B:∀i g v,Stop i g v->g≠[])(C:∀c T,Inv P c->Stop c.fr c.cl c.v->Stop c.fr c.cl (cQ c.v T)){c:pt}(h:S6 P Stop c):∃N T,S7 P c N T/\S6 P Stop N:=by
 have Y:¬∀T:Ta,Below c.v T->∃b d f q,stepG P true (G c.fr c.cl) (cQ c.v T)=.go (G b d) f q/\Reach P Stop ⟨b,d,f⟩:=λZ=>h.not (.step Z);have r:∀T,¬Stop c.fr c.cl (cQ c.v T):=λT k=>h.not (.here (by have:=C {c with v:=cQ c.v T} c.v.tape (h.inv.cQ T) k;exact this))
 obtain⟨T,D⟩:=Classical.not_forall.1 Y;obtain⟨E,D⟩:=Classical.not_imp.1 D;have O:=h.inv.cQ T;obtain⟨n,i,g,v,a,k⟩:=h.comes T E;have t:∀{T i g v n},runN P n (lone c.fr c.cl (cQ c.v T))=.next (lone i g v)->Stop i g v->∃u,n=u+1:=by
  intro T i g v n a k;cases n with
  |zero=>
   exfalso;simp only[runN]at a;injection a with a;have s:c.fr=i/\c.cl=g/\cQ c.v T=v:=by unfold lone at a;injection a with s l;simp only[Ab,pZ]at l;have:=l.1;injection this with Q R;exact⟨Q,R,s⟩
   obtain⟨rfl,rfl,rfl⟩:=s;exact r T k
  |succ n=>exact⟨n,rfl⟩
 obtain⟨u,rfl⟩:=t a k;rcases O.step with⟨o,w,q,e⟩|⟨g1,f,q,e,S⟩|⟨b,d,f,q,e,x⟩;exfalso;simp only[runN,nj e]at a;cases a;exfalso;obtain⟨b,d,st,dy,of⟩:=g1;have F:=S;obtain⟨U,V,W,X,h4⟩:=S;simp only at W U V X h4;subst W U V X;have e':stepG P true (G c.fr c.cl) (cQ c.v T)=.go (G b []) f q:=e;simp only[runN,pu e']at a;cases u with
 |zero=>
  simp only[runN]at a;injection a with a;have s:[]=g:=by unfold lone at a;injection a with s l;simp only[Ab,pZ]at l;have:=l.1;injection this with Q R
  exact B _ _ _ k s.symm
 |succ n=>
  obtain⟨o,w',aa,l⟩:=F.ended (P:=P) true f;simp only[runN,nj (show stepG P true (G b []) f=_ from l)]at a;cases a
 have m:=O.xA;unfold dz at m;dsimp only at m;rw[e]at m;dsimp only at m;have p:∀L,(∀j,c.v.drawn<=j->j<f.drawn->L j=T j)->stepG P true (G c.fr c.cl) (cQ c.v L)=.go (G b d) (cQ f L) q:=λL H=>m.run L H;refine⟨⟨b,d,f⟩,T,⟨E,m.tape,m.le,λL H=>by rw[p L H]⟩,x,?_,λI=>D ⟨b,d,f,q,e,I⟩⟩;intro J y;have z:f.tape=T:=m.tape;have K:c.v.drawn<=f.drawn:=m.le;have M:Below c.v J:=λj A=>by rw[y j (dE A K)];show f.tape j=_;rw[z];exact E j A
 obtain⟨n,i,g,v,a,k⟩:=h.comes J M;obtain⟨u,rfl⟩:=t a k;have l:=p J λj _ A=>by rw[y j A];show f.tape j=_;rw[z]
 simp only[runN,pu l]at a;exact⟨u,i,g,v,a,k⟩
def qE(f:∀t s v,Stop t s v->s≠[])(d:∀c T,Inv P c->Stop c.fr c.cl c.v->Stop c.fr c.cl (cQ c.v T)){c:pt}(D:Inv P c)(h:Comes P Stop c):Reach P Stop c:=by
 refine Hq λp=>?_;have E:S6 P Stop c:=⟨D,h,p⟩;let a:Nat->{c:pt//S6 P Stop c}:=λn=>Nat.rec ⟨c,E⟩ (λ_ x=>⟨Classical.choose (x.2.next f d),(iN (iN (x.2.next f d))).2⟩) n;have z:(a 0).1=c:=rfl;have u:∀n,∃T,S7 P (a n).1 (a (n+1)).1 T:=λn=>⟨Classical.choose (iN ((a n).2.next f d)),(iN (iN ((a n).2.next f d))).1⟩;have mono:∀n k,(a n).1.v.drawn<=(a (n+k)).1.v.drawn:=by
  intro n k;induction k with
  |zero=>exact cJ _
  |succ k r=>
   obtain⟨T,i⟩:=u (n+k);exact cZ r i.le
 have e:∀n k j,j<(a n).1.v.drawn->(a (n+k)).1.v.tape j=(a n).1.v.tape j:=by
  intro n k j g;induction k with
  |zero=>rfl
  |succ k r=>
   obtain⟨T,i⟩:=u (n+k);rw[<-r,<-i.below j (dE g (mono n k))];show(a (n+k+1)).1.v.tape j=_;rw[i.tape]
 let L:Ta:=λj q=>open Classical in if l:∃n,j<(a n).1.v.drawn then(a (Classical.choose l)).1.v.tape j q else 0
 have A:∀n j,j<(a n).1.v.drawn->L j=(a n).1.v.tape j:=by intro n j g;funext q;have l:∃n,j<(a n).1.v.drawn:=⟨n,g⟩;show(open Classical in if l:∃n,j<(a n).1.v.drawn then(a (Classical.choose l)).1.v.tape j q else 0)=_;rw[dif_pos l];have B:=iN l;generalize Classical.choose l=m at B;rcases Nat.le_total m n with o|o;obtain⟨k,rfl⟩:=Nat.exists_eq_add_of_le o;rw[e m k j B];obtain⟨k,rfl⟩:=Nat.exists_eq_add_of_le o;rw[e n k j g]
 have w:∀n,∀k,runN P (n+k) (lone c.fr c.cl (cQ c.v L))=runN P k (lone (a n).1.fr (a n).1.cl (cQ (a n).1.v L)):=by
  intro n;induction n with
  |zero=>intro k;rw[cG];rfl
  |succ n r=>
   intro k;rw[show n+1+k=n+(k+1)from by omega,r (k+1)];obtain⟨T,i⟩:=u n;have:=i.step L λj _ g=>by rw[A (n+1) j g,i.tape]
   simp only[runN,pu this]
 obtain⟨k,t,s,v,F,G⟩:=h L λj g=>A 0 j g;have b:=w k 0;rw[mX,F]at b;simp only[runN]at b;injection b with b;have y:t=(a k).1.fr/\s=(a k).1.cl/\v=cQ (a k).1.v L:=by unfold lone at b;injection b with y C;simp only[Ab,pZ]at C;have:=C.1;injection this with H I;exact⟨H,I,y⟩
 obtain⟨rfl,rfl,rfl⟩:=y;refine(a k).2.not (.here ?_);have:=d {(a k).1 with v:=cQ (a k).1.v L} (a k).1.v.tape ((a k).2.inv.cQ L) G;exact this
end
end Go.cP
