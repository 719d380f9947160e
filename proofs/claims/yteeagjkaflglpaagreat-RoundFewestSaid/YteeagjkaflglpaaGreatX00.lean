/- Laws that the proof needs, part 0. Conditions: none. -/
import Derived.Conc.Own
import Derived.Test.YteeagjkaflglpaaGreatRows
import Derived.JoinedOf
import Derived.KernelRfl
import Derived.Conc.LeavingOf
import Derived.Carry
import Derived.ChangeSlices
import Derived.WideShapes
import Derived.Laws.Sem
import Derived.Conc.Events
import Derived.WalkKit
import Derived.WalkSpells
import Derived.WalkLawsBesides
import Derived.Conc.WgGenN3
set_option maxRecDepth 100000
set_option maxHeartbeats 8000000
set_option linter.all false
def xE:=@Array.all_eq_true_iff_forall_mem
def vE:=@Array.any_eq_true'
def DF:=@Array.ext'
def Ns:=@Array.ext_getElem?
def Nt:=@Array.foldl_toList
def Nu:=@Array.forIn_toList
def z0:=@Array.getD_eq_getD_getElem?
def wA:=@Array.getElem?_append_left
def zn:=@Array.getElem?_append_right
def lA:=@Array.getElem?_eq_getElem
def ou:=@Array.getElem?_eq_none
def ik:=@Array.getElem?_eq_some_iff
def tk:=@Array.getElem?_map
def oP:=@Array.getElem?_modify
def pA:=@Array.getElem?_push
def wB:=@Array.getElem?_replicate
def gm:=@Array.getElem?_setIfInBounds_ne
def mG:=@Array.getElem?_setIfInBounds_self_of_lt
def JR:=@Array.mapM_eq_mapM_toList
def Fe:=@Array.mem_append
def oQ:=@Array.mem_of_getElem?
def Cg:=@Array.mk.injEq
def vo:=@Array.size_append
def fE:=@Bool.and_eq_true
def jE:=@Bool.false_eq_true
def tl:=@Bool.not_eq_true'
def tn:=@Bool.or_eq_true
def Ff:=@Classical.byContradiction
def kQ:=@Classical.choose_spec
def wC:=@Function.comp_def
def kR:=@Go.Conc.Goes.stop
def nR:=@Iff.rfl
def Ci:=@Int.mul_nonneg
def sL:=@Int.toNat_natCast
def mO:=@List.all_eq_true
def sM:=@List.cons.injEq
def qp:=@List.cons_append
def qZ:=@List.drop_eq_getElem_cons
def nC:=@List.eq_nil_of_length_eq_zero
def Nv:=@List.exists_of_findSome?_eq_some
def Fg:=@List.filter_eq_nil_iff
def sN:=@List.flatMap_cons
def re:=@List.foldl_append
def nD:=@List.foldl_cons
def kL:=@List.getD_eq_getElem?_getD
def oR:=@List.getElem?_append_left
def ow:=@List.getElem?_append_right
def Cj:=@List.getElem?_cons_succ
def Ck:=@List.getElem?_cons_zero
def gC:=@List.getElem?_eq_getElem
def Cm:=@List.getElem?_eq_none
def kS:=@List.getElem?_eq_some_iff
def ng:=@List.getElem?_map
def Cn:=@List.getElem?_toArray
def nE:=@List.getElem_append_left
def sO:=@List.getElem_append_right
def Fh:=@List.getElem_cons_succ
def oy:=@List.getElem_cons_zero
def ft:=@List.getElem_mem
def jR:=@List.length_append
def gf:=@List.length_cons
def jU:=@List.length_map
def il:=@List.length_nil
def oS:=@List.length_set
def tp:=@List.length_take
def nS:=@List.map_append
def lK:=@List.map_cons
def rf:=@List.map_nil
def ja:=@List.mem_append
def gI:=@List.mem_cons
def gG:=@List.mem_cons_of_mem
def gD:=@List.mem_cons_self
def ku:=@List.mem_filter
def mH:=@List.mem_flatMap
def iX:=@List.mem_map
def rh:=@List.mem_of_getElem?
def sP:=@List.mem_or_eq_of_mem_set
def fT:=@List.mem_range
def gW:=@List.mem_singleton
def Co:=@List.mem_toArray
def sQ:=@List.nil_append
def tq:=@List.not_mem_nil
def JS:=@List.range'_succ
def nF:=@List.range_succ
def jw:=@List.size_toArray
def mI:=@List.take_length
def tu:=@List.take_of_length_le
def kM:=@List.take_succ_eq_append_getElem
def sR:=@Nat.add_assoc
def nT:=@Nat.add_zero
def yE:=@Nat.beq_refl
def jL:=@Nat.eq_of_beq_eq_true
def ri:=@Nat.eq_zero_or_pos
def sS:=@Nat.le_of_ble_eq_true
def eF:=@Nat.le_refl
def nh:=@Nat.le_succ
def Cp:=@Nat.le_succ_of_le
def ff:=@Nat.le_trans
def fN:=@Nat.lt_of_lt_of_le
def yF:=@Nat.lt_of_not_le
def gQ:=@Nat.lt_or_ge
def rJ:=@Nat.mul_le_mul_right
def nZ:=@Nat.mul_one
def xF:=@Nat.ne_of_beq_eq_false
def mj:=@Nat.sub_self
def eJ:=@Nat.zero_add
def iQ:=@Nat.zero_le
def jb:=@Ne.symm
def rK:=@Option.bind_eq_bind
def kI:=@Option.bind_eq_some_iff
def tv:=@Option.bind_some
def lT:=@Option.getD_some
def vF:=@Option.isSome_none
def jo:=@Option.map_eq_some_iff
def kT:=@Option.map_some
def eP:=@Option.some.inj
def iz:=@Option.some.injEq
def ml:=@Go.Sem.runT_eq
def pB:=@beq_iff_eq
def eX:=@congrArg
def jj:=@decide_eq_false
def lU:=@decide_eq_true_eq
def gy:=@if_false
def ez:=@if_neg
def eC:=@if_pos
def fF:=@if_true
def gJ:=@of_decide_eq_false
def fQ:=@of_decide_eq_true
def pC:=@or_false
def tw:=@Go.Conc.stepG_block
def jp:=@Go.Conc.stepG_region
def eI:=@Go.Conc.stepG_region_end
def eM:=@Go.Conc.stepG_seq
def gX:=@Go.Conc.stepG_skip
def mY:=@Go.wp_mono
def qH:=@Go.wp_region
def mK:=@Go.wp_seq
abbrev er:=Go.World
abbrev eu:=Go.Value
abbrev eA:=Go.Goroutine
abbrev eE:=Go.Program
abbrev eD:=Go.TypeId
abbrev fG:=Go.FuncId
abbrev fI:=Go.Operand
abbrev i64:=Go.Value.int .i64
abbrev eQ(b o:Nat):Go.Addr:=⟨b,o,none⟩
abbrev fp(b:Nat):Go.Value:=.pointer (some ⟨b,0,none⟩)
abbrev fP(b n c:Nat):Go.Value:=.slice (some ⟨b,0,none⟩) n c
abbrev ew:=List Nat
abbrev eN:=Nat->Prop
abbrev fR:=Option Go.Addr
abbrev fa:=Go.World->Prop
abbrev fD:=List Go.Value
abbrev fZ:=Array Go.Value
abbrev oz:=Go.Value->Go.World->Prop
abbrev iA:=List Int
abbrev gY(w:Go.World)(b:Nat)(a:Array Go.Value)(t:Go.TypeId):Prop:=w.heap[b]? =some (.cells a t)
abbrev oJ(b o:Nat):Go.Value:=.pointer (some ⟨b,o,none⟩)
abbrev Ie(b o n c:Nat):Go.Value:=.slice (some ⟨b,o,none⟩) n c
abbrev qh(b o:Nat):Option Go.Addr:=some ⟨b,o,none⟩
abbrev ig:Go.Value:=.slice none 0 0
abbrev jg:=Go.undef
abbrev Go.World.mN(w:Go.World):Nat:=w.heap.size
abbrev List.jK{a:Type}(l:List a):Nat:=l.length
variable{m k i j o p s d:Nat}{w t e:er}{x y z:eu}{T U:eD}{W X:Array eu}{M Y:List eu}{h:Go.Addr}{D E:Bool}{F:Go.Frame}{O Q:Go.Obj}{K:fG}{Z:eA}{P:eE}
namespace Go.Proofs.YteeagjkaflglpaaGreat
open Go.ChangeShapes Go.WideShapes Go.ChangeAt Go.RowKit Go.Conc
def z7:ew:=(List.range 883).map λi=>0x1bbbefdd2f26eebbe92e64c3be1d9979efdf9fd79c3dd7e5e7bf7e7f5e70f741932ebd986be4ddd77d25cc9877c3b32f3dfbf3faf387bafcbcf7efcfebce1ee839f7cb3b26eebbe92e64c3be1d9979efdf9fd79c3dd7e5e7bf7e7f5e70f741cf5ecc35f26eebbe92e64c3be1d9979efdf9fd79c3dd7e5e7bf7e7f5e70f741cf3ef9993775df4973261df0eccbcf7efcfebce1eebf2f3dfbf3faf387ba0e9cf0ccc9bbaefa4b9930ef87665e7bf7e7f5e70f75f979efdf9fd79c3dd072cbd3341c9bbaefa4b9930ef87665e7bf7e7f5e70f75f979efdf9fd79c3dd065eb1326eebbe92e64c3be1d9979efdf9fd79c3dd7e5e7bf7e7f5e70f741cf2ebc35326eebbe92e64c3be1d9979efdf9fd79c3dd7e5e7bf7e7f5e70f741932e4d3db4c4c9bbaefa4b9930ef87665e7bf7e7f5e70f75f979efdf9fd79c3dd074e797a72dfa29e4ddd77d25cc9877c3b32f3dfbf3faf387bafcbcf7efcfebce1ee839eed39f2c2c9bbaefa4b9930ef87665e7bf7e7f5e70f75f979efdf9fd79c3dd074e7be664ddd77d25cc9877c3b32f3dfbf3faf387bafcbcf7efcfebce1ee83265e59716debbb2d2c9bbaefa4b9930ef87665e7bf7e7f5e70f75f979efdf9fd79c3dd072cba79e18b93775df4973261df0eccbcf7efcfebce1eebf2f3dfbf3faf387ba0e99b2ccc9bbaefa4b9930ef87665e7bf7e7f5e70f75f979efdf9fd79c3dd072cbd30ccc9bbaefa4b9930ef87665e7bf7e7f5e70f75f979efdf9fd79c3dd064cbdb965a793775df4973261df0eccbcf7efcfebce1eebf2f3dfbf3faf387ba0e9cf2f7cb1b26eebbe92e64c3be1d9979efdf9fd79c3dd7e5e7bf7e7f5e70f741cf761d94326eebbe92e64c3be1d9979efdf9fd79c3dd7e5e7bf7e7f5e70f741932f3e597b65a593775df4973261df0eccbcf7efcfebce1eebf2f3dfbf3faf387ba0e797b72cb4f26eebbe92e64c3be1d9979efdf9fd79c3dd7e5e7bf7e7f5e70f741d30a0e9d71a064cb2e362df132cadd8b460e33316ce596272ddb32c2e30b962e19e4c6d7333c4d5be560d9ce36199cb372d5937cad9bb0c787132c98593941cf9e5ddcb0e8/128^i%128
def UI:Tryz.pinned.checked.prog.initOrder=String.ofList (z7.map Char.ofNat):=by kernel_rfl
def Qx:Tryz.pinned.checked.prog.initOrder.toList=z7.map Char.ofNat:=by rw[UI,String.toList_ofList]
def Qy:(behindMainWord (wordsSigns (z7.map Char.ofNat))).head?=some "cut".toList:=by kernel_rfl
def Qz:∃r,behindMainWord (wordsSigns (z7.map Char.ofNat))= "cut".toList::r:=by
 have h:=Qy;revert h;generalize behindMainWord (wordsSigns (z7.map Char.ofNat))=l;intro h;cases l with
 |nil=>cases h
 |cons x r=>exact⟨r,by rw[eP h]⟩
def t1:("cut".toList== "gc".toList)=false:=by kernel_rfl
def t2:("cut".toList== "spec".toList)=false:=by kernel_rfl
def t3:("cut".toList== "cut".toList)=true:=by kernel_rfl
def t4:("cut".toList== "carried".toList)=false:=by kernel_rfl
def t5(r:List (List Char)):(stripLifts liftWords ("cut".toList::r))=([], "cut".toList::r):=by kernel_rfl
def t9:((some "cut".toList:Option (List Char))==some "cut".toList)=true:=by kernel_rfl
def t10:([]:List String).contains "finals" =false:=by kernel_rfl
def t11:([]:List String).contains "reflectrows" =false:=by kernel_rfl
def t12:([]:List String).contains "leanrows" =false:=by kernel_rfl
def QA(P:eE)(r:List (List Char))(h:behindMainWord (wordsSigns P.initOrder.toList)= "cut".toList::r):P.make=some .cut:=by unfold Program.make;rw[h];dsimp only;rw[t1,t2,t3,Bool.or_self,ez Bool.false_ne_true,Bool.true_or,eC rfl]
def Fi(P:eE)(r:List (List Char))(h:behindMainWord (wordsSigns P.initOrder.toList)= "cut".toList::r)(a:P.laysLater=false)(b:P.bearsReflect=false)(c:P.doorFits []=true):P.mayEnter=true:=by unfold Program.mayEnter;rw[h];dsimp only;rw[t5,t1,t2,t4,a,b,c];dsimp only;rw[List.head?_cons,t9,t10,t11,t12];rfl
def BW(P:eE)(r:List (List Char))(h:behindMainWord (wordsSigns P.initOrder.toList)= "cut".toList::r):P.liftsFinal=false:=by unfold Program.liftsFinal Program.headLifts;rw[h];kernel_rfl
def DG:∃r,behindMainWord (wordsSigns Tryz.pinned.checked.prog.initOrder.toList)= "cut".toList::r:=by rw[Qx];exact Qz
def t6:Tryz.pinned.checked.prog.laysLater=false:=by kernel_rfl
def t7:Tryz.pinned.checked.prog.bearsReflect=false:=by kernel_rfl
def t8:Tryz.pinned.checked.prog.doorFits []=true:=by kernel_rfl
def QB:Tryz.pinned.checked.prog.mayEnter=true:=DG.elim λr h=>Fi _ r h t6 t7 t8
def Nw:Tryz.pinned.checked.prog.liftsFinal=false:=DG.elim λr h=>BW _ r h
def Ny:Tryz.pinned.checked.prog.make=some .cut:=DG.elim λr h=>QA _ r h
def mZ(h:D=true)(k:E=true):(D&&E)=true:=by rw[h,k];rfl
def Tryz.own:ownKnob Tryz.prog.godebug=none:=by kernel_rfl
def Tryz.laidOut:laidOutB Tryz.prog=true:=by kernel_rfl
def Tryz.Tx:Tryz.prog.cellsOf 3=1:=by kernel_rfl
def Tryz.wD:Tryz.prog.underlying 27=some (.slice 3):=by kernel_rfl
def Tryz.QC:Tryz.prog.underlying 3=some (.int .i64):=by kernel_rfl
def Tryz.VN:Tryz.prog.underlying 4=some .bool:=by kernel_rfl
def Ln{r:Reach}(b:P.underlying T=some (.slice U))(a:Value.okWide P w r m T (.slice (some h) k i)):h.spot=none/\∃x,w.shape? h.block=some x:=by simp only[Value.okWide,b,Cell.okWide,Cell.ok]at a;obtain⟨_,_,_,c,d,cells,e,_⟩:=a;exact⟨c,_,e⟩
def t14:(Rows.roundFewestRow.lifted==false)=true:=by kernel_rfl
def QD:(Rows.roundFewestRow.lifted==Tryz.pinned.checked.prog.liftsFinal)=true:=(eX (λx=>Rows.roundFewestRow.lifted==x) Nw).trans t14
def t13:(some Make.cut==some Rows.roundFewestRow.make)=true:=by kernel_rfl
def QE:(Tryz.pinned.checked.prog.make==some Rows.roundFewestRow.make)=true:=(eX (λx=>x==some Rows.roundFewestRow.make) Ny).trans t13
def Ig:joinedFacts Tryz.pinned.checked.prog 6 Tryz.f6 Rows.roundFewestSpec Rows.roundFewestRow=true:=by unfold joinedFacts;exact(mZ (mZ (mZ (mZ (mZ (mZ (mZ (mZ (mZ (mZ (mZ (mZ (mZ (mZ (mZ (mZ (mZ (mZ (mZ (mZ (mZ (mZ (mZ (mZ (mZ (mZ (mZ (mZ (mZ (mZ (mZ (by kernel_rfl) (by kernel_rfl)) (by kernel_rfl)) (by kernel_rfl)) (by kernel_rfl)) (by kernel_rfl)) (by kernel_rfl)) (by kernel_rfl)) (by kernel_rfl)) (by kernel_rfl)) (by kernel_rfl)) (by kernel_rfl)) (by kernel_rfl)) (by kernel_rfl)) (by kernel_rfl)) (by kernel_rfl)) (by kernel_rfl)) (by kernel_rfl)) (by kernel_rfl)) (by kernel_rfl)) (by kernel_rfl)) (by kernel_rfl)) (by kernel_rfl)) (by kernel_rfl)) (by kernel_rfl)) QB) QD) QE) (by kernel_rfl)) (by kernel_rfl)) (by kernel_rfl)) (by kernel_rfl))
end Go.Proofs.YteeagjkaflglpaaGreat
namespace Go.Proofs.W
def mn(n:Nat):Code->Option Code
 | .region i o b=>if i=n then some (.region i o b)else none
 | .loop c=>mn n c
 | .seq a b=>(mn n a).or (mn n b)
 | .block _ c=>mn n c
 | .scope c=>mn n c
 | .cond _ a b=>(mn n a).or (mn n b)
 |_=>none
def opsOf:Code->Array Oper
 | .region _ a _=>a
 |_=>#[]
def jh(a:Func)(n:Nat):Code:=(a.body.bind (mn n)).getD .skip
end Go.Proofs.W
namespace Go.eV
structure fj where
 S:fG->Bool
 dim:Bool
 ok:fG->Code->Bool
 df:fG->Bool
 fs:Array Func
 hole:fG->Bool
 sh:Nat->Option Nat:=λ_=>none
 r:Nat->Nat->Prop
 oK:∀b c c',r b c->r b c'->c=c'
 qI:∀b b' c,r b c->r b' c->b=b'\/(sh b≠none/\sh b'≠none)
structure fj.Le(ρ H4:fj):Prop where
 s:ρ.S=H4.S
 d:ρ.dim=H4.dim
 o:ρ.ok=H4.ok
 f:ρ.fs=H4.fs
 h:ρ.hole=H4.hole
 w:ρ.df=H4.df
 g:ρ.sh=H4.sh
 r:∀b c,ρ.r b c->H4.r b c
def fj.Le.refl(ρ:fj):fj.Le ρ ρ:=⟨rfl,rfl,rfl,rfl,rfl,rfl,rfl,λ_ _ h=>h⟩
theorem fj.Le.trans{a b c:fj}(h:fj.Le a b)(k:fj.Le b c):fj.Le a c:=⟨h.s.trans k.s,h.d.trans k.d,h.o.trans k.o,h.f.trans k.f,h.h.trans k.h,h.w.trans k.w,h.g.trans k.g,λx y z=>k.r _ _ (h.r x y z)⟩
def fj.ext(ρ:fj)(n m:Nat)(d:∀c,¬ρ.r n c)(e:∀b,¬ρ.r b m):fj where
 S:=ρ.S
 dim:=ρ.dim
 ok:=ρ.ok
 df:=ρ.df
 fs:=ρ.fs
 hole:=ρ.hole
 sh:=ρ.sh
 r:=λb c=>ρ.r b c\/(b=n/\c=m)
 oK:=by intro b c f h a;obtain h|h:=h;obtain a|a:=a;exact ρ.oK _ _ _ h a;rw[a.1]at h;exact absurd h (d _);obtain a|a:=a;rw[h.1]at a;exact absurd a (d _);rw[h.2,a.2]
 qI:=by intro b c f h a;obtain h|h:=h;obtain a|a:=a;exact ρ.qI _ _ _ h a;rw[a.2]at h;exact absurd h (e _);obtain a|a:=a;rw[h.2]at a;exact absurd a (e _);exact .inl (by rw[h.1,a.1])
@[simp] def fj.VO (ρ:fj) (n m:Nat) (a:∀c,¬ρ.r n c) (d:∀b,¬ρ.r b m):(ρ.ext n m a d).fs=ρ.fs:=rfl
def fj.vG(ρ:fj)(n m:Nat)(a:∀c,¬ρ.r n c)(d:∀b,¬ρ.r b m):fj.Le ρ (ρ.ext n m a d):=⟨rfl,rfl,rfl,rfl,rfl,rfl,rfl,λ_ _ h=>.inl h⟩
def fj.uI(ρ:fj)(n m:Nat)(a:∀c,¬ρ.r n c)(d:∀b,¬ρ.r b m):(ρ.ext n m a d).r n m:=.inr ⟨rfl,rfl⟩
def fj.Def(ρ:fj):Prop:=∃f,ρ.df f=true
def fj.Def.mono{ρ a:fj}(b:fj.Le ρ a)(h:ρ.Def):a.Def:=by obtain⟨f,h⟩:=h;exact⟨f,b.w▸h⟩
def vp(ρ:fj)(v:eu):Prop:=ρ.Def\/∀t k n,v≠ .iface t (.int k n)
theorem vp.mono{ρ a:fj}(b:fj.Le ρ a)(h:vp ρ x):vp a x:=h.imp (.mono b) id
inductive AR (ρ:fj):Addr->Addr->Prop
 |mk {b c:Nat} (o:Nat) (s:Option Nat) (h:ρ.r b c):AR ρ ⟨b,o,s⟩ ⟨c,o+(ρ.sh b).getD 0,s⟩
inductive VR (ρ:fj):eu->eu->Prop
 |bool (b:Bool):VR ρ (.bool b) (.bool b)
 |int (k:IntKind) (n:Int):VR ρ (.int k n) (.int k n)
 |string (s:ByteArray):VR ρ (.string s) (.string s)
 |kU:VR ρ (.pointer none) (.pointer none)
 |ptr {a a':Addr} (h:AR ρ a a'):VR ρ (.pointer (some a)) (.pointer (some a'))
 |iR (l c:Nat):VR ρ (.slice none l c) (.slice none l c)
 |slice {a a':Addr} (l c:Nat) (h:AR ρ a a'):VR ρ (.slice (some a) l c) (.slice (some a') l c)
 |tx:VR ρ (.map none) (.map none)
 |map {r r':Nat} (h:ρ.r r r'):VR ρ (.map (some r)) (.map (some r'))
 |rL:VR ρ (.chan none) (.chan none)
 |chan {r r':Nat} (h:ρ.r r r'):VR ρ (.chan (some r)) (.chan (some r'))
 |func {f:fG} {fs VP cs vH:Array eu} (hS:ρ.S f=true) (h1:fs.size=VP.size) (h2:∀(i:Nat) v v',fs[i]? =some v->VP[i]? =some v'->VR ρ v v')
  (h3:cs.size=vH.size) (h4:∀(i:Nat) v v',cs[i]? =some v->vH[i]? =some v'->VR ρ v v'):VR ρ (.func (.func f) fs cs) (.func (.func f) VP vH)
 |yield {l l':Nat} (h:ρ.r l l'):VR ρ (.func (.yield l) #[] #[]) (.func (.yield l') #[] #[])
 |nilFunc:VR ρ .nilFunc .nilFunc
 |nilIface:VR ρ .nilIface .nilIface
 |iface (t:eD) {v v':eu} (h:VR ρ v v'):VR ρ (.iface t v) (.iface t v')
 |agg {cs vH:Array eu} (h1:cs.size=vH.size) (h2:∀(i:Nat) v v',cs[i]? =some v->vH[i]? =some v'->VR ρ v v'):VR ρ (.agg cs) (.agg vH)
 |tuple {cs vH:Array eu} (h1:cs.size=vH.size) (h2:∀(i:Nat) v v',cs[i]? =some v->vH[i]? =some v'->VR ρ v v'):VR ρ (.tuple cs) (.tuple vH)
 |DI (hd:ρ.dim=true) (a:Addr):VR ρ (.tuple #[]) (.pointer (some a))
structure iD(ρ:fj)(cs vH:Array eu):Prop where
 size:cs.size=vH.size
 at_:∀(i:Nat) v v',cs[i]? =some v->vH[i]? =some v'->VR ρ v v'
inductive sU (ρ:fj):List eu->List eu->Prop
 |nil:sU ρ [] []
 |cons {v v':eu} {l l':List eu} (h:VR ρ v v') (t:sU ρ l l'):sU ρ (v::l) (v'::l')
theorem sU.length{ρ:fj}(h:sU ρ M Y):M.length=Y.length:=by
 induction h with
 |nil=>rfl
 |cons _ _ a=>simp[a]
def sU.get{ρ:fj}(h:sU ρ M Y):∀(i:Nat) v a,M[i]? =some v->Y[i]? =some a->VR ρ v a:=by
 induction h with
 |nil=>intro i v a h;simp at h
 |cons h t d=>
  intro i v a b c;cases i with
  |zero=>simp at b c;subst b;subst c;exact h
  |succ i=>simp at b c;exact d i v a b c
theorem sU.of{ρ:fj}:∀{l a:fD},l.length=a.length->(∀(i:Nat) v b,l[i]? =some v->a[i]? =some b->VR ρ v b)->sU ρ l a
 |[],[],_,_=>.nil
 |[],_::_,h,_=>by simp at h
 |_::_,[],h,_=>by simp at h
 |v::l,b::a,h,k=>.cons (k 0 v b rfl rfl) (sU.of (by simpa using h) λi x c d e=>k (i+1) x c (by simpa using d) (by simpa using e))
def iD.list{ρ:fj}(h:iD ρ W X):sU ρ W.toList X.toList:=
 sU.of (by simpa using h.size) λi v a b c=>h.at_ i v a (by simpa using b) (by simpa using c)
def sU.array{ρ:fj}(h:sU ρ M Y):iD ρ M.toArray Y.toArray:=
 ⟨by simpa using h.length,λi v a b c=>h.get i v a (by simpa using b) (by simpa using c)⟩
def iD.oX{ρ:fj}(h:sU ρ W.toList X.toList):iD ρ W X:=by have:=h.array;simpa using this
def sU.append{ρ:fj}{b a:fD}(h:sU ρ M Y)(k:sU ρ b a):sU ρ (M++b) (Y++a):=by
 induction h with
 |nil=>exact k
 |cons h _ c=>exact .cons h c
theorem sU.drop{ρ:fj}(h:sU ρ M Y)(n:Nat):sU ρ (M.drop n) (Y.drop n):=by
 induction h generalizing n with
 |nil=>simp;exact .nil
 |cons h t a=>
  cases n with
  |zero=>simpa using sU.cons h t
  |succ n=>simpa using a n
theorem sU.take{ρ:fj}(h:sU ρ M Y)(n:Nat):sU ρ (M.take n) (Y.take n):=by
 induction h generalizing n with
 |nil=>simp;exact .nil
 |cons h t a=>
  cases n with
  |zero=>simp;exact .nil
  |succ n=>simpa using sU.cons h (a n)
def VR.mono{ρ f:fj}(e:fj.Le ρ f)(h:VR ρ x y):VR f x y:=by
 have m:∀{a p},AR ρ a p->AR f a p:=λh=>by cases h with|mk o s h=>rw[e.g];exact .mk o s (e.r _ _ h)
 induction h with
 |bool b=>exact .bool b
 |int k n=>exact .int k n
 |string s=>exact .string s
 |kU=>exact .kU
 |ptr h=>exact .ptr (m h)
 |iR l c=>exact .iR l c
 |slice l c h=>exact .slice l c (m h)
 |tx=>exact .tx
 |map h=>exact .map (e.r _ _ h)
 |rL=>exact .rL
 |chan h=>exact .chan (e.r _ _ h)
 |func q i _ u _ j v=>exact .func (e.s▸q) i j u v
 |yield h=>exact .yield (e.r _ _ h)
 |nilFunc=>exact .nilFunc
 |nilIface=>exact .nilIface
 |iface t _ w=>exact .iface t w
 |agg i _ j=>exact .agg i j
 |tuple i _ j=>exact .tuple i j
 |DI z a=>exact .DI (e.d▸z) a
theorem iD.mono{ρ c:fj}(d:fj.Le ρ c)(h:iD ρ W X):iD c W X:=⟨h.size,λi x e a b=>(h.at_ i x e a b).mono d⟩
theorem sU.mono{ρ a:fj}(b:fj.Le ρ a)(h:sU ρ M Y):sU a M Y:=by
 induction h with
 |nil=>exact .nil
 |cons h _ c=>exact .cons (h.mono b) c
def AR.mono{ρ a:fj}(b:fj.Le ρ a){d:Addr}(c:AR ρ h d):AR a h d:=by cases c with|mk o s c=>rw[b.g];exact .mk o s (b.r _ _ c)
section
variable{ρ:fj}
theorem AR.add{a b:Addr}(h:AR ρ a b)(n:Nat):AR ρ (a.add n) (b.add n):=by
 cases h with
 |mk o s h=>
  unfold Addr.add;split;exact .mk o s h;have:=AR.mk (ρ:=ρ) (o+n) none h;rw[Nat.add_right_comm]at this;exact this
def AR.of(o:Nat)(s:Option Nat)(h:ρ.r m k)(a:ρ.sh m=none):AR ρ ⟨m,o,s⟩ ⟨k,o,s⟩:=by have:=AR.mk (ρ:=ρ) o s h;rwa[a]at this
theorem VR.undef:VR ρ undef undef:=.tuple rfl (λi v a h=>by simp at h)
def iD.nil:iD ρ #[] #[]:=⟨rfl,λi v a h=>by simp at h⟩
def iD.one(h:VR ρ x y):iD ρ #[x] #[y]:=iD.oX (.cons h .nil)
def iD.Nz{a:eu}(h:VR ρ x y)(k:VR ρ z a):iD ρ #[x,z] #[y,a]:=iD.oX (.cons h (.cons k .nil))
theorem iD.push(h:iD ρ W X)(k:VR ρ x y):iD ρ (W.push x) (X.push y):=
 iD.oX (by simpa using h.list.append (.cons k .nil))
theorem iD.append{b a:fZ}(h:iD ρ W X)(k:iD ρ b a):iD ρ (W++b) (X++a):=
 iD.oX (by simpa using h.list.append k.list)
def iD.get?(h:iD ρ W X)(i:Nat):(W[i]? =none/\X[i]? =none)\/∃v c,W[i]? =some v/\X[i]? =some c/\VR ρ v c:=by by_cases b:i<W.size;have a:i<X.size:=h.size▸b;exact .inr ⟨W[i],X[i],lA b,lA a,h.at_ i _ _ (lA b) (lA a)⟩;have a:¬i<X.size:=h.size▸b;exact .inl ⟨ou (by omega),ou (by omega)⟩
theorem iD.getD(h:iD ρ W X)(k:VR ρ x y)(i:Nat):VR ρ (W.getD i x) (X.getD i y):=by
 have e:∀(a:fZ) (x:eu),a.getD i x=(a[i]?).getD x:=λa x=>by simp[z0]
 rw[e,e];obtain⟨a,b⟩|⟨v,d,a,b,c⟩:=h.get? i;rw[a,b];exact k;rw[a,b];exact c
def iD.set(h:iD ρ W X)(i:Nat)(k:VR ρ x y):iD ρ (W.setIfInBounds i x) (X.setIfInBounds i y):=by refine⟨by simpa using h.size,λj d e a b=>?_⟩;rw[Array.getElem?_setIfInBounds]at a b;by_cases c:i=j;subst c;rw[eC rfl]at a b;split at a;split at b;cases a;cases b;exact k;cases b;cases a;rw[ez c]at a b;exact h.at_ j d e a b
theorem iD.replicate(n:Nat)(k:VR ρ x y):iD ρ (Array.replicate n x) (Array.replicate n y):=by refine⟨by simp,λj c d a b=>?_⟩;rw[wB]at a b;split at a;cases a;rename_i h;rw[eC h]at b;cases b;exact k;cases a
theorem iD.extract(h:iD ρ W X)(a b:Nat):iD ρ (W.extract a b) (X.extract a b):=by refine⟨by simp[h.size],λj x e c d=>?_⟩;rw[Array.getElem?_extract]at c d;split at c;split at d;exact h.at_ _ _ _ c d;cases d;cases c
theorem iD.map{c:Type}(f d:c->eu)(a:Array c)(h:∀x∈a,VR ρ (f x) (d x)):iD ρ (a.map f) (a.map d):=by refine⟨by simp,λj x i e b=>?_⟩;rw[tk]at e b;obtain⟨y,g,rfl⟩:=jo.1 e;rw[g]at b;cases b;exact h y (oQ g)
theorem VR.cells{v a:eu}(h:VR ρ v a):iD ρ v.cells a.cells:=by
 cases h<;>first
  |exact iD.one (by first|exact .bool _|exact .int _ _|exact .string _|exact .kU|exact .ptr ‹_›|exact .iR _ _|exact .slice _ _ ‹_›|exact .tx|exact .map ‹_›|exact .rL|exact .chan ‹_›|exact .func ‹_› ‹_› ‹_› ‹_› ‹_›|exact .yield ‹_›|exact .nilFunc|exact .nilIface|exact .iface _ ‹_›|exact .tuple ‹_› ‹_›|exact .DI ‹_› _)
  |exact⟨‹_›,‹_›⟩
theorem iD.agg{b a:fZ}(h:iD ρ b a):VR ρ (.agg b) (.agg a):=.agg h.size h.at_
def iD.Wx(h:iD ρ W X):VR ρ (.tuple W) (.tuple X):=.tuple h.size h.at_
end
end Go.eV
variable{R:Go.eV.fj}
namespace Go.eV
structure vI(ρ:fj)(e e':MapEntry):Prop where
 key:VR ρ e.key e'.key
 val:VR ρ e.val e'.val
 born:e.born=e'.born
structure Fj(ρ:fj)(l l':Loop):Prop where
 state:l.state=l'.state
 pending:l.pending=l'.pending
 fn:l.fn=l'.fn
 tmps:iD ρ l.tmps l'.tmps
 params:l.params=l'.params
 assign:l.assign=l'.assign
 body:l.body=l'.body
 defers:ρ.r l.defers l'.defers
 fnS:ρ.S l.fn=true
 okA:ρ.ok l.fn l.assign=true
 okB:ρ.ok l.fn l.body=true
 okP:∀c,l.pending=some c->∀f,ρ.ok f c=true
 hd:ρ.df l.fn=false
 fnH:ρ.hole l.fn=false
def Fl(b:Nat×Nat)(a:Nat):Prop:=b.1<=a/\a<b.2
inductive mq (ρ:fj):Obj->Obj->Prop
 |cells {cs vH:Array eu} {t:eD} {fz Vy:Nat×Nat} (h:iD ρ cs vH) (hf:∀off,Fl Vy off->Fl fz off):mq ρ (.cells cs t fz) (.cells vH t Vy)
 |map {es VQ:Array MapEntry} {c:Nat} (h1:es.size=VQ.size) (h2:∀(i:Nat) e e',es[i]? =some e->VQ[i]? =some e'->vI ρ e e'):mq ρ (.map es c) (.map VQ c)
 |loop {l l':Loop} (h:Fj ρ l l'):mq ρ (.loop l) (.loop l')
 |wE:mq ρ (.deferred (some [])) (.deferred (some []))
 |taken:mq ρ (.deferred none) (.deferred none)
 |number {a a':Addr} (l:Bool) (h:AR ρ a a'):mq ρ (.number a l) (.number a' l)
theorem vI.mono{a:fj}(b:fj.Le R a){e c:MapEntry}(h:vI R e c):vI a e c:=⟨h.key.mono b,h.val.mono b,h.born⟩
theorem Fj.mono{b:fj}(a:fj.Le R b){e c:Loop}(h:Fj R e c):Fj b e c:=
 ⟨h.state,h.pending,h.fn,h.tmps.mono a,h.params,h.assign,h.body,a.r _ _ h.defers,a.s▸h.fnS,a.o▸h.okA,a.o▸h.okB,a.o▸h.okP,a.w▸h.hd,a.h▸h.fnH⟩
theorem mq.mono{d:fj}(c:fj.Le R d)(h:mq R O Q):mq d O Q:=by
 cases h with
 |cells h f=>exact .cells (h.mono c) f
 |map g j=>exact .map g λi e k a b=>(j i e k a b).mono c
 |loop h=>exact .loop (h.mono c)
 |wE=>exact .wE
 |taken=>exact .taken
 |number l h=>exact .number l (h.mono c)
def vJ:eD:=1000000007
structure UJ(ρ:fj)(n:Nat)(o o':Obj):Prop where
 out:∃cs fz vH t' Vy,o=.cells cs vJ fz/\o'=.cells vH t' Vy/\(∀off,off<cs.size->Fl fz off)/\∀(i:Nat) x,cs[i]? =some x->∃x',vH[i+n]? =some x'/\VR ρ x x'
def JU(a:fj)(m:Option Nat)(o b:Obj):Prop:=(m=none/\mq a o b)\/∃n,m=some n/\UJ a n o b
theorem UJ.mono{a:fj}(b:fj.Le R a)(h:UJ R m O Q):UJ a m O Q:=by obtain⟨e,f,c,g,d,j,k,l,n⟩:=h.out;exact⟨e,f,c,g,d,j,k,l,λi x o=>by obtain⟨p,q,r⟩:=n i x o;exact⟨p,q,r.mono b⟩⟩
theorem JU.mono{a:fj}(b:fj.Le R a){n:Option Nat}(h:JU R n O Q):JU a n O Q:=h.imp (λx=>⟨x.1,x.2.mono b⟩) λ⟨n,e,x⟩=>⟨n,e,x.mono b⟩
structure HR(ρ:fj)(v u:er):Prop where
 obj:∀b c,ρ.r b c->∃o o',v.heap[b]? =some o/\u.heap[c]? =some o'/\JU ρ (ρ.sh b) o o'
 low:∀b,v.heap.size<=b->ρ.sh b=none
def HR.of(d:∀c,R.sh c=none)(h:∀b c,R.r b c->∃o a,w.heap[b]? =some o/\t.heap[c]? =some a/\mq R o a):HR R w t:=⟨λb c e=>by obtain⟨o,a,f,g,i⟩:=h b c e;exact⟨o,a,f,g,.inl ⟨d b,i⟩⟩,λc _=>d c⟩
structure WR(ρ:fj)(v u:er):Prop where
 obj:∀b c,ρ.r b c->∃o o',v.heap[b]? =some o/\u.heap[c]? =some o'/\JU ρ (ρ.sh b) o o'
 low:∀b,v.heap.size<=b->ρ.sh b=none
 tape:∀j q,v.tape (v.drawn+j) q=u.tape (u.drawn+j) q
def WR.hr(h:WR R w t):HR R w t:=⟨h.obj,h.low⟩
def lt_of_heap(h:w.heap[m]? =some O):m<w.heap.size:=(ik.1 h).1
def zo(v:er)(b:Nat):Prop:=∃c t d,v.heap[b]? =some (.cells c t d)/\∀a,a<c.size->Fl d a
def VS(d:fj)(v:er)(n m:Nat)(e:Event):Prop:=
 (∃a c b,e=⟨.cell a,c,false⟩/\d.r b a.block/\(∃f t g,v.heap[b]? =some (.cells f t g)/\f≠#[])/\(c=true->¬zo v b))\/
 (∃r c b,e=⟨.obj r,c,false⟩/\d.r b r/\¬zo v b)\/(∃a c,e=⟨.cell a,c,false⟩/\n<=a.block/\a.block<m)\/(∃r c,e=⟨.obj r,c,false⟩/\n<=r/\r<m)\/
 e=⟨.mark .noRoom,false,true⟩
structure im(ρ H4:fj)(v u v' u':er)(es:Array Event):Prop where
 le:fj.Le ρ H4
 rel:WR H4 v' u'
 vsize:v.heap.size<=v'.heap.size
 usize:u.heap.size<=u'.heap.size
 fresh:∀b c,H4.r b c->ρ.r b c\/(v.heap.size<=b/\u.heap.size<=c)
 same:∀c,c<u.heap.size->(∀b,ρ.r b c->zo v b)->u'.heap[c]? =u.heap[c]?
 ww:∀b,zo v b->v'.heap[b]? =v.heap[b]?
 warm:∀b,b<v.heap.size->zo v' b->zo v b
 rows:∀b,b<v.heap.size->(∃cs t fz,v'.heap[b]? =some (.cells cs t fz)/\cs≠#[])->∃cs t fz,v.heap[b]? =some (.cells cs t fz)/\cs≠#[]
 tape:u'.tape=u.tape
 os:u'.os=u.os
 output:u'.output=u.output
 vtape:v'.tape=v.tape
 evs:∀e∈es,VS ρ v u.heap.size u'.heap.size e
def zo.keep(h:zo w m)(k:t.heap[m]? =w.heap[m]?):zo t m:=by unfold zo at*;rwa[k]
def zo.lt(h:zo w m):m<w.heap.size:=by obtain⟨_,_,_,h,_⟩:=h;exact lt_of_heap h
theorem im.refl(h:WR R w t):im R R w t w t #[]:=
 ⟨.refl _,h,eF _,eF _,λ_ _ h=>.inl h,λ_ _ _=>rfl,λ_ _=>rfl,λ_ _ h=>h,λ_ _ h=>h,rfl,rfl,rfl,rfl,λe a=>by simp at a⟩
theorem im.trans{i l:fj}{G u p:er}{H v:Array Event}(K:WR R w t)(h:im R i w t e G H)(k:im i l e G u p v):im R l w t u p (H++v):=by
 have C:∀b c,i.r b c->c<t.heap.size->R.r b c:=λb c d y=>(h.fresh b c d).elim id λx=>by omega
 have I:∀b c,i.r b c->b<w.heap.size->R.r b c:=λb c d y=>(h.fresh b c d).elim id λx=>by omega
 refine⟨h.le.trans k.le,k.rel,ff h.vsize k.vsize,ff h.usize k.usize,λb c d=>?_,λc y g=>?_,λb m=>?_,λb m g=>?_,λb m L=>h.rows b m (k.rows b (fN m h.vsize) L),k.tape.trans h.tape,k.os.trans h.os,k.output.trans h.output,
  k.vtape.trans h.vtape,λJ z=>?_⟩
 obtain j|⟨j,B⟩:=k.fresh b c d;exact h.fresh b c j;exact .inr ⟨ff h.vsize j,ff h.usize B⟩;rw[k.same c (fN y h.usize) λb d=>?_,h.same c y g];have A:=g b (C b c d y);exact A.keep (h.ww b A);have:=h.ww b m;rw[k.ww b (m.keep this),this];exact h.warm b m (k.warm b (fN m h.vsize) g);obtain z|z:=Fe.1 z;obtain⟨a,f,b,rfl,d,D,g⟩|⟨r,f,b,rfl,d,g⟩|⟨a,f,rfl,q,s⟩|⟨r,f,rfl,q,s⟩|rfl:=h.evs J z;exact .inl ⟨a,f,b,rfl,d,D,g⟩;exact .inr (.inl ⟨r,f,b,rfl,d,g⟩);exact .inr (.inr (.inl ⟨a,f,rfl,q,fN s k.usize⟩));exact .inr (.inr (.inr (.inl ⟨r,f,rfl,q,fN s k.usize⟩)));exact .inr (.inr (.inr (.inr rfl)));have n:∀b,¬zo e b->¬zo w b:=λb E g=>E (g.keep (h.ww b g))
 have split:∀b c,i.r b c->(R.r b c/\b<w.heap.size)\/(t.heap.size<=c/\c<p.heap.size):=λb c d=>(h.fresh b c d).elim (λx=>.inl ⟨x,by
  obtain⟨o,_,F,_⟩:=K.obj b c x;exact lt_of_heap F⟩) λx=>.inr ⟨x.2,by
  obtain⟨_,o,_,F,_⟩:=h.rel.obj b c d;exact fN (lt_of_heap F) k.usize⟩
 obtain⟨a,f,b,rfl,d,D,g⟩|⟨r,f,b,rfl,d,g⟩|⟨a,f,rfl,q,s⟩|⟨r,f,rfl,q,s⟩|rfl:=k.evs J z;obtain⟨j,B⟩|j:=split _ _ d;exact .inl ⟨a,f,b,rfl,j,h.rows b B D,λx=>n b (g x)⟩;exact .inr (.inr (.inl ⟨a,f,rfl,j⟩));obtain⟨j,B⟩|j:=split _ _ d;exact .inr (.inl ⟨r,f,b,rfl,j,n b g⟩);exact .inr (.inr (.inr (.inl ⟨r,f,rfl,j⟩)));exact .inr (.inr (.inl ⟨a,f,rfl,ff h.usize q,s⟩));exact .inr (.inr (.inr (.inl ⟨r,f,rfl,ff h.usize q,s⟩)));exact .inr (.inr (.inr (.inr rfl)))
abbrev _root_.Go.Program.ki(P:eE)(a:Array Func):eE:={toTables:=P.toTables,funcs:=a}
def _root_.Go.Halt.dead:Halt->Bool
 | .stuck _=>true
 | .unsupported (.initOrder _)=>false
 | .unsupported _=>true
 |_=>false
inductive SR (P:eE) {α β:Type} (A:fj->α->β->Prop):fj->Sem α->Sem β->Prop
 |pure {ρ:fj} {a:α} {b:β} (h:A ρ a b):SR P A ρ (.pure a) (.pure b)
 |load {ρ:fj} {a a':Addr} {k:eu->Sem α} {k':eu->Sem β} (ha:AR ρ a a') (h:∀v v',VR ρ v v'->SR P A ρ (k v) (k' v')):SR P A ρ (.load .plain a k) (.load .plain a' k')
 |store {ρ:fj} {a a':Addr} {v v':eu} {k:Sem α} {k':Sem β} (ha:AR ρ a a') (hv:VR ρ v v') (h:SR P A ρ k k'):SR P A ρ (.store .plain a v k) (.store .plain a' v' k')
 |new {ρ:fj} {o o':Obj} {k:Nat->Sem α} {k':Nat->Sem β} (ho:mq ρ o o') (h:∀n n' hn hm,ρ.sh n=none->SR P A (ρ.ext n n' hn hm) (k n) (k' n')):SR P A ρ (.new o k) (.new o' k')
 |getObj {ρ:fj} {r r':Nat} {k:Obj->Sem α} {k':Obj->Sem β} (hr:ρ.r r r') (h:∀o o',mq ρ o o'->(∀cs t fz,o≠ .cells cs t fz)->SR P A ρ (k o) (k' o')):
  SR P A ρ (.getObj r k) (.getObj r' k')
 |setObj {ρ:fj} {r r':Nat} {o o':Obj} {k:Sem α} {k':Sem β} (hr:ρ.r r r') (ho:mq ρ o o') (hc:∀cs t fz,o≠ .cells cs t fz) (h:SR P A ρ k k'):SR P A ρ (.setObj r o k) (.setObj r' o' k')
 |shape {ρ:fj} {r r':Nat} {k:Option (eD×Nat)->Sem α} {k':Option (eD×Nat)->Sem β} (hr:ρ.r r r') (h:ρ.sh r=none->∀x,SR P A ρ (k x) (k' x)) (hb:ρ.sh r≠none->∀m y,SR P A ρ (k (some (vJ,m))) (k' (some y))):SR P A ρ (.shape r k) (.shape r' k')
 |choose {ρ:fj} {q:Question} {k:Nat->Sem α} {k':Nat->Sem β} (h:∀n,SR P A ρ (k n) (k' n)):SR P A ρ (.choose q k) (.choose q k')
 |program {ρ:fj} {k:eE->Sem α} {k':eE->Sem β} (h:SR P A ρ (k P) (k' (P.ki ρ.fs))):SR P A ρ (.program k) (.program k')
 |noRoom {ρ:fj} {k:Sem α} {k':Sem β} (h:SR P A ρ k k'):SR P A ρ (.mark .noRoom k) (.mark .noRoom k')
 |panic {ρ:fj} {v v':eu} (h:VR ρ v v') (hp:vp ρ v):SR P A ρ (.halt (.panic v)) (.halt (.panic v'))
 |dead {ρ:fj} {h:Halt} {s:Sem β} (hd:Halt.dead h=true):SR P A ρ (.halt h) s
 |never {ρ:fj} {s:Sem α} {s':Sem β} (h:∀w,∃hh w',s.run P w=.halt hh w'/\Halt.dead hh=true):SR P A ρ s s'
theorem SR.bind{P:eE}{l p D E:Type}{A:fj->l->p->Prop}{B:fj->D->E->Prop}{ρ:fj}{s:Sem l}{q:Sem p}{f:l->Sem D}{F:p->Sem E}(h:SR P A ρ s q) (k:∀d a b,fj.Le ρ d->A d a b->SR P B d (f a) (F b)):SR P B ρ (s.bind f) (q.bind F):=by
 induction h with
 |pure h=>exact k _ _ _ (.refl _) h
 |load r _ c=>exact .load r λv I t=>c v I t k
 |store r t _ c=>exact .store r t (c k)
 |new g _ c=>exact .new g λn J G H i=>c n J G H i λd a b u=>k d a b ((fj.vG _ _ _ G H).trans u)
 |getObj j _ c=>exact .getObj j λo K g z=>c o K g z k
 |setObj j g z _ c=>exact .setObj j g z (c k)
 |shape j _ _ c L=>exact .shape j (λi x=>c i x k) λi m y=>L i m y k
 |choose _ c=>exact .choose λn=>c n k
 |program _ c=>exact .program (c k)
 |noRoom _ c=>exact .noRoom (c k)
 |panic h M=>exact .panic h M
 |dead C=>exact .dead C
 | @never ρ s q h=>
  refine .never λw=>?_;obtain⟨N,O,e,C⟩:=h w;exact⟨N,O,by rw[Sem.run_bind',e];rfl,C⟩
def mP{α i:Type}(A:fj->α->i->Prop)(ρ:fj)(v u:er)(r:Result α×Array Event)(j:Result i×Array Event)(e:Array Event):Prop:=
 match r.1 with
 | .ok a g=>∃b f c d,j=(.ok b f,e++d)/\A c a b/\im ρ c v u g f d
 | .halt (.panic x) g=>∃k f c d,j=(.halt (.panic k) f,e++d)/\(VR c x k/\vp c x)/\im ρ c v u g f d
 | .halt h _=>h.dead=true
theorem mP.dead{α b:Type}{A:fj->α->b->Prop}{ρ:fj}{v u w:er}{h:Halt}(c:h.dead=true){d:Array Event}{e:Result b×Array Event}{a:Array Event}:mP (α:=α) A ρ v u (.halt h w,d) e a:=by unfold mP;cases h<;>first|exact c|cases c
def mP.step{n o:Type}{A:fj->n->o->Prop}{ρ f:fj}{v u p q:er}{r:Result n×Array Event}{s:Result o×Array Event}{e1 g:Array Event}(t:WR ρ v u) (m:im ρ f v u p q e1)(h:mP A f p q r s (g++e1)):mP A ρ v u r s g:=by
 unfold mP at*;split;rename_i a w c;rw[c]at h;obtain⟨b,j,d,e,i,k,l⟩:=h;exact⟨b,j,d,e1++e,by rw[i,Array.append_assoc],k,m.trans t l⟩;rename_i x w c;rw[c]at h;obtain⟨b,j,d,e,i,k,l⟩:=h;exact⟨b,j,d,e1++e,by rw[i,Array.append_assoc],k,m.trans t l⟩
 ·rename_i c;rw[c]at h;split at h<;>first|exact h|(rename_i i;cases i;cases‹_›)|skip
  all_goals simp_all
section
variable{ρ:fj}{v u:er}
def wF{a:Addr}{at_:Bool}(c:∀x y,v.heap[a.block]?≠some (.view x y))(d:∀x y,v.heap[a.block]?≠some (.pending x y)):∃h,v.farLoad P a at_=.error h/\h.dead=true:=by unfold World.farLoad;split;rename_i x y b;exact absurd b (c _ _);refine⟨_,rfl,?_⟩;unfold World.noCell;split;rename_i b;exact absurd b (d _ _);rfl;rfl
def vq{a:Addr}{at_:Bool}(c:∀x y,v.heap[a.block]?≠some (.view x y))(d:∀x y,v.heap[a.block]?≠some (.pending x y)):∃h,v.farStore P a x at_=.error h/\h.dead=true:=by unfold World.farStore;split;rename_i x y b;exact absurd b (c _ _);refine⟨_,rfl,?_⟩;unfold World.noCell;split;rename_i b;exact absurd b (d _ _);rfl;rfl
def WR.noView(h:WR ρ v u)(c:ρ.r m k):∀x y,v.heap[m]?≠some (.view x y):=by intro x y d;obtain⟨o,f,b,_,a⟩:=h.obj m k c;rw[d]at b;cases b;obtain⟨_,a⟩|⟨_,_,_,_,_,_,_,e,_⟩:=a;cases a;cases e
def WR.noPending(h:WR ρ v u)(c:ρ.r m k):∀x y,v.heap[m]?≠some (.pending x y):=by intro x y d;obtain⟨o,f,b,_,a⟩:=h.obj m k c;rw[d]at b;cases b;obtain⟨_,a⟩|⟨_,_,_,_,_,_,_,e,_⟩:=a;cases a;cases e
def WR.cell(k:WR ρ v u){g:Addr}(l:AR ρ h g)(a:v.cell? h=some x):∃i,u.cell? g=some i/\VR ρ x i:=by
 cases l with
 | @mk b c o s m=>
  obtain⟨E,p,q,j,d⟩:=k.obj b c m;simp only[World.cell?,q]at a;obtain⟨r,d⟩|⟨n,t,F,G,w,H,z,rfl,rfl,A,e⟩:=d;case inr=>
   simp only[World.cell?,j];cases s with
   |some s=>simp at a
   |none=>
    simp only[vF,jE,gy]at a⊢;rw[t];exact e o x a
  rw[r,Option.getD_none,nT];cases d with
  |cells e I=>
   simp only[World.cell?,j];cases s with
   |some s=>simp at a
   |none=>
    simp only[vF,jE,gy]at a⊢;obtain⟨f,_⟩|⟨y,B,f,C,D⟩:=e.get? o;rw[f]at a;cases a;rw[f]at a;cases a;exact⟨B,C,D⟩
  |_=>cases a
def WR.shape(h:WR ρ v u){r a:Nat}(c:ρ.r r a):(ρ.sh r=none/\v.shape? r=u.shape? a)\/ρ.sh r≠none/\∃m y,v.shape? r=some (vJ,m)/\u.shape? a=some y:=by
 obtain⟨o,l,d,e,b⟩:=h.obj r a c;simp only[World.shape?,d,e];obtain⟨f,b⟩|⟨n,g,p,q,i,s,j,rfl,rfl,k,t⟩:=b;refine .inl ⟨f,?_⟩;cases b with
 |cells h _=>simp[h.size]
 |_=>rfl
 exact .inr ⟨by rw[g];simp,_,_,rfl,rfl⟩
def WR.draw(h:WR ρ v u):WR ρ {v with drawn:=v.drawn+1} {u with drawn:=u.drawn+1}:=
 ⟨h.obj,h.low,λj q=>by have:=h.tape (1+j) q;simpa[sR]using this⟩
theorem im.draw(h:WR ρ v u):im ρ ρ v u {v with drawn:=v.drawn+1} {u with drawn:=u.drawn+1} #[]:=
 ⟨.refl _,h.draw,eF _,eF _,λ_ _ h=>.inl h,λ_ _ _=>rfl,λ_ _=>rfl,λ_ _ h=>h,λ_ _ h=>h,rfl,rfl,rfl,rfl,λe a=>by simp at a⟩
def im.Tz{a:fj}{c b:er}{d:Array Event}(m:im ρ a v u c b #[])(h:∀e∈d,VS ρ v u.heap.size b.heap.size e):im ρ a v u c b d:=
 ⟨m.le,m.rel,m.vsize,m.usize,m.fresh,m.same,m.ww,m.warm,m.rows,m.tape,m.os,m.output,m.vtape,h⟩
def heap_setCell(w:er)(a:Addr)(x:eu)(b:Nat):(w.setCell a x).heap[b]? =if b=a.block then(w.heap[b]?).map (λ
 | .cells c f d=>.cells (if a.spot.isSome then c else c.setIfInBounds a.off x) f d
 |o=>o)else w.heap[b]? :=by
 simp only[World.setCell,oP];by_cases h:a.block=b;subst h;simp only[fF];congr 1;rw[ez h,ez (λe=>h e.symm)]
def im.store(h:WR ρ v u){a H:Addr}(W:AR ρ a H){x I y:eu}(X:VR ρ x I)(m:v.cell? a=some y)(J:v.frozen? a=false):u.frozen? H=false/\im ρ ρ v u (v.setCell a x) (u.setCell H I) #[⟨.cell H,true,false⟩]:=by
 cases W with
 | @mk b c o s B=>
  obtain⟨ob,Y,p,R,K⟩:=h.obj b c B;simp only[World.cell?,p]at m;obtain⟨L,K⟩|⟨n,hn,z,A,C,t',q,rfl,rfl,M,S⟩:=K;case inr=>
   exfalso;cases s with
   |some s=>simp at m
   |none=>
    simp only[vF,jE,gy]at m;have g:=M o (ik.1 m).1;simp only[World.frozen?,p]at J;simp[g.1,g.2]at J
  rw[L,Option.getD_none,nT];cases K with
  | @cells z C t A q S T=>
   cases s with
   |some s=>simp at m
   |none=>
    simp only[vF,jE,gy]at m;have r:o<z.size:=(ik.1 m).1;have D:¬Fl A o:=by intro g;simp only[World.frozen?,p]at J;simp[g.1,g.2]at J
    have E:¬Fl q o:=λg=>D (T o g);have i:¬zo v b:=by rintro⟨_,_,_,e,d⟩;rw[p]at e;cases e;exact D (d o r)
    have F:∀j,(v.setCell (eQ b o) x).heap[j]? =if j=b then some (.cells (z.setIfInBounds o x) t A)else v.heap[j]? :=by intro j;rw[heap_setCell];by_cases f:j=b;subst f;simp[p];simp[f]
    have U:∀l,(u.setCell (eQ c o) I).heap[l]? =if l=c then some (.cells (C.setIfInBounds o I) t q)else u.heap[l]? :=by intro l;rw[heap_setCell];by_cases f:l=c;subst f;simp[R];simp[f]
    refine⟨?_,.refl _,⟨λj l w=>?_,λl N=>h.low l (by simpa[World.setCell]using N),h.tape⟩,by simp[World.setCell],by simp[World.setCell],λ_ _ h=>.inl h,λl _ Z=>?_,λj k=>?_,λj _ k=>?_,λj _ k=>?_,rfl,rfl,rfl,rfl,?_⟩;simp only[World.frozen?,R];simp only[Fl]at E;simp;omega;rw[F,U];by_cases f:j=b;subst f;obtain rfl:=ρ.oK _ _ _ B w;rw[eC rfl,eC rfl];exact⟨_,_,rfl,rfl,.inl ⟨L,.cells (S.set o X) T⟩⟩;have G:l≠c:=λe=>(ρ.qI _ _ _ w (e▸B)).elim f λx=>x.2 L;rw[ez f,ez G];exact h.obj j l w;rw[U];by_cases f:l=c;subst f;exact absurd (Z b B) i;rw[ez f];rw[F];by_cases f:j=b;subst f;exact absurd k i;rw[ez f];by_cases f:j=b;subst f;obtain⟨_,_,_,e,d⟩:=k;rw[F,eC rfl]at e;cases e;exact⟨z,t,A,p,by simpa using d⟩;obtain⟨O,P,Q,e,d⟩:=k;rw[F,ez f]at e;exact⟨O,P,Q,e,d⟩;by_cases f:j=b;subst f;exact⟨z,t,A,p,λe=>by subst e;simp at r⟩;obtain⟨O,P,Q,e,d⟩:=k;rw[F,ez f]at e;exact⟨O,P,Q,e,d⟩;intro e V;simp at V;subst V;exact .inl ⟨(eQ c o),true,b,rfl,B,⟨z,t,A,p,λe=>by subst e;simp at r⟩,λ_=>i⟩
  |_=>cases m
def pq(w:er)(o:Obj)(b:Nat):({w with heap:=w.heap.push o}:er).heap[b]? =if b=w.heap.size then some o else w.heap[b]? :=by simp only[pA]
def WR.VT(h:WR ρ v u)(a:ρ.r m k):m<v.heap.size:=let⟨_,_,b,_,_⟩:=h.obj m k a;lt_of_heap b
def WR.UA(h:WR ρ v u)(a:ρ.r m k):k<u.heap.size:=let⟨_,_,_,b,_⟩:=h.obj m k a;lt_of_heap b
def WR.TA(h:WR ρ v u):∀c,¬ρ.r v.heap.size c:=λ_ a=>Nat.lt_irrefl _ (h.VT a)
def WR.TB(h:WR ρ v u):∀b,¬ρ.r b u.heap.size:=λ_ a=>Nat.lt_irrefl _ (h.UA a)
def im.new(h:WR ρ v u){o m:Obj}(n:mq ρ o m):im ρ (ρ.ext v.heap.size u.heap.size h.TA h.TB) v u {v with heap:=v.heap.push o} {u with heap:=u.heap.push m} #[]:=by refine⟨fj.vG _ _ _ _ _,⟨λb c d=>?_,λc g=>h.low c (by simp at g;omega),h.tape⟩,by simp,by simp,λb c d=>?_,λc g _=>?_,λb f=>?_,λb f i=>?_,λb f i=>?_,rfl,rfl,rfl,rfl,λe p=>by simp at p⟩;rw[pq,pq];obtain d|⟨rfl,rfl⟩:=d;rw[ez (Nat.ne_of_lt (h.VT d)),ez (Nat.ne_of_lt (h.UA d))];obtain⟨x,q,r,s,t⟩:=h.obj b c d;exact⟨x,q,r,s,t.mono (fj.vG _ _ _ _ _)⟩;rw[eC rfl,eC rfl];exact⟨_,_,rfl,rfl,.inl ⟨h.low _ (eF _),n.mono (fj.vG _ _ _ _ _)⟩⟩;obtain d|⟨rfl,rfl⟩:=d;exact .inl d;exact .inr ⟨eF _,eF _⟩;rw[pq,ez (Nat.ne_of_lt g)];rw[pq,ez (Nat.ne_of_lt f.lt)];obtain⟨j,k,l,e,a⟩:=i;rw[pq,ez (Nat.ne_of_lt f)]at e;exact⟨j,k,l,e,a⟩;obtain⟨j,k,l,e,a⟩:=i;rw[pq,ez (Nat.ne_of_lt f)]at e;exact⟨j,k,l,e,a⟩
def heap_set(w:er)(r:Nat)(o:Obj)(b:Nat):({w with heap:=w.heap.setIfInBounds r o}:er).heap[b]? =if b=r/\r<w.heap.size then some o else w.heap[b]? :=by simp only[Array.getElem?_setIfInBounds];by_cases h:r=b;subst h;by_cases a:r<w.mN;simp[a];simp[a];rw[ez h,ez (λe=>h e.1.symm)]
def im.setObj(h:WR ρ v u){r i:Nat}(j:ρ.r r i){o C x:Obj}(H:mq ρ o C)(D:v.heap[r]? =some x)(m:∀y t z,x≠ .cells y t z)(n:∀y t z,o≠ .cells y t z):im ρ ρ v u {v with heap:=v.heap.setIfInBounds r o} {u with heap:=u.heap.setIfInBounds i C} #[⟨.obj i,true,false⟩]:=by
 have B:=h.VT j;have I:=h.UA j;have d:¬zo v r:=by rintro⟨y,t,z,e,_⟩;rw[D]at e;cases e;exact m _ _ _ rfl
 have A:ρ.sh r=none:=by obtain⟨L,J,E,_,K⟩:=h.obj r i j;obtain⟨A,_⟩|⟨_,_,_,_,_,_,_,rfl,_⟩:=K;exact A;rw[D]at E;exact absurd (eP E) (m _ _ _)
 refine⟨.refl _,⟨λb c k=>?_,λc F=>h.low c (by simpa using F),h.tape⟩,by simp,by simp,λ_ _ h=>.inl h,λc F l=>?_,λb g=>?_,λb g l=>?_,λb g l=>?_,rfl,rfl,rfl,rfl,λe G=>?_⟩;rw[heap_set,heap_set];by_cases g:b=r;subst g;obtain rfl:=ρ.oK _ _ _ j k;rw[eC ⟨rfl,B⟩,eC ⟨rfl,I⟩];exact⟨_,_,rfl,rfl,.inl ⟨A,H⟩⟩;have p:c≠i:=λe=>(ρ.qI _ _ _ k (e▸j)).elim g λx=>x.2 A;rw[ez (λe=>g e.1),ez (λe=>p e.1)];exact h.obj b c k;rw[heap_set];by_cases g:c=i;subst g;exact absurd (l r j) d;rw[ez (λe=>g e.1)];rw[heap_set];by_cases a:b=r;subst a;exact absurd g d;rw[ez (λe=>a e.1)];by_cases a:b=r;subst a;obtain⟨q,s,w,e,_⟩:=l;rw[heap_set,eC ⟨rfl,B⟩]at e;cases e;exact absurd rfl (n _ _ _);obtain⟨q,s,w,e,f⟩:=l;rw[heap_set,ez (λe=>a e.1)]at e;exact⟨q,s,w,e,f⟩;by_cases a:b=r;subst a;obtain⟨q,s,w,e,_⟩:=l;rw[heap_set,eC ⟨rfl,B⟩]at e;cases e;exact absurd rfl (n _ _ _);obtain⟨q,s,w,e,f⟩:=l;rw[heap_set,ez (λe=>a e.1)]at e;exact⟨q,s,w,e,f⟩;simp at G;subst G;exact .inr (.inl ⟨i,true,r,rfl,j,d⟩)
end
theorem mq.isChan{ρ:fj}(h:mq ρ O Q)(c:∀a t b,O≠ .cells a t b):Q.isChan=false/\∀a t b,Q≠ .cells a t b:=by
 cases h with
 |cells _ _=>exact absurd rfl (c _ _ _)
 |_=>exact⟨rfl,λ_ _ _ e=>by cases e⟩
def JU.plain{ρ:fj}{n:Option Nat}(h:JU ρ n O Q)(a:∀b t c,O≠ .cells b t c):mq ρ O Q:=by obtain⟨_,h⟩|⟨_,_,_,_,_,_,_,e,_⟩:=h;exact h;exact absurd e (a _ _ _)
def SR.run{α β:Type}{A:fj->α->β->Prop}{ρ:fj}{s:Sem α}{Z:Sem β}(h:SR P A ρ s Z):∀{v u:er},WR ρ v u->∀g d:Array Event,mP A ρ v u (s.runT P v g) (Z.runT (P.ki ρ.fs) u d) d:=by
 induction h with
 | @pure ρ a b h=>exactλ{v u} f g d=>⟨b,u,ρ,#[],by simp[Sem.runT],h,im.refl f⟩
 | @load ρ a X k D K _ n=>
  intro v u f g d;simp only[Sem.runT];cases B:v.cell? a with
  |none=>
   cases K with
   | @mk b c o s p=>
    obtain⟨hh,e,L⟩:=wF (P:=P) (a:=⟨b,o,s⟩) (at_:=(Mode.plain==Mode.atomic)) (f.noView p) (f.noPending p);simp only[e];exact mP.dead L
  |some x=>
   obtain⟨F,aa,Y⟩:=f.cell K B;simp only[aa];refine mP.step (e1:=#[⟨.cell X,false,false⟩]) f ((im.refl f).Tz λe G=>?_) ?_
   ·simp at G;subst G;cases K with
    | @mk b c o s p=>
     refine .inl ⟨_,false,b,rfl,p,?_,λe=>by cases e⟩;simp only[World.cell?]at B;split at B
     ·rename_i i t l ab;refine⟨i,t,l,ab,λe=>?_⟩;subst e;simp at B
     ·cases B
   ·have:=n x F Y f (g.push ⟨.cell a,false,false⟩) (d++#[⟨.cell X,false,false⟩]);rw[Array.append_singleton]at this;exact this
 | @store ρ a X x F k D K Y _ n=>
  intro v u f g d;by_cases z:(∃i,x=.agg i)\/∃i,x=.tuple i
  ·obtain⟨i,rfl⟩|⟨i,rfl⟩:=z<;>exact mP.dead rfl
  ·have M:¬((∃i,F=.agg i)\/∃i,F=.tuple i):=by
    rintro(⟨i,rfl⟩|⟨i,rfl⟩)<;>cases Y
    ·exact z (.inl ⟨_,rfl⟩)
    ·exact z (.inr ⟨_,rfl⟩)
   have e1:∀{H:Type} (P:eE) (k:Sem H) (x:eu),¬((∃i,x=.agg i)\/∃i,x=.tuple i)->∀(a:Addr) (v:er) (g:Array Event),(Sem.store .plain a x k).runT P v g=(match v.cell? a with
    |some _=>if v.frozen? a then(.halt (.unsupported (.unsafePointer "a write to bytes that a string shares")) v,g)else k.runT P (v.setCell a x) (g.push ⟨.cell a,true,false⟩)
    |none=>match v.farStore P a x false with
     | .ok (w,C)=>k.runT P w (g++C.toArray.map (⟨.cell ·,true,false⟩))
     | .error h=>(.halt h v,g)):=by
    intro H P k x B a v g;cases x<;>first|rfl|exact absurd (.inl ⟨_,rfl⟩) B|exact absurd (.inr ⟨_,rfl⟩) B
   rw[e1 P k x z,e1 _ D F M];cases hy:v.cell? a with
   |none=>
    cases K with
    | @mk b c o s p=>
     obtain⟨hh,e,L⟩:=vq (P:=P) (a:=⟨b,o,s⟩) (x:=x) (at_:=false) (f.noView p) (f.noPending p);simp only[e];exact mP.dead L
   |some y=>
    obtain⟨y',ac,_⟩:=f.cell K hy;simp only[ac];by_cases hz:v.frozen? a=true
    ·simp only[hz,fF];exact mP.dead rfl
    ·have T:v.frozen? a=false:=by simpa using hz
     obtain⟨hu,I⟩:=im.store f K Y hy T;simp only[T,hu];refine mP.step f I ?_;have:=n I.rel (g.push ⟨.cell a,true,false⟩) (d++#[⟨.cell X,true,false⟩]);simpa using this
 | @new ρ o N k D ho _ n=>
  intro v u f g d;have I:=im.new f ho;refine mP.step f I ?_;have:=n v.mN u.mN f.TA f.TB (f.low _ (eF _)) I.rel g (d++#[]);simpa[Sem.runT]using this
 | @getObj ρ r E k D p _ n=>
  intro v u f g d;obtain⟨o,N,O,h2,J⟩:=f.obj r E p;by_cases U:∃i t l,o=.cells i t l
  ·obtain⟨i,t,l,rfl⟩:=U;simp only[Sem.runT,O];exact mP.dead rfl
  ·have j:∀i t l,o≠ .cells i t l:=λi t l e=>U ⟨i,t,l,e⟩;replace J:mq ρ o N:=J.plain j;obtain⟨Q,R⟩:=J.isChan j;have e1:∀{H:Type} (P:eE) (k:Obj->Sem H) (w:er) (r:Nat) (o:Obj) (g:Array Event),w.heap[r]? =some o->(∀i t l,o≠ .cells i t l)->(Sem.getObj r k).runT P w g=(k o).runT P w (g.push ⟨.obj r,false,o.isChan⟩):=by
    intro H P k w r o g h S;cases o<;>first|exact absurd rfl (S _ _ _)|simp only[Sem.runT,h]
   rw[e1 P k v r o g O j,e1 _ D u E N d h2 R,Q];refine mP.step (e1:=#[⟨.obj E,false,false⟩]) f ((im.refl f).Tz λe G=>?_) ?_
   ·simp at G;subst G;refine .inr (.inl ⟨E,false,r,rfl,p,?_⟩);rintro⟨i,t,l,e,_⟩;rw[O]at e;cases e;exact j _ _ _ rfl
   ·have:=n o N J j f (g.push ⟨.obj r,false,o.isChan⟩) (d++#[⟨.obj E,false,false⟩]);simpa using this
 | @setObj ρ r E x F k D p B V _ n=>
  intro v u f g d;obtain⟨o,N,O,h2,J⟩:=f.obj r E p;by_cases U:∃i t l,o=.cells i t l
  ·obtain⟨i,t,l,rfl⟩:=U;simp only[Sem.runT,O];exact mP.dead rfl
  ·have j:∀i t l,o≠ .cells i t l:=λi t l e=>U ⟨i,t,l,e⟩;replace J:mq ρ o N:=J.plain j;obtain⟨_,R⟩:=J.isChan j;obtain⟨Q,_⟩:=B.isChan V;have W:x.isChan=false:=by cases B<;>rfl
   have e1:∀{H:Type} (P:eE) (k:Sem H) (w:er) (r:Nat) (x o:Obj) (g:Array Event),w.heap[r]? =some o->(∀i t l,o≠ .cells i t l)->(Sem.setObj r x k).runT P w g=k.runT P {w with heap:=w.heap.setIfInBounds r x} (g.push ⟨.obj r,true,x.isChan⟩):=by intro H P k w r x o g h S;cases o<;>first|exact absurd rfl (S _ _ _)|simp only[Sem.runT,h]
   rw[e1 P k v r x o g O j,e1 _ D u E F N d h2 R,Q,W];have I:=im.setObj f p B O j V;refine mP.step f I ?_;have:=n I.rel (g.push ⟨.obj r,true,false⟩) (d++#[⟨.obj E,true,false⟩]);simpa using this
 | @shape ρ r E k D p _ _ n ib=>
  intro v u f g d;simp only[Sem.runT];obtain⟨hs,e⟩|⟨hs,m,y,e1,e2⟩:=f.shape p
  ·rw[e];exact n hs _ f g d
  ·rw[e1,e2];exact ib hs _ _ f g d
 | @choose ρ q k D _ n=>
  intro v u f g d;simp only[Sem.runT];by_cases hq:q.forced=true
  ·simp only[hq,fF];exact n 0 f g d
  ·have ad:q.forced=false:=by simpa using hq
   simp only[ad,jE,gy];have ht:=f.tape 0 q;simp only[nT]at ht;rw[ht];refine mP.step f (im.draw f) ?_;have:=n (q.cut (u.tape u.drawn q)) f.draw g (d++#[]);simpa using this
 |program _ n=>exactλf g d=>n f g d
 | @noRoom ρ k D _ n=>
  intro v u f g d;refine mP.step (e1:=#[⟨.mark .noRoom,false,true⟩]) f ((im.refl f).Tz λe G=>?_) ?_
  ·simp at G;exact .inr (.inr (.inr (.inr G)))
  ·have:=n f (g.push ⟨.mark .noRoom,false,true⟩) (d++#[⟨.mark .noRoom,false,true⟩]);simpa[Sem.runT]using this
 | @panic ρ x F h hp=>exactλ{v u} f g d=>⟨F,u,ρ,#[],by simp[Sem.runT],⟨h,hp⟩,im.refl f⟩
 |dead L=>exactλ{v u} f g d=>mP.dead L
 | @never ρ s Z h=>
  intro v u f g d;obtain⟨hh,w',e,L⟩:=h v;rw[ml,e];exact mP.dead L
inductive SX (P:eE) {α β:Type} (A:fj->α->β->Prop):fj->Sem α->Sem β->Prop
 |of {ρ:fj} {s:Sem α} {s':Sem β} (h:SR P A ρ s s'):SX P A ρ s s'
 |skip {ρ:fj} {q:Question} {r r':Nat} {o:Nat->Obj} {o':Obj} {a:α} {b:β} (hr:ρ.r r r') (ho:∀n,mq ρ (o n) o') (hc:∀n cs t fz,o n≠ .cells cs t fz) (h:A ρ a b):
  SX P A ρ (.choose q λn=>.setObj r (o n) (.pure a)) (.setObj r' o' (.pure b))
 |bind {ρ:fj} {γ δ:Type} {B:fj->γ->δ->Prop} {s:Sem γ} {s':Sem δ} {f:γ->Sem α} {f':δ->Sem β} (h:SR P B ρ s s') (k:∀H4 a b,fj.Le ρ H4->B H4 a b->SX P A H4 (f a) (f' b)):SX P A ρ (s.bind f) (s'.bind f')
def DJ(ρ a:fj)(v u b c:er)(e:Array Event):Prop:=∃d,im ρ a v u {b with drawn:=d} c e
def im.hr{ρ a:fj}{v u b c:er}{d:Array Event}(m:im ρ a v u b c d):DJ ρ a v u b c d:=⟨b.drawn,m⟩
theorem HR.drawn{ρ:fj}{v u:er}(h:HR ρ {v with drawn:=d} u):HR ρ v u:=⟨h.obj,h.low⟩
def Fo{i j:Type}(A:fj->i->j->Prop)(ρ:fj)(v u:er)(r:Result i×Array Event)(k:Result j×Array Event)(e:Array Event):Prop:=
 match r.1 with
 | .ok a g=>∃b f c d,k=(.ok b f,e++d)/\A c a b/\DJ ρ c v u g f d
 | .halt (.panic x) g=>∃l f c d,k=(.halt (.panic l) f,e++d)/\(VR c x l/\vp c x)/\im ρ c v u g f d
 | .halt h _=>h.dead=true
def mP.Wz{g i:Type}{A:fj->g->i->Prop}{ρ:fj}{v u:er}{r:Result g×Array Event}{j:Result i×Array Event}{a:Array Event}(h:mP A ρ v u r j a):Fo A ρ v u r j a:=by
 unfold mP at h;unfold Fo;split<;>rename_i c<;>rw[c]at h;obtain⟨b,k,d,e,f,l,m⟩:=h;exact⟨b,k,d,e,f,l,m.hr⟩;exact h
 ·split at h<;>first|exact h|(rename_i f;cases f;cases‹_›)|skip
  all_goals simp_all
theorem SX.run{W X:Type}{A:fj->W->X->Prop}{ρ:fj}{s:Sem W}{N:Sem X}(h:SX P A ρ s N):∀{v u:er},WR ρ v u->∀i c:Array Event,Fo A ρ v u (s.runT P v i) (N.runT (P.ki ρ.fs) u c) c:=by
 induction h with
 |of h=>exactλz i c=>(h.run z i c).Wz
 | @skip ρ q r Y o o' a b C ho hc h=>
  intro v u z i c;have Z:∀n,mP A ρ v u ((Sem.setObj r (o n) (.pure a)).runT P v i) ((Sem.setObj Y o' (.pure b)).runT (P.ki ρ.fs) u c) c:=λn=>(SR.setObj C (ho n) (hc n) (.pure h)).run z i c;simp only[Sem.runT];by_cases hq:q.forced=true;simp only[hq,fF];exact(Z 0).Wz;have O:q.forced=false:=by simpa using hq
  simp only[O,jE,gy];obtain⟨K,aa,l,L,M⟩:=z.obj r Y C;have Q:=Z (q.cut (v.tape v.drawn q));by_cases hk:∃G t H,K=.cells G t H;obtain⟨G,t,H,rfl⟩:=hk;simp only[l];unfold Fo;exact rfl;have R:∀G t H,K≠ .cells G t H:=λG t H e=>hk ⟨G,t,H,e⟩;have I:∀w:er,w.heap[r]? =some K->∀x:Obj,(Sem.setObj r x (Sem.pure a)).runT P w i=(.ok a {w with heap:=w.heap.setIfInBounds r x},i.push ⟨.obj r,true,x.isChan⟩):=by intro w h x;cases K<;>first|exact absurd rfl (R _ _ _)|simp only[Sem.runT,h]
  rw[I v l]at Q;have J:=I {v with drawn:=v.drawn+1} l (o (q.cut (v.tape v.drawn q)));unfold mP at Q;obtain⟨b',u',S,g,g1,g2,g3⟩:=Q;have e3:∀{γ:Type} (x y:γ),x=y->x=y:=λ_ _ h=>h;unfold Fo;simp only[Sem.runT]at J;rw[J];exact⟨b',u',S,g,g1,g2,v.drawn,g3⟩
 | @bind ρ γ δ B s N f f' h k ih=>
  intro v u z i c;have C:=h.run z i c;rw[Sem.runT_bind',Sem.runT_bind'];unfold mP at C;generalize s.runT P v i=r at C⊢;obtain⟨r,T⟩:=r;cases r with
  |ok a v1=>
   obtain⟨b,u1,D,g,I,J,m⟩:=C;rw[I];have p:=ih D a b m.le J m.rel T (c++g);rw[<-m.le.f]at p;dsimp only;unfold Fo at p⊢;split;rename_i x w j;rw[j]at p;obtain⟨U,V,E,F,l,L,d,M⟩:=p;exact⟨U,V,E,g++F,by rw[l,Array.append_assoc],L,d,m.trans z M⟩;rename_i x w j;rw[j]at p;obtain⟨U,V,E,F,l,L,M⟩:=p;exact⟨U,V,E,g++F,by rw[l,Array.append_assoc],L,m.trans z M⟩
   ·rename_i j;rw[j]at p;split at p<;>first|exact p|(rename_i l;cases l;cases‹_›)|skip
    all_goals simp_all
  |halt hh v1=>
   unfold Fo;cases hh with
   |panic x=>
    obtain⟨b,u1,D,g,I,J,e3⟩:=C;rw[I];exact⟨b,u1,D,g,rfl,J,e3⟩
   |_=>exact C
def gR:Nat->eu->Bool
 |_,.bool _|_,.int _ _|_,.string _|_,.pointer none|_,.slice none _ _|_,.map none|_,.chan none|_,.nilFunc|_,.nilIface=>true
 |d+1,.agg a|d+1,.tuple a=>a.all (gR d)
 |d+1,.iface _ v=>gR d v
 |_,_=>false
theorem rj{ρ:fj}:∀{d:Nat} {v:eu},gR d v=true->VR ρ v v
 |d,.bool _,_=>.bool _
 |d,.int _ _,_=>.int _ _
 |d,.float _ _,h=>by cases d<;>simp[gR]at h
 |d,.complex _ _ _,h=>by cases d<;>simp[gR]at h
 |d,.string _,_=>.string _
 |d,.pointer none,_=>.kU
 |d,.slice none _ _,_=>.iR _ _
 |d,.map none,_=>.tx
 |d,.chan none,_=>.rL
 |d,.nilFunc,_=>.nilFunc
 |d,.nilIface,_=>.nilIface
 |d+1,.agg c,h=>by simp only[gR,xE]at h;exact .agg rfl λi v e a b=>by rw[a]at b;cases b;exact rj (h v (oQ a))
 |d+1,.tuple c,h=>by simp only[gR,xE]at h;exact .tuple rfl λi v e a b=>by rw[a]at b;cases b;exact rj (h v (oQ a))
 |0,.agg _,h=>by simp[gR]at h
 |0,.tuple _,h=>by simp[gR]at h
 |d,.pointer (some _),h=>by cases d<;>simp[gR]at h
 |d,.slice (some _) _ _,h=>by cases d<;>simp[gR]at h
 |d,.map (some _),h=>by cases d<;>simp[gR]at h
 |d,.chan (some _),h=>by cases d<;>simp[gR]at h
 |d,.func _ _ _,h=>by cases d<;>simp[gR]at h
 |0,.iface _ _,h=>by simp[gR]at h
 |d+1,.iface _ v,h=>.iface _ (rj (d:=d) (by simpa[gR]using h))
def ir(P:eE):Nat->eD->Bool
 |0,_=>false
 |d+1,t=>match P.underlying t with
  |some .bool|some (.int _)|some .string|some (.slice _)=>true
  |some (.struct a)=>!P.stoodInHeld t&&a.all λf=>ir P d f.type
  |some (.array _ e)=>ir P d e
  |_=>false
def lQ(S:fG->Bool):fI->Bool
 | .tmp _=>true
 | .const v=>gR 3 v
 | .global _=>false
 | .func f=>S f
def Cq:Builtin->Bool
 | .len| .cap| .append| .max| .min=>true
 |_=>false
def intType(P:eE)(t:eD):Bool:=match P.underlying t with|some (.int _)=>true|_=>false
def Fp(P:eE)(S:fG->Bool)(a e:Bool):Op->Bool
 | .move _| .assign _| .pick _ _ _| .alloc _| .box _ _| .build _ _| .buildSlice _ _ _| .load _ _| .store _ _ _| .unOp _ _ _| .makeSlice _ _ _| .slice _ _ _ _ _
 | .index _ _ _| .indexAddr _ _ _| .extract _ _| .field _ _ _| .makeMap _ _| .nilCheck _=>true
 | .lookup t _ _ _| .mapUpdate t _ _ _=>match P.underlying t with|some (.map k _)=>!a&&ir P 5 k|_=>false
 | .makeFunc (.func f) _ _=>S f
 | .fieldAddr s _ i=>match P.underlying s with
  |some (.struct g)=>match g[i]? with
   |some f=>match P.info? f.type with|some j=>j.size !=0|none=>false
   |none=>false
  |_=>false
 | .binOp h t _ _ _=>match h with
  | .eql| .neq=>ir P 5 t
  |_=>intType P t
 | .convert s d _=>intType P s&&intType P d
 | .call c=>match c.callee with
  | .value _=>true
  | .builtin b=>Cq b&&(match b with| .append=>(match c.argTypes[1]? with|some t=>!intType P t|none=>true)|_=>true)
  | .invoke _ _=>false
 | .defer c=>match c.callee with
  | .value _=>e
  |_=>false
 | .panic x=>match x with
  | .const (.iface _ (.int _ _))=>e
  |_=>false
 |_=>false
def qJ(P:eE)(S:fG->Bool)(a b:Bool)(o:Oper):Bool:=o.op.operands.all (lQ S)&&Fp P S a b o.op
def jI(P:eE)(S:fG->Bool)(d e:Bool):Code->Bool
 | .skip| .exit _| .label _| .goto _| .ret| .refuse _=>true
 | .region _ g _=>g.all (qJ P S d e)
 | .seq a b=>jI P S d e a&&jI P S d e b
 | .cond c a b=>lQ S c&&jI P S d e a&&jI P S d e b
 | .block _ c| .loop c| .scope c=>jI P S d e c
 | .rangeFunc f _ a b=>!e&&lQ S f&&jI P S d e a&&jI P S d e b
structure Fit(P:eE)(S:fG->Bool)(dim:Bool):Prop where
 zero:∀t i z,P.info? t=some i->i.zero=some z->gR 3 z=true
 fn:∀f,S f=true->∃fn c,P.funcs[f]? =some fn/\(fn.name== "runtime.NumGoroutine")=false/\fn.body=some c
 globals:P.globals.size=0
 depth:5<=P.depth
 bad:P.info? vJ=none
abbrev SV(P:eE)(ρ:fj)(s c:Sem eu):Prop:=SR P (λρ a b=>VR ρ a b) ρ s c
abbrev SE(P:eE)(ρ:fj){c:Type}(s d:Sem c):Prop:=SR P (λ_ a b=>a=b) ρ s d
section
variable{P:eE}{ρ:fj}
def SR.fM{d e g i:Type}{A:fj->d->e->Prop}{B:fj->g->i->Prop}{ρ:fj}{s:Sem d}{j:Sem e}{f:d->Sem g}{f':e->Sem i}(h:SR P A ρ s j) (k:∀c a b,fj.Le ρ c->A c a b->SR P B c (f a) (f' b)):SR P B ρ (s>>=f) (j>>=f'):=SR.bind h k
def SX.fM{d e g i:Type}{A:fj->d->e->Prop}{B:fj->g->i->Prop}{ρ:fj}{s:Sem d}{j:Sem e}{f:d->Sem g}{f':e->Sem i}(h:SR P A ρ s j) (k:∀c a b,fj.Le ρ c->A c a b->SX P B c (f a) (f' b)):SX P B ρ (s>>=f) (j>>=f'):=.bind h k
def SX.map{d e j l:Type}{A:fj->d->e->Prop}{B:fj->j->l->Prop}{g:d->j}{m:e->l}{ρ:fj}{s:Sem d}{n:Sem e}(h:SX P A ρ s n)(k:∀c a b,A c a b->B c (g a) (m b)):
 SX P B ρ (s>>=λa=>Pure.pure (g a)) (n>>=λb=>Pure.pure (m b)):=by
 induction h with
 |of h=>exact .of (SR.fM h λ_ _ _ _ o=>.pure (k _ _ _ o))
 |skip p q r h=>exact .skip p q r (k _ _ _ h)
 |bind h _ t=>
  show SX P B _ (Sem.bind (Sem.bind _ _) _) (Sem.bind (Sem.bind _ _) _);rw[Sem.bind_assoc',Sem.bind_assoc'];exact .bind h λc a b f i=>t c a b f i
def SR.gA{c d:Type}{A:fj->c->d->Prop}{a:c}{b:d}(h:A ρ a b):SR P A ρ (Pure.pure a) (Pure.pure b):=.pure h
theorem SR.stuck{α b:Type}{A:fj->α->b->Prop}{a:String}{s:Sem b}:SR P A ρ (Go.stuck (α:=α) a) s:=.dead rfl
def SR.iY{α a:Type}{A:fj->α->a->Prop}{u:Unsupported}{s:Sem a}(b:Halt.dead (.unsupported u)=true:=by rfl):SR P A ρ (Go.unsupported (α:=α) u) s:=.dead b
def SR.prog:SR P (λρ a b=>a=P/\b=P.ki ρ.fs) ρ Go.program Go.program:=.program (.pure ⟨rfl,rfl⟩)
def SR.jm{q r:Type}{A B:fj->q->r->Prop}{s:Sem q}{t:Sem r}(h:SR P A ρ s t)(k:∀d a b,fj.Le ρ d->A d a b->B d a b):SR P B ρ s t:=by
 induction h with
 |pure h=>exact .pure (k _ _ _ (.refl _) h)
 |load i _ c=>exact .load i λv z j=>c v z j k
 |store i j _ c=>exact .store i j (c k)
 |new e _ c=>exact .new e λn C u w f=>c n C u w f λd a b l=>k d a b ((fj.vG _ _ _ u w).trans l)
 |getObj g _ c=>exact .getObj g λo D e p=>c o D e p k
 |setObj g e p _ c=>exact .setObj g e p (c k)
 |shape g _ _ c E=>exact .shape g (λf x=>c f x k) λf m y=>E f m y k
 |choose _ c=>exact .choose λn=>c n k
 |program _ c=>exact .program (c k)
 |noRoom _ c=>exact .noRoom (c k)
 |panic h F=>exact .panic h F
 |dead G=>exact .dead G
 |never h=>exact .never h
def iI(a:Array Func):(P.ki a).underlying=P.underlying:=rfl
def mB(a:Array Func):(P.ki a).depth=P.depth:=rfl
def ky(a:Array Func):(P.ki a).bytesOf=P.bytesOf:=rfl
def kz(a:Array Func):(P.ki a).cellsOf=P.cellsOf:=rfl
theorem gZ(a:Array Func):∀(d:Nat) (t:eD),(P.ki a).eqGuardType d t=P.eqGuardType d t
 |0,t=>by unfold Program.eqGuardType;rfl
 |d+1,t=>by unfold Program.eqGuardType;simp only[iI,gZ a d]
theorem tz(a:Array Func):∀(d:Nat),cellOfByte (P.ki a) d=cellOfByte P d
 |0=>by funext t o;unfold cellOfByte;rfl
 |d+1=>by funext t o;unfold cellOfByte;rw[tz a d];rfl
theorem it(a:Array Func):∀(d:Nat),byteOfCell (P.ki a) d=byteOfCell P d
 |0=>by funext t o;unfold byteOfCell;rfl
 |d+1=>by funext t o;unfold byteOfCell;rw[it a d];rfl
def iO(a:Array Func):cellAtBytes (P.ki a)=cellAtBytes P:=by funext d e c o b;unfold cellAtBytes;rw[it,tz];rfl
theorem Cs(a:Array Func):∀(d:Nat),(P.ki a).alikeButTags d=P.alikeButTags d
 |0=>by funext t o;unfold Program.alikeButTags;rfl
 |d+1=>by funext t o;unfold Program.alikeButTags;rw[Cs a d]
def BX(a:Array Func):(P.ki a).stoodInAs=P.stoodInAs:=by funext t;unfold Program.stoodInAs;rw[show(P.ki a).depth=P.depth from rfl,Cs];rfl
def ix(a:Array Func):(P.ki a).stoodInHeld=P.stoodInHeld:=by funext t;unfold Program.stoodInHeld;rw[BX]
def SR.info(t:eD):SR P (λ_ a b=>a=b/\P.info? t=some a) ρ (typeInfo t) (typeInfo t):=by
 unfold typeInfo;refine SR.prog.fM λc a b _ h=>?_;obtain⟨rfl,rfl⟩:=h;try simp only[iI,mB,kz,ky,gZ,it,iO,ix]
 split;rename_i i d;exact .gA ⟨rfl,d⟩;exact .stuck
def SR.under(t:eD):SR P (λ_ a b=>a=b/\P.underlying t=some a) ρ (Go.underlying t) (Go.underlying t):=by
 unfold Go.underlying;refine SR.prog.fM λc a b _ h=>?_;obtain⟨rfl,rfl⟩:=h;try simp only[iI,mB,kz,ky,gZ,it,iO,ix]
 split;rename_i i d;exact .gA ⟨rfl,d⟩;exact .stuck
theorem SR.size(t:eD):SR P (λ_ a b=>a=b/\∃i,P.info? t=some i/\a=i.size) ρ (Go.sizeOf t) (Go.sizeOf t):=by unfold Go.sizeOf;refine(SR.info t).fM λc a b _ h=>?_;obtain⟨rfl,h⟩:=h;exact .gA ⟨rfl,a,h,rfl⟩
theorem SR.isAgg(t:eD):SE P ρ (Go.isAgg t) (Go.isAgg t):=by unfold Go.isAgg;refine(SR.under t).fM λc a b _ h=>?_;obtain⟨rfl,h⟩:=h;split<;>exact .gA rfl
theorem SR.zero{S:fG->Bool}(F:Fit P S D)(t:eD):SV P ρ (zeroValue t) (zeroValue t):=by unfold zeroValue;refine(SR.info t).fM λc a b _ h=>?_;obtain⟨rfl,h⟩:=h;split;rename_i z d;exact .gA (rj (F.zero t a z h d));exact .iY
theorem SR.goPanic{α a:Type}{A:fj->α->a->Prop}(h:VR ρ x y)(b:vp ρ x):SR P A ρ (Go.goPanic (α:=α) x) (Go.goPanic (α:=a) y):=.panic h b
def SR.l7{α f:Type}{A:fj->α->f->Prop}(e:RuntimeError)(g:(∃x y s c,e=.bounds x y s c)\/(∃m,e=.error m)\/(∃m,e=.plain m)\/e=.nilDeref):SR P A ρ (runtimePanic (α:=α) e) (runtimePanic (α:=f) e):=by
 unfold runtimePanic;refine SR.prog.fM λi a b _ h=>?_;obtain⟨rfl,rfl⟩:=h;try simp only[iI,mB,kz,ky,gZ,it,iO,ix]
 obtain⟨x,y,s,c,rfl⟩|⟨m,rfl⟩|⟨m,rfl⟩|rfl:=g;exact .panic (.iface _ (rj (d:=1) (by simp[gR]))) (.inr λ_ _ _ h=>by cases h);exact .panic (.iface _ (.string _)) (.inr λ_ _ _ h=>by cases h);exact .panic (.iface _ (.string _)) (.inr λ_ _ _ h=>by cases h);exact .panic (.iface _ (.string _)) (.inr λ_ _ _ h=>by cases h)
theorem SR.boundsPanic{α e:Type}{A:fj->α->e->Prop}(k:IntKind)(x y:Int)(c:BoundsCode):SR P A ρ (Go.boundsPanic (α:=α) k x y c) (Go.boundsPanic (α:=e) k x y c):=by unfold Go.boundsPanic;dsimp only;split;refine SR.fM (A:=λ_ a b=>a=b) ?_ λd a b _ h=>?_;refine SR.fM (A:=λ_ a b=>a=b) (.choose λn=>.pure rfl) λd a b _ h=>?_;subst h;exact .gA rfl;subst h;exact SR.l7 _ (.inl ⟨_,_,_,_,rfl⟩);refine SR.fM (A:=λ_ a b=>a=b) (.gA rfl) λd a b _ h=>?_;subst h;exact SR.l7 _ (.inl ⟨_,_,_,_,rfl⟩)
def SR.ld{a:Addr}(b:AR ρ h a):SV P ρ (Go.load h) (Go.load a):=.load b λ_ _ c=>.pure c
def SR.st{a:Addr}(b:AR ρ h a)(c:VR ρ x y):SE P ρ (Go.store h x) (Go.store a y):=.store b c (.pure rfl)
theorem SR.loadCellsFrom{f:Addr}:∀(n i:Nat) {ρ:fj} {c a:fZ},AR ρ h f->iD ρ c a->SR P (λρ h b=>iD ρ h b) ρ (Go.loadCellsFrom h i n c) (Go.loadCellsFrom f i n a)
 |0,_,_,_,_,_,e=>.gA e
 |n+1,i,_,_,_,g,e=>(SR.ld (g.add i)).fM λ_ _ _ d j=>SR.loadCellsFrom n (i+1) (g.mono d) ((e.mono d).push j)
theorem SR.loadCells{a:Addr}(c:AR ρ h a)(n:Nat):SR P (λρ h b=>iD ρ h b) ρ (Go.loadCells h n) (Go.loadCells a n):=SR.loadCellsFrom n 0 c .nil
theorem SR.storeCells{e:Addr}:∀{d a:fD} (i:Nat) {ρ:fj},AR ρ h e->sU ρ d a->SE P ρ (Go.storeCells h d i) (Go.storeCells e a i)
 |[],_,i,_,_,b=>by cases b;exact .gA rfl
 |v::d,_,i,ρ,f,b=>by
  cases b with
  |cons b t=>
   unfold Go.storeCells;exact(SR.st (f.add i) b).fM λg _ _ c _=>SR.storeCells (i+1) (f.mono c) (t.mono c)
theorem SR.loadVar{f:Addr}(t:eD)(g:AR ρ h f):SV P ρ (Go.loadVar t h) (Go.loadVar t f):=by unfold Go.loadVar;refine(SR.isAgg t).fM λi x m b j=>?_;subst j;split;refine(SR.size t).fM λd n o a k=>?_;obtain⟨rfl,_⟩:=k;exact(SR.loadCells ((g.mono b).mono a) n).fM λe c p _ l=>.gA l.agg;exact SR.ld (g.mono b)
theorem SR.storeVar{d:Addr}(t:eD)(f:AR ρ h d)(g:VR ρ x y):SE P ρ (Go.storeVar t h x) (Go.storeVar t d y):=by unfold Go.storeVar;refine(SR.size t).fM λi n k a j=>?_;obtain⟨rfl,_⟩:=j;have e:=(g.mono a).cells;by_cases b:x.cells.size=n;have c:y.cells.size=n:=e.size▸b;simp only[b,c,ne_eq,not_true_eq_false,gy];exact(SR.storeCells 0 (f.mono a) e.list).jm λ_ _ _ _ _=>trivial;simp only[ne_eq,b,not_false_eq_true,fF];exact .stuck
theorem SR.newRow(t:eD)(h:iD ρ W X):SR P (λρ a b=>AR ρ a b) ρ (Go.newRow t W) (Go.newRow t X):=by unfold Go.newRow;exact SR.fM (A:=λρ a b=>ρ.r a b/\ρ.sh a=none) (.new (.cells h λ_ h=>h) λn g i j d=>.pure ⟨fj.uI _ _ _ _ _,d⟩) λe a b f c=>.gA (.of _ _ c.1 c.2)
theorem SR.newVar(t:eD)(h:VR ρ x y):SR P (λρ a b=>AR ρ a b) ρ (Go.newVar t x) (Go.newVar t y):=SR.newRow t h.cells
theorem SR.part(t:eD)(h:iD ρ W X)(b:Nat):SV P ρ (Go.part t W b) (Go.part t X b):=by unfold Go.part;refine(SR.isAgg t).fM λg x l c i=>?_;subst i;split;refine(SR.size t).fM λd n m a j=>?_;obtain⟨rfl,_⟩:=j;exact .gA (((h.mono c).mono a).extract _ _).agg;obtain⟨e,f⟩|⟨v,o,e,f,k⟩:=(h.mono c).get? b;rw[e];exact .stuck;rw[e,f];exact .gA k
def SR.intOf(h:VR ρ x y):SR P (λ_ a b=>a=b/\x=.int a.1 a.2/\y=.int a.1 a.2) ρ (asIntOf x) (asIntOf y):=by cases h<;>first|exact .gA ⟨rfl,rfl,rfl⟩|exact .iY|exact .stuck
theorem SR.asInt(h:VR ρ x y):SE P ρ (Go.asInt x) (Go.asInt y):=by unfold Go.asInt;refine(SR.intOf h).fM λ_ a b _ h=>?_;obtain⟨rfl,_⟩:=h;exact .gA rfl
theorem SR.asBool(h:VR ρ x y):SE P ρ (Go.asBool x) (Go.asBool y):=by cases h<;>first|exact .gA rfl|exact .stuck
theorem SR.asAddr(h:VR ρ x y):SR P (λρ a b=>AR ρ a b) ρ (Go.asAddr x) (Go.asAddr y):=by cases h<;>first|exact .gA ‹_›|exact SR.l7 _ (.inr (.inr (.inr rfl)))|exact .stuck
def SR.sure(h:VR ρ x y):SR P (λρ a b=>AR ρ a b) ρ (Instr.sureAddr x) (Instr.sureAddr y):=by cases h<;>first|exact .gA ‹_›|exact .stuck
theorem SR.asAgg(h:VR ρ x y):SR P (λρ a b=>iD ρ a b) ρ (Go.asAgg x) (Go.asAgg y):=by cases h<;>first|exact .gA ⟨‹_›,‹_›⟩|exact .stuck
end
end Go.eV
namespace Go.Proofs
open Go
noncomputable def V.zJ:Code:=
 (Code.region 0 #[{dst:=some 9,op:=Op.move (.const (.bool true)),type:=4,pos:= "",after:=#[],guard:=none},{dst:=some 1,op:=Op.makeFunc (.func 227) #[] #[.tmp 0,.tmp 1,.tmp 2,.tmp 3,.tmp 4,.tmp 5,.tmp 6,.tmp 7,.tmp 8,.tmp 9],type:=0,pos:= "",after:=#[],guard:=none}] false).seq
 ((Code.region 1 #[{dst:=some 2,op:=Op.move (.const (.bool true)),type:=4,pos:= "",after:=#[],guard:=none},{dst:=some 2,op:=Op.move (.const (.bool false)),type:=4,pos:= "",after:=#[],guard:=none}] true).seq
 ((Code.cond (.tmp 2) ((Code.region 2 #[{dst:=some 3,op:=Op.box 200 (.tmp 1),type:=0,pos:= "",after:=#[],guard:=none}] false).seq (Code.region 3 #[{dst:=none,op:=Op.panic (.const (.iface 3 (.int .i64 7))),type:=0,pos:= "",after:=#[],guard:=none}] false)) .skip).seq
 ((Code.region 4 #[{dst:=some 3,op:=Op.build 245 #[(0,.tmp 0)],type:=245,pos:= "",after:=#[],guard:=none}] false).seq
 ((Code.region 5 #[{dst:=some 4,op:=Op.box 245 (.tmp 3),type:=0,pos:= "",after:=#[],guard:=none}] false).seq
 ((Code.region 6 #[{dst:=some 5,op:=Op.call {callee:=.value (.func 216),args:=#[.tmp 4],argTypes:=#[243]},type:=0,pos:= "",after:=#[],guard:=none}] false).seq
 ((Code.region 7 #[{dst:=some 6,op:=Op.fieldAddr 245 (.tmp 4) 3,type:=0,pos:= "",after:=#[],guard:=none}] false).seq
 ((Code.region 8 #[{dst:=some 7,op:=Op.load 199 (.tmp 6),type:=199,pos:= "",after:=#[],guard:=none}] false).seq
 Code.ret)))))))
noncomputable def V.f163:Func:={Tryz.f163 with ntmps:=9,results:=#[.tmp 7],body:=some V.zJ}
section
variable(P:eE)(fs:Array Func)
abbrev V.sub:eE:=P.ki fs
theorem V.NA(t:eD):(V.sub P fs).info? t=P.info? t:=rfl
theorem V.JV(t:eD):(V.sub P fs).underlying t=P.underlying t:=rfl
theorem V.rM(t:eD)(w:er):Sem.run (V.sub P fs) (typeInfo t) w=Sem.run P (typeInfo t) w:=by
 simp only[typeInfo,Sem.run_bind,run_program,Result.andThen_ok];cases P.info? t with
 |none=>simp only[run_stuck]
 |some i=>simp only[Sem.run_pure]
theorem V.qq(t:eD)(w:er):Sem.run (V.sub P fs) (underlying t) w=Sem.run P (underlying t) w:=by
 simp only[underlying,Sem.run_bind,run_program,Result.andThen_ok,V.JV];cases P.underlying t with
 |none=>simp only[run_stuck]
 |some i=>simp only[Sem.run_pure]
theorem V.Ih(t:eD)(w:er):Sem.run (V.sub P fs) (sizeOf t) w=Sem.run P (sizeOf t) w:=by simp only[sizeOf,Sem.run_bind,V.rM,Sem.run_pure]
theorem V.BY(t:eD)(w:er):Sem.run (V.sub P fs) (zeroValue t) w=Sem.run P (zeroValue t) w:=by
 simp only[zeroValue,Sem.run_bind,V.rM];cases Sem.run P (typeInfo t) w with
 |ok d w=>simp only[Result.andThen_ok];cases d.zero with
  |none=>simp only[run_unsupported]
  |some z=>simp only[Sem.run_pure]
 |halt h w=>simp only[Result.andThen_halt]
theorem V.Lo(t:eD)(w:er):Sem.run (V.sub P fs) (isAgg t) w=Sem.run P (isAgg t) w:=by
 simp only[isAgg,Sem.run_bind,V.qq];cases Sem.run P (underlying t) w with
 |ok d w=>
  simp only[Result.andThen_ok];split<;>simp only[Sem.run_pure]
 |halt h w=>simp only[Result.andThen_halt]
end
def V.Lp(P:eE)(fs:Array Func):(V.sub P fs).depth=P.depth:=rfl
def V.zp(P:eE)(fs:Array Func)(n:Nat)(t:eD):(V.sub P fs).eqGuardType n t=P.eqGuardType n t:=Go.eV.gZ fs n t
def V.zq(P:eE)(fs:Array Func)(t:eD):(V.sub P fs).stoodInHeld t=P.stoodInHeld t:=congrFun (Go.eV.ix fs) t
noncomputable def V.prog:eE:=V.sub Tryz.prog (Tryz.funcs.setIfInBounds 163 V.f163)
def V.Ii(P:eE)(fs:Array Func):(V.sub P fs).toTables=P.toTables:=rfl
@[simp] def V.Ct:V.prog.toTables=Tryz.prog.toTables:=V.Ii _ _
@[simp] def V.vt (t:eD):V.prog.underlying t=Tryz.prog.underlying t:=V.JV _ _ _
@[simp] def V.JW (t:eD):V.prog.info? t=Tryz.prog.info? t:=V.NA _ _ _
@[simp] def V.Fq (t:eD) (w:er):Sem.run V.prog (typeInfo t) w=Sem.run Tryz.prog (typeInfo t) w:=V.rM _ _ _ _
@[simp] def V.sizeOf_eq (t:eD) (w:er):Sem.run V.prog (sizeOf t) w=Sem.run Tryz.prog (sizeOf t) w:=V.Ih _ _ _ _
@[simp] def V.xG (t:eD) (w:er):Sem.run V.prog (underlying t) w=Sem.run Tryz.prog (underlying t) w:=V.qq _ _ _ _
@[simp] def V.UK (t:eD) (w:er):Sem.run V.prog (isAgg t) w=Sem.run Tryz.prog (isAgg t) w:=V.Lo _ _ _ _
@[simp] def V.QF (t:eD) (w:er):Sem.run V.prog (zeroValue t) w=Sem.run Tryz.prog (zeroValue t) w:=V.BY _ _ _ _
@[simp] def V.UL:V.prog.depth=Tryz.prog.depth:=V.Lp _ _
@[simp] def V.NB (n:Nat) (t:eD):V.prog.eqGuardType n t=Tryz.prog.eqGuardType n t:=V.zp _ _ _ _
@[simp] def V.NC (t:eD):V.prog.stoodInHeld t=Tryz.prog.stoodInHeld t:=V.zq _ _ _
@[simp] def V.func128:V.prog.funcs[128]? =some Tryz.f128:=by kernel_rfl
@[simp] def V.call128 (a:fZ) (w:er):Sem.run V.prog (callFunc 128 a) w=Result.ok (Next.enter 128 a) w:=by kernel_rfl
@[simp] def V.func129:V.prog.funcs[129]? =some Tryz.f129:=by kernel_rfl
@[simp] def V.func163:V.prog.funcs[163]? =some V.f163:=by kernel_rfl
@[simp] def V.func164:V.prog.funcs[164]? =some Tryz.f164:=by kernel_rfl
@[simp] def V.func190:V.prog.funcs[190]? =some Tryz.f190:=by kernel_rfl
@[simp] def V.func193:V.prog.funcs[193]? =some Tryz.f193:=by kernel_rfl
@[simp] def V.func194:V.prog.funcs[194]? =some Tryz.f194:=by kernel_rfl
@[simp] def V.call194 (a:fZ) (w:er):Sem.run V.prog (callFunc 194 a) w=Result.ok (Next.enter 194 a) w:=by kernel_rfl
@[simp] def V.call215 (a:fZ) (w:er):Sem.run V.prog (callFunc 215 a) w=Result.ok (Next.enter 215 a) w:=by kernel_rfl
@[simp] def V.call216 (a:fZ) (w:er):Sem.run V.prog (callFunc 216 a) w=Result.ok (Next.enter 216 a) w:=by kernel_rfl
@[simp] def V.func227:V.prog.funcs[227]? =some Tryz.f227:=by kernel_rfl
@[simp] def V.call227 (a:fZ) (w:er):Sem.run V.prog (callFunc 227 a) w=Result.ok (Next.enter 227 a) w:=by kernel_rfl
@[simp] def V.func228:V.prog.funcs[228]? =some Tryz.f228:=by kernel_rfl
@[simp] def V.func229:V.prog.funcs[229]? =some Tryz.f229:=by kernel_rfl
end Go.Proofs
namespace Go.Proofs
abbrev Tryz.link:Go.Conc.Lib.WgLink:={add:=187,done:=189,wait:=192,relMerge:=202,disable:=203,enable:=204,inBubble:=205,associate:=206,fatal:=207,uOr:=208,uAdd:=209,raceRead:=210,uLoad:=211,uStore:=212,disassociate:=213,semrelease:=214,acquire:=217,isAssociated:=218,uCas:=219,raceWrite:=220,semacquire:=221,orU64:=223,addU64:=224,loadU64:=225,storeU64:=226,casU64:=230,tWgP:=255,tUP:=257,tAssoc:=258,tWg:=241,tAU:=238,tU64:=119,tUint:=132,tU32:=239,tPU32:=262,tPAU:=270,tPU64:=272,tNoCopy:=234,tANoCopy:=235,tAlign64:=236}
def Tryz.yG:Go.Conc.Lib.WgLib Tryz.prog Tryz.link:=
 ⟨Tryz.func187,Tryz.func189,Tryz.func192,Tryz.func202,Tryz.func203,Tryz.func204,Tryz.func205,Tryz.func206,Tryz.func207,Tryz.func208,Tryz.func209,Tryz.func210,Tryz.func211,Tryz.func212,Tryz.func213,Tryz.func214,Tryz.func217,Tryz.func218,Tryz.func219,Tryz.func220,Tryz.func221,Tryz.func223,Tryz.func224,Tryz.func225,Tryz.func226,Tryz.func230,Tryz.underlying255,Tryz.runUnderlying255,Tryz.sizeOf255,Tryz.isAgg255,Tryz.zeroValue255,Tryz.underlying257,Tryz.runUnderlying257,Tryz.sizeOf257,Tryz.isAgg257,Tryz.zeroValue257,Tryz.underlying258,Tryz.runUnderlying258,Tryz.sizeOf258,Tryz.isAgg258,Tryz.zeroValue258,Tryz.underlying241,Tryz.runUnderlying241,Tryz.sizeOf241,Tryz.isAgg241,Tryz.zeroValue241,Tryz.underlying238,Tryz.runUnderlying238,Tryz.sizeOf238,Tryz.isAgg238,Tryz.zeroValue238,Tryz.underlying119,Tryz.runUnderlying119,Tryz.sizeOf119,Tryz.isAgg119,Tryz.zeroValue119,Tryz.underlying132,Tryz.runUnderlying132,Tryz.sizeOf132,Tryz.isAgg132,Tryz.zeroValue132,Tryz.underlying239,Tryz.runUnderlying239,Tryz.sizeOf239,Tryz.isAgg239,Tryz.zeroValue239,Tryz.underlying262,Tryz.runUnderlying262,Tryz.sizeOf262,Tryz.isAgg262,Tryz.zeroValue262,Tryz.underlying270,Tryz.runUnderlying270,Tryz.sizeOf270,Tryz.isAgg270,Tryz.zeroValue270,Tryz.underlying272,Tryz.runUnderlying272,Tryz.sizeOf272,Tryz.isAgg272,Tryz.zeroValue272,Tryz.underlying0,Tryz.runUnderlying0,Tryz.sizeOf0,Tryz.isAgg0,Tryz.zeroValue0,Tryz.underlying3,Tryz.runUnderlying3,Tryz.sizeOf3,Tryz.isAgg3,Tryz.zeroValue3,Tryz.underlying4,Tryz.runUnderlying4,Tryz.sizeOf4,Tryz.isAgg4,Tryz.zeroValue4,Tryz.underlying9,Tryz.runUnderlying9,Tryz.sizeOf9,Tryz.isAgg9,Tryz.zeroValue9,Tryz.underlying20,Tryz.runUnderlying20,Tryz.sizeOf20,Tryz.isAgg20,Tryz.zeroValue20,Tryz.underlying21,Tryz.runUnderlying21,Tryz.sizeOf21,Tryz.isAgg21,Tryz.zeroValue21,(by kernel_rfl),(by kernel_rfl)⟩
end Go.Proofs
namespace Go.eV
section
variable{P:eE}{ρ:fj}
theorem SR.Cu{d g:Type}{f:d->Sem g}:∀(l:List d) {ρ:fj},(∀x∈l,∀c,SE P c (f x) (f x))->SE P ρ (l.mapM f) (l.mapM f)
 |[],_,_=>by rw[List.mapM_nil];exact .gA rfl
 |x::l,ρ,h=>by rw[List.mapM_cons];refine(h x (by simp) ρ).fM λ_ a b _ e=>?_;subst e;refine(SR.Cu l λy i=>h y (by simp[i])).fM λ_ a b _ e=>?_;subst e;exact .gA rfl
theorem SR.mapM{g i:Type}{f:g->Sem i}(c:Array g)(h:∀x∈c,∀d,SE P d (f x) (f x)):SE P ρ (c.mapM f) (c.mapM f):=by rw[JR];refine SR.fM (f:=λl=>Pure.pure l.toArray) (f':=λl=>Pure.pure l.toArray) (SR.Cu c.toList λx j=>h x (by simpa using j)) λ_ a b _ e=>?_;subst e;exact .gA rfl
theorem SR.forIn_list{k g:Type}{f m:k->g->Sem (ForInStep g)}:∀(l:List k) (b:g) {ρ:fj},(∀x∈l,∀r c,fj.Le ρ c->SE P c (f x r) (m x r))->SE P ρ (forIn l b f) (forIn l b m)
 |[],b,_,_=>by simp only[List.forIn_nil];exact .gA rfl
 |x::l,b,ρ,h=>by
  simp only[List.forIn_cons];refine(h x (by simp) b ρ (.refl _)).fM λi a o j e=>?_;subst e;cases a with
  |done b=>exact .gA rfl
  |yield b=>exact SR.forIn_list l b λy n r c d=>h y (by simp[n]) r c (j.trans d)
theorem SR.alloc{S:fG->Bool}(F:Fit P S D)(t:eD)(v:eu):SV P ρ (Instr.alloc t true v) (Instr.alloc t true v):=by unfold Instr.alloc;exact(SR.zero F t).fM λc z g d e=>SR.fM (SR.newVar t e) λb a h _ f=>.gA (.ptr f)
theorem SR.box(t:eD)(h:VR ρ x y):SV P ρ (Instr.box t x) (Instr.box t y):=by unfold Instr.box;exact SR.fM (SR.newVar t h) λb a d _ c=>.gA (.ptr c)
inductive qK (ρ:fj):List (Nat×eu)->List (Nat×eu)->Prop
 |nil:qK ρ [] []
 |cons {i:Nat} {v v':eu} {l l':List (Nat×eu)} (h:VR ρ v v') (t:qK ρ l l'):qK ρ ((i,v)::l) ((i,v')::l')
theorem qK.mono{ρ a:fj}(b:fj.Le ρ a){l c:List (Nat×eu)}(h:qK ρ l c):qK a l c:=by
 induction h with
 |nil=>exact .nil
 |cons h _ d=>exact .cons (h.mono b) d
theorem xH{ev ev':fI->eu}:∀{l:List (Nat×fI)},(∀x∈l,VR ρ (ev x.2) (ev' x.2))->qK ρ (l.map λ(i,x)=>(i,ev x)) (l.map λ(i,x)=>(i,ev' x))
 |[],_=>.nil
 |(i,x)::l,h=>.cons (h (i,x) (by simp)) (xH λy a=>h y (by simp[a]))
def ND(h:sU ρ M Y)(c:Nat):∀(n:Nat) {b a:fZ},iD ρ b a->
 iD ρ ((M.zipIdx n).foldl (λb (x:eu×Nat)=>b.setIfInBounds (c+x.2) x.1) b) ((Y.zipIdx n).foldl (λb (x:eu×Nat)=>b.setIfInBounds (c+x.2) x.1) a):=by
 induction h with
 |nil=>exactλn b a d=>d
 |cons h _ e=>
  intro n b a d;simp only[List.zipIdx_cons,nD];exact e (n+1) (d.set _ h)
def Ij(place:Nat->Option (Nat×Nat)){l b:List (Nat×eu)}(h:qK ρ l b):∀{c a:fZ},iD ρ c a->(Instr.fill place c l=none/\Instr.fill place a b=none)\/∃r f,Instr.fill place c l=some r/\Instr.fill place a b=some f/\iD ρ r f:=by
 induction h with
 |nil=>exactλd=>.inr ⟨_,_,rfl,rfl,d⟩
 | @cons i v m l b h _ g=>
  intro c a d;simp only[Instr.fill];cases place i with
  |none=>exact .inl ⟨rfl,rfl⟩
  |some p=>
   obtain⟨e,size⟩:=p;have j:=h.cells.size;have k:=d.size;simp only[<-j,<-k];split;exact .inl ⟨rfl,rfl⟩;refine g ?_;have:=ND h.cells.list e 0 d;rw[<-Nt,<-Nt,Array.toList_zipIdx,Array.toList_zipIdx];exact this
theorem SR.build{S:fG->Bool}(F:Fit P S D)(t:eD){q j:Array (Nat×eu)}(h:qK ρ q.toList j.toList):SV P ρ (Instr.build t q) (Instr.build t j):=by unfold Instr.build;refine(SR.zero F t).fM λm z y n u=>?_;have v:=h.mono n;refine(SR.under t).fM λo a b d e=>?_;obtain⟨rfl,_⟩:=e;have s:=v.mono d;have k:=(u.mono d).cells;split;refine SR.fM (SR.mapM _ λx _ m=>?_) λf a b c e=>?_;refine(SR.size _).fM λ_ a b _ e=>?_;obtain⟨rfl,_⟩:=e;exact .gA rfl;subst e;obtain⟨g,l⟩|⟨r,w,g,l,p⟩:=Ij (a[·]?) (s.mono c) (k.mono c);simp only[g];exact .stuck;simp only[g,l];exact .gA p.agg;rename_i e _;refine(SR.size e).fM λf a b c e=>?_;obtain⟨rfl,_⟩:=e;obtain⟨g,l⟩|⟨r,w,g,l,p⟩:=Ij (λi=>some (i*a,a)) (s.mono c) (k.mono c);simp only[g];exact .stuck;simp only[g,l];exact .gA p.agg;exact .stuck
def DK(h:iD ρ W X)(n:Nat):iD ρ ((Array.range n).map (W[·%W.size]!)) ((Array.range n).map (X[·%X.size]!)):=by
 refine iD.map _ _ _ λi _=>?_;have e:∀(a:fZ) (i:Nat),a[i]! =(a[i]?).getD default:=λa i=>by simp[getElem!_def];cases a[i]? <;>rfl
 rw[e,e,<-h.size];obtain⟨b,c⟩|⟨v,f,b,c,d⟩:=h.get? (i%W.size);rw[b,c];exact .bool _;rw[b,c];exact d
theorem SR.buildSlice{S:fG->Bool}(F:Fit P S D)(t:eD)(n:Nat){o j:Array (Nat×eu)}(h:qK ρ o.toList j.toList):SV P ρ (Instr.buildSlice t n o) (Instr.buildSlice t n j):=by
 unfold Instr.buildSlice;refine(SR.under t).fM λp a b f e=>?_;obtain⟨rfl,_⟩:=e;have w:=h.mono f;split;rename_i e _;refine(SR.size e).fM λk a b g e=>?_;obtain⟨rfl,_⟩:=e;have y:=w.mono g;dsimp only;split;exact .iY;have tail:∀d z l,fj.Le k d->iD d z l->SV P d
  (match Instr.fill (λi=>some (i*a,a)) (Array.map (λx=>z[x%z.size]!) (Array.range (n*a))) o.toList with
    |some cells=>do Pure.pure (Value.slice (some (<-Go.newRow e cells)) n n)
    |_=>Go.stuck "buildSlice: a part of the wrong size")
  (match Instr.fill (λi=>some (i*a,a)) (Array.map (λx=>l[x%l.size]!) (Array.range (n*a))) j.toList with
    |some cells=>do Pure.pure (Value.slice (some (<-Go.newRow e cells)) n n)
    |_=>Go.stuck "buildSlice: a part of the wrong size"):=by
  intro d z l c m;obtain⟨q,v⟩|⟨r,G,q,v,B⟩:=Ij (λi=>some (i*a,a)) (y.mono c) (DK m (n*a));simp only[q];exact .stuck;simp only[q,v];exact SR.fM (SR.newRow _ B) λs x H _ C=>.gA (.slice _ _ C)
 split;exact SR.fM (A:=λρ a b=>iD ρ a b) (.gA .nil) λd z l c m=>tail _ _ _ c m;exact(SR.zero F _).fM λE z l u m=>SR.fM (A:=λρ a b=>iD ρ a b) (.gA m.cells) λd z l c m=>tail _ _ _ (u.trans c) m;exact .stuck
theorem SR.loadAt(t:eD)(h:VR ρ x y):SV P ρ (Instr.loadAt t x) (Instr.loadAt t y):=by unfold Instr.loadAt;exact(SR.sure h).fM λ_ a c _ b=>SR.loadVar t b
theorem SR.storeAt(t:eD){c:eu}(h:VR ρ y z)(d:VR ρ x c):SE P ρ (Instr.storeAt t y x) (Instr.storeAt t z c):=by unfold Instr.storeAt;exact(SR.sure h).fM λ_ a f b e=>SR.storeVar t e (d.mono b)
theorem SR.fieldAt(s:eD)(i:Nat)(g:Fp P (λ_=>false) false false (.fieldAddr s (.tmp 0) i)=true)(h:VR ρ x y):SV P ρ (Instr.fieldAt s x i) (Instr.fieldAt s y i):=by unfold Instr.fieldAt;refine(SR.under s).fM λm a b c e=>?_;obtain⟨rfl,r⟩:=e;have t:=h.mono c;simp only[Fp,r]at g;split;rename_i k;split;rename_i f u;simp only[u]at g;refine(SR.sure t).fM λo a v l p=>SR.fM (A:=λρ a b=>AR ρ a b) ?_ λ_ a v _ p=>.gA (.ptr p);unfold fieldPlace;refine(SR.size _).fM λq n z d e=>?_;obtain⟨rfl,j,w,rfl⟩:=e;simp only[w,bne_iff_ne,ne_eq]at g;rw[ez g,ez g];exact .gA ((p.mono d).add _);exact .stuck;exact .stuck
theorem SR.indexAt(t:eD){E:eu}(F:VR ρ x y)(G:VR ρ z E):SV P ρ (Instr.indexAt t x z) (Instr.indexAt t y E):=by
 unfold Instr.indexAt;refine(SR.intOf G).fM λu a b m e=>?_;obtain⟨rfl,_,_⟩:=e;have v:=F.mono m;obtain⟨k,z⟩:=a;dsimp only;refine(SR.under t).fM λw a b o e=>?_;obtain⟨rfl,_⟩:=e;have r:=v.mono o;cases a with
 |array i g=>
  refine(SR.sure r).fM λB p C s D=>SR.fM (A:=λ_ a b=>a=(some p,i,g)/\b=(some C,i,g)) (.gA ⟨rfl,rfl⟩) λj a b d e=>?_;obtain⟨rfl,rfl⟩:=e;dsimp only;refine(SR.under t).fM λl a b f e=>?_;obtain⟨rfl,_⟩:=e;split;refine(SR.size _).fM λq n H h e=>?_;obtain⟨rfl,_⟩:=e;exact .gA (.ptr ((((D.mono d).mono f).mono h).add _))
  ·repeat' split
   all_goals first|exact .iY|exact SR.boundsPanic _ _ _ _
 |slice g=>
  cases r with
  |iR i c=>
   refine SR.fM (A:=λ_ a b=>a=(none,i,g)/\b=(none,i,g)) (.gA ⟨rfl,rfl⟩) λj a b d e=>?_;obtain⟨rfl,rfl⟩:=e;dsimp only;refine(SR.under t).fM λl a b f e=>?_;obtain⟨rfl,_⟩:=e;exact SR.boundsPanic _ _ _ _
  | @slice p C i c D=>
   refine SR.fM (A:=λ_ a b=>a=(some p,i,g)/\b=(some C,i,g)) (.gA ⟨rfl,rfl⟩) λj a b d e=>?_;obtain⟨rfl,rfl⟩:=e;dsimp only;refine(SR.under t).fM λl a b f e=>?_;obtain⟨rfl,_⟩:=e;split;refine(SR.size _).fM λq n H h e=>?_;obtain⟨rfl,_⟩:=e;exact .gA (.ptr (((D.mono d).mono f).mono h|>.add _))
   ·repeat' split
    all_goals first|exact .iY|exact SR.boundsPanic _ _ _ _
  |_=>exact .dead rfl
 |_=>exact .dead rfl
def SR.bound(h:VR ρ x y)(g:Nat)(c:BoundsCode):SE P ρ (Instr.sliceBound x g c) (Instr.sliceBound y g c):=by unfold Instr.sliceBound;refine(SR.intOf h).fM λf a b d e=>?_;obtain⟨rfl,_,_⟩:=e;obtain⟨k,i⟩:=a;dsimp only;split;exact .gA rfl;exact SR.boundsPanic _ _ _ _
inductive tA (ρ:fj):Option eu->Option eu->Prop
 |none:tA ρ none none
 |some {v v':eu} (h:VR ρ v v'):tA ρ (some v) (some v')
theorem tA.mono{ρ a:fj}(b:fj.Le ρ a){o c:Option eu}(h:tA ρ o c):tA a o c:=by
 cases h with
 |none=>exact .none
 |some h=>exact .some (h.mono b)
def VU(h m:Nat)(c:BoundsCode)(g d:Option eu):tA ρ g d->SE P ρ (match g with|some v=>do let l<-Instr.sliceBound v h c;Pure.pure (l,h,m)|none=>do let l<-Pure.pure 0;Pure.pure (l,h,m))
 (match d with|some v=>do let l<-Instr.sliceBound v h c;Pure.pure (l,h,m)|none=>do let l<-Pure.pure 0;Pure.pure (l,h,m)):=by
 intro f;cases f with
 |none=>exact SR.fM (A:=λ_ a b=>a=b) (.gA rfl) λ_ a b _ e=>by subst e;exact .gA rfl
 |some f=>exact SR.fM (SR.bound f _ _) λ_ a b _ e=>by subst e;exact .gA rfl
def SR.bounds(l:Bool)(n o:Nat){t i w p x q:Option eu}(z:tA ρ t i)(y:tA ρ w p)(u:tA ρ x q):SE P ρ (Instr.sliceBounds l n o t w x) (Instr.sliceBounds l n o i p q):=by
 unfold Instr.sliceBounds;have j:=λr (v:fj.Le ρ r) h m c=>VU h m c (ρ:=r) t i (z.mono v) (P:=P);cases u with
 |none=>
  dsimp only;refine SR.fM (A:=λ_ a b=>a=b) (.gA rfl) λk m s d e=>?_;subst e;cases y with
  |none=>
   dsimp only;refine SR.fM (A:=λ_ a b=>a=b) (.gA rfl) λg m s f e=>?_;subst e;exact j _ (d.trans f) _ _ _
  |some h=>
   dsimp only;refine SR.fM (SR.bound (h.mono d) _ _) λg m s f e=>?_;subst e;exact j _ (d.trans f) _ _ _
 |some u=>
  dsimp only;refine SR.fM (SR.bound u _ _) λk m s d e=>?_;subst e;cases y with
  |none=>exact .dead rfl
  |some h=>
   dsimp only;refine SR.fM (SR.bound (h.mono d) _ _) λg m s f e=>?_;subst e;exact j _ (d.trans f) _ _ _
theorem SR.slice(t:eD){x B:eu}{C q D r v k:Option eu}(F:VR ρ x B)(G:tA ρ C q)(H:tA ρ D r)(E:tA ρ v k):SV P ρ (Instr.slice t x C D v) (Instr.slice t B q r k):=by
 unfold Instr.slice;refine(SR.under t).fM λw a b f e=>?_;obtain⟨rfl,_⟩:=e;have l:=F.mono f;have m:=G.mono f;have o:=H.mono f;have s:=E.mono f;have I:v.isSome=k.isSome:=by cases E<;>rfl
 cases a with
 |string=>
  cases l<;>first
   |exact .stuck
   |(dsimp only;rw[<-I];split;exact .stuck;refine(SR.bounds _ _ _ m o .none).fM λg a b _ e=>?_;subst e;exact .gA (.string _))
 |slice h=>
  cases l<;>first
   |exact .stuck
   |(dsimp only;refine(SR.bounds _ _ _ m o s).fM λg a b d e=>?_;subst e;refine(SR.size h).fM λp n J c e=>?_;obtain⟨rfl,_⟩:=e;refine .gA ?_;split;first|exact .iR _ _|exact .slice _ _ ((AR.mono d ‹_›).mono c)
     first|exact .iR _ _|exact .slice _ _ (((AR.mono d ‹_›).mono c).add _))
 |pointer y=>
  refine(SR.asAddr l).fM λg a L d K=>(SR.under y).fM λp a b c e=>?_;obtain⟨rfl,_⟩:=e;cases a with
  |array n h=>
   refine(SR.bounds _ _ _ ((m.mono d).mono c) ((o.mono d).mono c) ((s.mono d).mono c)).fM λz a b i e=>?_;subst e;refine(SR.size h).fM λA n J j e=>?_;obtain⟨rfl,_⟩:=e;have u:=((K.mono c).mono i).mono j;refine .gA (.slice _ _ ?_);split;exact u;exact u.add _
  |_=>exact .stuck
 |_=>exact .stuck
theorem SR.sliceAt(t:eD){w h z i A j:Option eu}(B:VR ρ x y)(C:tA ρ w h)(D:tA ρ z i)(E:tA ρ A j):SV P ρ (Instr.sliceAt t x w z A) (Instr.sliceAt t y h i j):=by
 unfold Instr.sliceAt;refine(SR.under t).fM λr a b c e=>?_;obtain⟨rfl,_⟩:=e;have k:=B.mono c;have l:=C.mono c;have m:=D.mono c;have o:=E.mono c;cases a with
 |array n p=>
  refine(SR.sure k).fM λs a G d F=>(SR.bounds _ _ _ (l.mono d) (m.mono d) (o.mono d)).fM λu a b f e=>?_;subst e;refine(SR.size p).fM λv n H g e=>?_;obtain⟨rfl,_⟩:=e;have q:=(F.mono f).mono g;refine .gA (.slice _ _ ?_);split;exact q;exact q.add _
 |_=>exact SR.slice t k l m o
theorem SR.index(t:eD){o:eu}(p:VR ρ x y)(q:VR ρ z o):SV P ρ (Instr.index t x z) (Instr.index t y o):=by
 unfold Instr.index;refine(SR.intOf q).fM λi a b c e=>?_;obtain⟨rfl,_,_⟩:=e;have j:=p.mono c;obtain⟨k,z⟩:=a;refine(SR.under t).fM λl a b d e=>?_;obtain⟨rfl,_⟩:=e;have h:=j.mono d;cases a with
 |array r g=>
  cases h<;>first
   |exact .stuck
   |(dsimp only;split;refine(SR.size g).fM λm n s f e=>?_;obtain⟨rfl,_⟩:=e;exact SR.part g (iD.mono f ⟨‹_›,‹_›⟩) _;exact SR.boundsPanic _ _ _ _)
 |string=>
  cases h<;>first
   |exact .stuck
   |(dsimp only;split;exact .gA (.int _ _);exact SR.boundsPanic _ _ _ _)
 |_=>exact .stuck
theorem SR.field(t:eD)(k:VR ρ x y)(i:Nat):SV P ρ (Instr.field t x i) (Instr.field t y i):=by
 unfold Instr.field;refine(SR.under t).fM λg a b c e=>?_;obtain⟨rfl,_⟩:=e;have h:=k.mono c;cases a with
 |struct d=>
  dsimp only;split;exact(SR.asAgg h).fM λj a m f l=>SR.part _ l _;exact .stuck
 |_=>exact .stuck
theorem SR.extract(d:VR ρ x y)(i:Nat):SV P ρ (Instr.extract x i) (Instr.extract y i):=by
 unfold Instr.extract;cases d with
 |tuple e f=>
  dsimp only;obtain⟨b,c⟩|⟨v,h,b,c,g⟩:=iD.get? ⟨e,f⟩ i;rw[b];exact .stuck;rw[b,c];exact .gA g
 |DI j a=>simp;exact .stuck
 |_=>exact .stuck
theorem SR.unary(a:UnOp)(b:VR ρ x y):SV P ρ (Op.unary a x) (Op.unary a y):=by
 unfold Op.unary;cases a<;>cases b<;>first
  |exact .stuck
  |exact .iY
  |exact .gA (.int _ _)
  |exact .gA (.bool _)
end
section
variable{P:eE}{ρ:fj}
def AR.eq{c b d:Addr}(a:AR ρ h c)(k:AR ρ b d)(e:h=b):c=d:=by
 subst e;cases a with
 |mk f g a=>
  cases k with
  |mk i j k=>rw[ρ.oK _ _ _ a k]
theorem AR.r{b:Addr}(a:AR ρ h b):ρ.r h.block b.block:=by cases a with|mk o s a=>exact a
theorem AR.off{a:Addr}(b:AR ρ h a):h.off+(ρ.sh h.block).getD 0=a.off/\h.spot=a.spot:=by cases b with|mk o s b=>exact⟨rfl,rfl⟩
def SR.Vz(h:ρ.r m k):SR P (λρ a b=>(ρ.sh m=none/\a=b)\/∃c y,a=some (vJ,c)/\b=some y) ρ (Go.shape m) (Go.shape k):=.shape h (λd x=>.pure (.inl ⟨d,rfl⟩)) λ_ c y=>.pure (.inr ⟨c,y,rfl,rfl⟩)
theorem SR.viewAt(h:ρ.r m k):SE P ρ (Go.viewAt m) (Go.viewAt k):=by
 unfold Go.viewAt;refine(SR.Vz h).fM λc a b d e=>?_;obtain⟨_,rfl⟩|⟨j,y,rfl,rfl⟩:=e;case inr=>exact .gA rfl
 try dsimp only
 split;exact .gA rfl;refine SR.fM (A:=λρ a b=>mq ρ a b) (.getObj (d.r _ _ h) λo i f _=>.pure f) λg o i _ f=>?_;cases f<;>exact .gA rfl
theorem SR.numberAt(h:ρ.r m k):SR P (λρ a b=>(a=none/\b=none)\/∃x y l,a=some (x,l)/\b=some (y,l)/\AR ρ x y) ρ (Go.numberAt m) (Go.numberAt k):=by
 unfold Go.numberAt;refine(SR.Vz h).fM λc a b d e=>?_;obtain⟨_,rfl⟩|⟨j,y,rfl,rfl⟩:=e;case inr=>exact .gA (.inl ⟨rfl,rfl⟩)
 try dsimp only
 split;exact .gA (.inl ⟨rfl,rfl⟩);refine SR.fM (A:=λρ a b=>mq ρ a b) (.getObj (d.r _ _ h) λo i f _=>.pure f) λg o i _ f=>?_;cases f with
 |number l h=>exact .gA (.inr ⟨_,_,l,rfl,rfl,h⟩)
 |_=>exact .gA (.inl ⟨rfl,rfl⟩)
def SR.behind{d:Addr}(f:AR ρ h d):SR P (λρ h b=>AR ρ h.1 b.1/\h.2=b.2) ρ (behindNumber h) (behindNumber d):=by unfold behindNumber;refine(SR.numberAt f.r).fM λa x y c e=>?_;obtain⟨rfl,rfl⟩|⟨x,y,l,rfl,rfl,g⟩:=e;exact .gA ⟨f.mono c,rfl⟩;exact .gA ⟨g,rfl⟩
theorem SR.noView{b:Addr}(c:AR ρ h b):SE P ρ (Go.noView h) (Go.noView b):=by unfold Go.noView;refine(SR.viewAt c.r).fM λa x y d e=>?_;subst e;split;exact .iY;exact .gA rfl
theorem SR.byteOf{j:Addr}(f:AR ρ h j)(n:ρ.sh h.block=none):SE P ρ (Go.byteOf h) (Go.byteOf j):=by
 have o:h.off=j.off:=by have:=f.off.1;rw[n]at this;exact this
 unfold Go.byteOf;rw[<-f.off.2];try dsimp only
 split;exact .gA rfl;refine SR.prog.fM λk x y c e=>?_;obtain⟨rfl,rfl⟩:=e;try simp only[iI,mB,kz,ky,gZ,it,iO,ix]
 refine(SR.noView (f.mono c)).fM λd _ _ a _=>?_;have l:d.sh h.block=none:=by rw[<-a.g,<-c.g];exact n
 refine SR.fM (A:=λ_ h b=>h=b) (.shape (((f.mono c).mono a).r) (λ_ x=>.pure rfl) λf=>absurd l f) λm x y i e=>?_;subst e;try dsimp only
 split;rw[<-o];split;exact .gA rfl;split;exact .gA rfl;exact .stuck;exact .stuck
def SR.add{S:fG->Bool}(G:Fit P S D)(j:Array eD)(t:eD){w:eu}(h:VR ρ x z)(H:VR ρ y w)(I:∃a,x=.pointer a):
 SR P (λρ a b=>VR ρ a b/\∃l,a=.pointer l) ρ (Builtin.unsafeAdd_ j t #[x,y]) (Builtin.unsafeAdd_ j t #[z,w]):=by
 obtain⟨a,rfl⟩:=I;have p:∀(o u:fR),((o=none/\u=none)\/∃a v,o=some a/\u=some v/\AR ρ a v)->
  SR P (λρ a b=>VR ρ a b/\∃l,a=.pointer l) ρ (Builtin.unsafeAdd_ j t #[.pointer o,y]) (Builtin.unsafeAdd_ j t #[.pointer u,w]):=by
  intro o u h;unfold Builtin.unsafeAdd_;refine(SR.asInt H).fM λA n m f e=>?_;subst e;dsimp only;obtain⟨rfl,rfl⟩|⟨a,v,rfl,rfl,q⟩:=h
  ·dsimp only;repeat' split
   all_goals exact .dead rfl
  dsimp only;split;refine(SR.viewAt (q.mono f).r).fM λB l y k e=>?_;subst e;split;exact .iY;exact .gA ⟨.ptr ((q.mono f).mono k),_,rfl⟩;split;exact .iY
  ·refine(SR.Vz (q.mono f).r).fM λC l y d e=>?_;obtain⟨F,rfl⟩|⟨m,y,rfl,rfl⟩:=e;case inr=>
    refine SR.prog.fM λi l y c e=>?_;obtain⟨rfl,rfl⟩:=e;have J:l.cellsOf vJ=0:=by simp[Program.cellsOf,G.bad]
    simp only[cellAtBytes,J,true_or,fF];exact .iY
   try dsimp only
   split;refine SR.prog.fM λi l y c e=>?_;obtain⟨rfl,rfl⟩:=e;try simp only[iI,mB,kz,ky,gZ,it,iO,ix]
   have K:a.off=v.off:=by have:=((q.mono f).mono d).off.1;rw[F]at this;exact this
   rw[<-K];split;refine .gA ⟨.ptr ?_,_,rfl⟩;have:=((q.mono f).mono d).mono c;have E:i.sh a.block=none:=by rw[<-c.g];exact F
   cases this with|mk o s h=>exact .of _ _ h E
   exact .iY;exact .iY
 cases h with
 |kU=>exact p _ _ (.inl ⟨rfl,rfl⟩)
 |ptr h=>exact p _ _ (.inr ⟨_,_,rfl,rfl,h⟩)
theorem SR.asNumber{a:Addr}(l:Bool)(d:AR ρ h a):SV P ρ (Go.asNumber h l) (Go.asNumber a l):=by unfold Go.asNumber;exact SR.fM (A:=λρ h b=>ρ.r h b/\ρ.sh h=none) (.new (.number l d) λn i j k e=>.pure ⟨fj.uI _ _ _ _ _,e⟩) λf h b g c=>.gA (.ptr (.of _ _ c.1 c.2))
def SR.Cv{S:fG->Bool}(F:Fit P S D)(t:eD){n:eu}(r:VR ρ x z)(s:VR ρ y n)(u:∃a,x=.pointer a):SV P ρ (movedNumber t x y) (movedNumber t z n):=by
 unfold movedNumber;refine(SR.under t).fM λj a b c e=>?_;obtain⟨rfl,_⟩:=e;have k:=r.mono c;have f:=s.mono c;try dsimp only
 split;exact .iY;obtain⟨a,rfl⟩:=u;cases k with
 |kU=>exact(SR.add F #[] t .kU f ⟨_,rfl⟩).jm λ_ _ _ _ h=>h.1
 |ptr A=>
  dsimp only;refine(SR.behind A).fM λl p q d e=>?_;obtain⟨g,o⟩:=e;obtain⟨C,E⟩:=p;obtain⟨G,H⟩:=q;simp only at o g;subst o;dsimp only;refine(SR.add F #[] t (.ptr g) (f.mono d) ⟨_,rfl⟩).fM λm v w i e=>?_;obtain⟨B,I,rfl⟩:=e;cases B with
  |kU=>exact .gA .kU
  |ptr h=>exact SR.asNumber _ h
def SR.NE{S:fG->Bool}(F:Fit P S D)(t:eD){d:eu}(i:VR ρ x z)(f:VR ρ y d)(j:∃a,x=.pointer a):SV P ρ (movedPointer t x y) (movedPointer t z d):=by
 unfold movedPointer;obtain⟨a,rfl⟩:=j;cases i with
 |kU=>exact(SR.add F #[] t .kU f ⟨_,rfl⟩).jm λ_ _ _ _ h=>h.1
 |ptr g=>
  dsimp only;refine(SR.numberAt g.r).fM λc p q b e=>?_;have k:p.isSome=q.isSome:=by obtain⟨rfl,rfl⟩|⟨_,_,_,rfl,rfl,_⟩:=e<;>rfl
  rw[<-k];split;exact .iY;exact(SR.add F #[] t (.ptr (g.mono b)) (f.mono b) ⟨_,rfl⟩).jm λ_ _ _ _ h=>h.1
theorem SR.twoPlaces{S:fG->Bool}(F:Fit P S D){A:fj->Nat×Nat->Nat×Nat->Prop}(a b f g:Addr):SR P A ρ (Op.twoPlaces a b) (Op.twoPlaces f g):=by
 unfold Op.twoPlaces;have e:∀c:Bool,(c||decide (a.block>=P.globals.size))=true:=λc=>by simp[F.globals]
 refine SR.prog.fM λd x y h i=>?_;obtain⟨rfl,rfl⟩:=i;try simp only[iI,mB,kz,ky,gZ,it,iO,ix]
 rw[eC (e _)];exact .dead rfl
theorem SR.addrMod(d:P.info? vJ=none)(k:IntKind){l:Addr}(o:AR ρ h l)(n:Int):SV P ρ (Op.addrMod k h n) (Op.addrMod k l n):=by
 unfold Op.addrMod;refine(SR.Vz o.r).fM λf x y b e=>?_;obtain⟨p,rfl⟩|⟨m,y,rfl,rfl⟩:=e;case inr=>
  refine .never λw=>?_;obtain⟨c,q⟩:∃c,(typeInfo vJ).run P w=.halt (.stuck c) w:=by unfold typeInfo;rw[Sem.run_bind];simp only[show(Go.program).run P w=.ok P w from rfl,Result.andThen_ok,d];exact⟨_,rfl⟩
  refine⟨.stuck c,w,?_,rfl⟩;dsimp only;rw[Sem.run_bind,q];rfl
 try dsimp only
 split;refine(SR.info _).fM λi x y a e=>?_;obtain⟨rfl,_⟩:=e;try dsimp only
 split;exact .iY;refine(SR.byteOf ((o.mono b).mono a) (by rw[<-a.g];exact p)).fM λj x y _ e=>?_;subst e;exact .gA (.int _ _);exact .iY
def SR.VV{S:fG->Bool}(F:Fit P S D)(m:Nat):∀(d:Nat) (t:eD),ir P m t=true->m<=d->∀{ρ:fj} {x Q y R:eu},VR ρ x Q->VR ρ y R->SE P ρ (Op.equalIn d t x y) (Op.equalIn d t Q R):=by
 induction m with
 |zero=>intro d t h;simp[ir]at h
 |succ m ih=>
  intro d t K aa ρ x Q y R hx hy;obtain _|d:=d;omega;have I:m<=d:=by omega
  unfold Op.equalIn;refine(SR.under t).fM λT a b A e=>?_;obtain⟨rfl,hu⟩:=e;have C:=hx.mono A;have u:=hy.mono A;simp only[ir,hu]at K;cases a with
  |bool=>cases C<;>cases u<;>first|exact .gA rfl|exact .stuck
  |string=>cases C<;>cases u<;>first|exact .gA rfl|exact .stuck
  |slice e=>cases C<;>cases u<;>first|exact .gA rfl|exact .stuck
  |int k=>
   cases C with
   |ptr ha=>cases u with
    |ptr hb=>
     refine(SR.behind ha).fM λE p q g e=>(SR.behind (hb.mono g)).fM λG U q' l e'=>?_;dsimp only;have hg:∀(c:Bool) (n:Nat),(c&&decide (n<P.globals.size))=false:=λc n=>by simp[F.globals]
     refine SR.prog.fM λz x y o L=>?_;obtain⟨rfl,rfl⟩:=L;try simp only[iI,mB,kz,ky,gZ,it,iO,ix]
     rw[hg,hg];simp only[jE,gy];refine(SR.info t).fM λH i j s e2=>?_;obtain⟨rfl,_⟩:=e2;split;by_cases V:p.1=U.1;rw[show(p.1==U.1)=true by simpa using V,show(q.1==q'.1)=true by simpa using(e.1.mono l).eq e'.1 V];exact .gA rfl;rw[show(p.1==U.1)=false by simpa using V];exact .iY;exact .iY
    |int k n=>
     obtain(_|j)|j:=n;exact .gA rfl;exact .iY;exact .iY
    |_=>exact .iY
   |int k n=>cases u with
    |ptr hb=>
     obtain(_|j)|j:=n;exact .gA rfl;exact .iY;exact .iY
    |int W M=>
     by_cases hk:k=W;subst hk;show SE P _ (if k=k then Pure.pure (n==M)else Go.stuck "==: kinds differ") (if k=k then Pure.pure (n==M)else Go.stuck "==: kinds differ");rw[eC rfl];exact .gA rfl;show SE P _ (if k=W then Pure.pure (n==M)else Go.stuck "==: kinds differ") (if k=W then Pure.pure (n==M)else Go.stuck "==: kinds differ");rw[ez hk];exact .stuck
    |kU=>exact .iY
    |_=>exact .stuck
   |kU=>cases u<;>exact .iY
   |_=>cases u<;>first|exact .iY|exact .stuck
  |struct O=>
   simp only[fE,tl,xE]at K;cases C<;>cases u<;>first
    |exact .stuck
    |(rename_i X Y _ _ Z h4;dsimp only;refine SR.prog.fM λE x y g L=>?_;obtain⟨rfl,rfl⟩:=L;try simp only[iI,mB,kz,ky,gZ,it,iO,ix]
      rw[K.1];simp only[jE,gy];rw[<-Nu,<-Nu];refine SR.fM (SR.forIn_list _ _ λf N r G l=>?_) λz r r' _ e=>?_;split;refine(SR.part f.type (iD.mono (g.trans l) ⟨X,Y⟩) f.offset).fM λz v v' o hv=>(SR.part f.type (iD.mono ((g.trans l).trans o) ⟨Z,h4⟩) f.offset).fM λH w w' s hw=>(ih d f.type (K.2 f (by simpa using N)) I (hv.mono s) hw).fM λJ p q _ e=>?_;subst e;split<;>exact .gA rfl;exact .gA rfl;subst e;split<;>exact .gA rfl)
  |array ab B=>
   cases C<;>cases u<;>first
    |exact .stuck
    |(rename_i X Y _ _ Z h4;dsimp only;refine(SR.size B).fM λE n M g L=>?_;obtain⟨rfl,_⟩:=L;simp only[Std.Legacy.Range.forIn_eq_forIn_range'];refine SR.fM (SR.forIn_list _ _ λi N r G l=>?_) λz r r' _ e=>?_;refine(SR.part B (iD.mono (g.trans l) ⟨X,Y⟩) _).fM λz v v' o hv=>(SR.part B (iD.mono ((g.trans l).trans o) ⟨Z,h4⟩) _).fM λH w w' s hw=>(ih d B K I (hv.mono s) hw).fM λJ p q _ e=>?_;subst e;split<;>exact .gA rfl;subst e;split<;>exact .gA rfl)
  |_=>simp at K
end
section
variable{P:eE}{ρ:fj}
def xI(m:Nat):∀(d:Nat) (t:eD),ir P m t=true->m<=d->P.eqGuardType d t=false:=by
 induction m with
 |zero=>intro d t h;simp[ir]at h
 |succ m g=>
  intro d t f k;obtain _|d:=d;omega;have c:m<=d:=by omega
  simp only[ir]at f;unfold Program.eqGuardType;split at f;rename_i a;simp[a];rename_i a;simp[a];rename_i a;simp[a];rename_i a;simp[a];rename_i j a;simp only[fE,xE]at f;simp only[a];refine Bool.eq_false_iff.2 λb=>?_;obtain⟨i,l,b⟩:=Array.any_eq_true.1 b;simp only[fE]at b;rw[g d j[i].type (f.2 j[i] (Array.getElem_mem l)) c]at b;cases b.2;rename_i e a;simp only[a];exact g d e f c;cases f
theorem SR.eqGuard{S:fG->Bool}(F:Fit P S D)(b:BinOp)(t:eD)(r:b≠ .eql->b≠ .neq->True)(n:(b=.eql\/b=.neq)->ir P 5 t=true)(i j:fI){k:eu}(o:VR ρ x y)(p:VR ρ z k):SE P ρ (eqGuard b t i j x z) (eqGuard b t i j y k):=by
 unfold Go.eqGuard;by_cases d:b=.eql\/b=.neq
 ·have e:(!(match b with| .eql| .neq=>true|_=>false))=false:=by obtain rfl|rfl:=d<;>rfl
  have c:=n d;obtain rfl|rfl:=d;all_goals
   dsimp only;cases o<;>cases p<;>first
    |exact .gA rfl
    |(dsimp only;refine SR.prog.fM λa l m f g=>?_;obtain⟨rfl,rfl⟩:=g;refine SR.prog.fM λa l m f g=>?_;obtain⟨rfl,rfl⟩:=g;try simp only[iI,mB,kz,ky,gZ,it,iO,ix]
      rw[xI 5 _ _ c F.depth];exact .gA (by first|rfl|trivial))
    |(dsimp only;repeat' split
      all_goals first
      |exact .gA rfl
      |refine SR.fM (A:=λ_ x z=>x=false/\z=false) ?_ λh l m f g=>?_;show SR P _ ρ (Op.eqGuardIn (9999+1) t .nilIface .nilIface) (Op.eqGuardIn (9999+1) t .nilIface .nilIface);unfold Op.eqGuardIn;refine(SR.under t).fM λa x z _ e=>?_;obtain⟨rfl,q⟩:=e;simp only[ir,q]at c;cases x<;>first|exact .gA ⟨rfl,rfl⟩|(simp at c)
       obtain⟨rfl,rfl⟩:=g;exact .gA rfl)
 cases b<;>first|exact absurd (.inl rfl) d|exact absurd (.inr rfl) d|exact .gA rfl
def SR.TC(d:BinOp)(t:eD)(k e:IntKind)(a b:Int):SV P ρ (binOp d t (.int k a) (.int e b)) (binOp d t (.int k a) (.int e b)):=by
 have c:∀d:BinOp,SV P ρ (if k≠e then Go.stuck "BinOp: operands of different kinds" else
  match d with
  | .add| .sub| .mul=>Op.intArith d k a b
  | .quo| .rem=>Op.intDiv d k a b
  | .and| .or| .xor| .andNot=>Op.intBits d k a b
  |_=>Op.intCmp d a b) (if k≠e then Go.stuck "BinOp: operands of different kinds" else
  match d with
  | .add| .sub| .mul=>Op.intArith d k a b
  | .quo| .rem=>Op.intDiv d k a b
  | .and| .or| .xor| .andNot=>Op.intBits d k a b
  |_=>Op.intCmp d a b):=by
  intro d;split;exact .stuck;cases d<;>first
   |exact .gA (.int _ _)
   |exact .gA (.bool _)
   |exact .stuck
   |(dsimp only;unfold Op.intDiv;split;exact SR.l7 _ (.inr (.inl ⟨_,rfl⟩));exact .gA (.int _ _))
 cases d with
 |add=>exact c .add
 |sub=>exact c .sub
 |mul=>exact c .mul
 |quo=>exact c .quo
 |rem=>exact c .rem
 |and=>exact c .and
 |or=>exact c .or
 |xor=>exact c .xor
 |andNot=>exact c .andNot
 |eql=>exact c .eql
 |neq=>exact c .neq
 |lss=>exact c .lss
 |leq=>exact c .leq
 |gtr=>exact c .gtr
 |geq=>exact c .geq
 |shl=>
  show SV P ρ (Op.shift .shl k a e b) (Op.shift .shl k a e b);unfold Op.shift;split;exact SR.l7 _ (.inr (.inl ⟨_,rfl⟩));exact .gA (.int _ _)
 |shr=>
  show SV P ρ (Op.shift .shr k a e b) (Op.shift .shr k a e b);unfold Op.shift;split;exact SR.l7 _ (.inr (.inl ⟨_,rfl⟩));exact .gA (.int _ _)
def SR.TD(c:BinOp)(t:eD)(a b:ByteArray):SV P ρ (binOp c t (.string a) (.string b)) (binOp c t (.string a) (.string b)):=by
 cases c<;>first
  |exact .gA (.bool _)
  |exact .stuck
  |(show SV P ρ (Op.stringOp .add a b) (Op.stringOp .add a b);unfold Op.stringOp;dsimp only;split;exact .iY;exact .gA (.string _))
theorem SR.equal{S:fG->Bool}(F:Fit P S D)(t:eD)(b:ir P 5 t=true){a:eu}(c:VR ρ x z)(d:VR ρ y a):SE P ρ (Op.equal t x y) (Op.equal t z a):=
 SR.VV F 5 Op.maxDepth t b (by decide) c d
def SR.VX{S:fG->Bool}(F:Fit P S D)(d:BinOp)(j:d=.eql\/d=.neq)(t:eD)(i:ir P 5 t=true){f:eu}(g:VR ρ x z)(h:VR ρ y f):SV P ρ (binOp d t x y) (binOp d t z f):=by
 have k:SV P ρ (do Pure.pure (Value.bool (<-Op.equal t x y))) (do Pure.pure (Value.bool (<-Op.equal t z f))):=by refine SR.fM (SR.equal F t i g h) λc a b _ e=>?_;subst e;exact .gA (.bool _)
 have l:SV P ρ (do Pure.pure (Value.bool (!(<-Op.equal t x y)))) (do Pure.pure (Value.bool (!(<-Op.equal t z f)))):=by refine SR.fM (SR.equal F t i g h) λc a b _ e=>?_;subst e;exact .gA (.bool _)
 obtain rfl|rfl:=j;cases g<;>cases h<;>first|exact k|exact SR.TC _ _ _ _ _ _|exact SR.TD _ _ _ _
 cases g<;>cases h<;>first|exact l|exact SR.TC _ _ _ _ _ _|exact SR.TD _ _ _ _
def SR.UM{S:fG->Bool}(F:Fit P S D)(f:BinOp)(d:f≠ .eql/\f≠ .neq)(t:eD){o:eu}(q:VR ρ x z)(l:VR ρ y o)(p:(∃a,x=.pointer a)\/∃a,y=.pointer a):SV P ρ (binOp f t x y) (binOp f t z o):=by
 cases q with
 |kU=>
  cases l with
  |int k n=>
   cases f<;>first
    |exact .iY
    |exact absurd rfl d.1
    |exact absurd rfl d.2
    |(refine(SR.under t).fM λc a b g e=>?_;obtain⟨rfl,_⟩:=e;cases a<;>first|exact SR.Cv F t .kU (.int k n) ⟨none,rfl⟩|exact SR.NE F t .kU (.int k n) ⟨none,rfl⟩)
    |exact SR.Cv F t .kU (.int k (-n)) ⟨none,rfl⟩
  |_=>cases f<;>first|exact .iY|exact absurd rfl d.1|exact absurd rfl d.2
 |ptr i=>
  cases l with
  |int k n=>
   cases f<;>first
    |exact .iY
    |exact absurd rfl d.1
    |exact absurd rfl d.2
    |(refine(SR.under t).fM λc a b g e=>?_;obtain⟨rfl,_⟩:=e;split<;>first|exact SR.NE F t (.ptr (i.mono g)) (.int _ _) ⟨_,rfl⟩|exact SR.Cv F t (.ptr (i.mono g)) (.int _ _) ⟨_,rfl⟩)
    |exact SR.Cv F t (.ptr i) (.int _ _) ⟨_,rfl⟩
    |(refine(SR.behind i).fM λc a b _ e=>?_;exact SR.addrMod F.bad _ e.1 _)
  |ptr j=>
   cases f<;>first
    |exact .iY
    |exact absurd rfl d.1
    |exact absurd rfl d.2
    |(refine(SR.behind i).fM λc a b g e=>?_;refine(SR.behind (j.mono g)).fM λm r s _ u=>?_;first
       |(unfold Op.addrSub;exact SR.fM (SR.twoPlaces F (A:=λ_ _ _=>False) _ _ _ _) λ_ _ _ _ h=>h.elim)
       |(unfold Op.addrCmp;exact SR.fM (SR.twoPlaces F (A:=λ_ _ _=>False) _ _ _ _) λ_ _ _ _ h=>h.elim))
  |_=>cases f<;>first|exact .iY|exact absurd rfl d.1|exact absurd rfl d.2
 |int k n=>
  cases l with
  |kU=>
   cases f<;>first
    |exact .iY
    |exact absurd rfl d.1
    |exact absurd rfl d.2
    |exact SR.Cv F t .kU (.int _ _) ⟨_,rfl⟩
  |ptr j=>
   cases f<;>first
    |exact .iY
    |exact absurd rfl d.1
    |exact absurd rfl d.2
    |exact SR.Cv F t (.ptr j) (.int _ _) ⟨_,rfl⟩
    |(refine(SR.behind j).fM λc a b _ e=>?_;exact SR.addrMod F.bad _ e.1 _)
  |_=>obtain⟨a,h⟩|⟨a,h⟩:=p<;>cases h
 |_=>
  cases l with
  |kU=>cases f<;>first|exact .iY|exact absurd rfl d.1|exact absurd rfl d.2
  |ptr j=>cases f<;>first|exact .iY|exact absurd rfl d.1|exact absurd rfl d.2
  |_=>obtain⟨a,h⟩|⟨a,h⟩:=p<;>cases h
theorem SR.binOp{S:fG->Bool}{dim:Bool}(F:Fit P S dim)(b:BinOp)(t:eD)(j:(b=.eql\/b=.neq)->ir P 5 t=true){i:eu}(f:VR ρ x z)(g:VR ρ y i):SV P ρ (Go.binOp b t x y) (Go.binOp b t z i):=by
 by_cases d:b=.eql\/b=.neq;exact SR.VX F b d t (j d) f g;have c:b≠ .eql/\b≠ .neq:=⟨λe=>d (.inl e),λe=>d (.inr e)⟩;by_cases h:(∃a,x=.pointer a)\/∃a,y=.pointer a;exact SR.UM F b c t f g h
 ·cases f<;>first|exact absurd (.inl ⟨_,rfl⟩) h|skip
  all_goals cases g
  all_goals first
   |exact absurd (.inr ⟨_,rfl⟩) h
   |exact SR.TC _ _ _ _ _ _
   |exact SR.TD _ _ _ _
   |(cases b<;>first|exact .stuck|exact .iY|exact absurd rfl c.1|exact absurd rfl c.2)
def SR.conv(s d:eD)(j:intType P s=true)(k:intType P d=true)(l:VR ρ x y):SV P ρ (Go.convert s d x) (Go.convert s d y):=by
 unfold Go.convert;refine(SR.under s).fM λf a b g e=>?_;obtain⟨rfl,m⟩:=e;refine(SR.under d).fM λh n p c e=>?_;obtain⟨rfl,o⟩:=e;simp only[intType,m]at j;simp only[intType,o]at k;have i:=(l.mono g).mono c;cases a<;>first|(simp at j;done)|skip
 cases n<;>first|(simp at k;done)|skip
 cases i<;>first|exact .gA (.int _ _)|exact .iY|exact .stuck
end
section
variable{P:eE}{ρ:fj}
theorem SR.checkKey{S:fG->Bool}(F:Fit P S D)(I:Bool)(m:Nat):∀(d:Nat) (t:eD),ir P m t=true->m<=d->∀{ρ:fj} {x A:eu},VR ρ x A->SE P ρ (Instr.checkKey I d t x) (Instr.checkKey I d t A):=by
 have _:=F;induction m with
 |zero=>intro d t h;simp[ir]at h
 |succ m J=>
  intro d t w K ρ x A L;obtain _|d:=d;omega;have s:m<=d:=by omega
  unfold Instr.checkKey;refine(SR.under t).fM λB a b o e=>?_;obtain⟨rfl,M⟩:=e;have j:=L.mono o;simp only[ir,M]at w;cases a with
  |bool=>cases j<;>exact .gA rfl
  |string=>cases j<;>exact .gA rfl
  |slice e=>cases j<;>exact .gA rfl
  |int k=>cases j<;>exact .gA rfl
  |struct z=>
   simp only[fE,tl,xE]at w;cases j with
   |agg C E=>
    dsimp only;rw[<-Nu,<-Nu];refine SR.fM (SR.forIn_list _ _ λf y r u c=>?_) λg r N _ e=>.gA e;split;refine(SR.part f.type (iD.mono c ⟨C,E⟩) f.offset).fM λg v O p G=>?_;refine SR.fM (J d f.type (w.2 f (by simpa using y)) s G) λ_ _ _ _ _=>.gA rfl;exact .gA rfl
   |_=>exact .stuck
  |array Q l=>
   cases j with
   |agg C E=>
    dsimp only;simp only[Std.Legacy.Range.forIn_eq_forIn_range'];refine SR.fM (SR.forIn_list _ _ λi y r u c=>?_) λg r N _ e=>.gA trivial;refine(SR.size l).fM λH n T q R=>?_;obtain⟨rfl,_⟩:=R;refine(SR.part l (iD.mono (c.trans q) ⟨C,E⟩) _).fM λg v O p G=>?_;refine SR.fM (J d l w s G) λ_ _ _ _ _=>.gA rfl
   |_=>exact .stuck
  |_=>simp at w
inductive rl (ρ:fj):List MapEntry->List MapEntry->Prop
 |nil:rl ρ [] []
 |cons {e e':MapEntry} {l l':List MapEntry} (h:vI ρ e e') (t:rl ρ l l'):rl ρ (e::l) (e'::l')
theorem rl.of{ρ:fj}:∀{l a:List MapEntry},l.length=a.length->(∀(i:Nat) v b,l[i]? =some v->a[i]? =some b->vI ρ v b)->rl ρ l a
 |[],[],_,_=>.nil
 |[],_::_,h,_=>by simp at h
 |_::_,[],h,_=>by simp at h
 |v::l,b::a,h,k=>.cons (k 0 v b rfl rfl) (rl.of (by simpa using h) λi x c d e=>k (i+1) x c (by simpa using d) (by simpa using e))
theorem rl.mono{ρ a:fj}(b:fj.Le ρ a){l c:List MapEntry}(h:rl ρ l c):rl a l c:=by
 induction h with
 |nil=>exact .nil
 |cons h _ d=>exact .cons (h.mono b) d
def rl.empty{ρ:fj}{l a:List MapEntry}(h:rl ρ l a):l.isEmpty=a.isEmpty:=by cases h<;>rfl
def Lq(a:TypeDesc){b:eu}(c:VR ρ x y)(d:VR ρ z b):Instr.sameNow a x z=Instr.sameNow a y b:=by cases a<;>first|rfl|(cases c<;>cases d<;>rfl)
def Lr(a:TypeDesc)(d:VR ρ x y){l b:List MapEntry}(h:rl ρ l b):∀i,(Instr.findNow a x l i=none/\Instr.findNow a y b i=none)\/(Instr.findNow a x l i=some none/\Instr.findNow a y b i=some none)\/∃j v c,Instr.findNow a x l i=some (some (j,v))/\Instr.findNow a y b i=some (some (j,c))/\VR ρ v c:=by
 induction h with
 |nil=>exactλi=>.inr (.inl ⟨rfl,rfl⟩)
 |cons h _ e=>
  intro i;simp only[Instr.findNow];rw[<-Lq a d h.key];split;exact .inr (.inr ⟨_,_,_,rfl,rfl,h.val⟩);exact e _;exact .inl ⟨rfl,rfl⟩
def NF(ρ:fj)(a b:Option (Nat×eu)):Prop:=(a=none/\b=none)\/∃j v c,a=some (j,v)/\b=some (j,c)/\VR ρ v c
theorem SR.findAsking{S:fG->Bool}(F:Fit P S D)(t:eD)(o:ir P 5 t=true){l m:List MapEntry}(h:rl ρ l m):∀{d:fj} (i:Nat) {k g:eu},fj.Le ρ d->VR d k g->SR P NF d (Instr.findAsking t k l i) (Instr.findAsking t g m i):=by
 induction h with
 |nil=>exactλi _ _ _ _=>.gA (.inl ⟨rfl,rfl⟩)
 |cons h _ p=>
  intro d i k g f n;unfold Instr.findAsking;refine(SR.equal F t o n (h.key.mono f)).fM λj a b c e=>?_;subst e;split;exact .gA (.inr ⟨_,_,_,rfl,rfl,h.val.mono (f.trans c)⟩);exact p _ (f.trans c) (n.mono c)
theorem SR.findKey{S:fG->Bool}(F:Fit P S D)(t:eD)(m:ir P 5 t=true){l i:List MapEntry}(h:rl ρ l i)(k:VR ρ x y):SR P NF ρ (Instr.findKey t x l) (Instr.findKey t y i):=by unfold Instr.findKey;refine(SR.under t).fM λg a b c e=>?_;obtain⟨rfl,o⟩:=e;obtain⟨d,f⟩|⟨d,f⟩|⟨j,v,p,d,f,n⟩:=Lr a (k.mono c) (h.mono c) 0;rw[d,f];exact SR.findAsking F t m (h.mono c) 0 (.refl _) (k.mono c);rw[d,f];exact .gA (.inl ⟨rfl,rfl⟩);rw[d,f];exact .gA (.inr ⟨_,_,_,rfl,rfl,n⟩)
theorem SR.lookup{S:fG->Bool}(F:Fit P S D)(t:eD)(U:∀z e,P.underlying t=some (.map z e)->ir P 5 z=true)(n:Bool){H:eu}(V:VR ρ x y)(W:VR ρ z H):SV P ρ (Instr.lookup t x z n) (Instr.lookup t y H n):=by
 unfold Instr.lookup;refine(SR.under t).fM λp a b l e=>?_;obtain⟨rfl,X⟩:=e;have L:=V.mono l;have B:=W.mono l;cases a with
 |map q I=>
  have C:=U q I X;dsimp only;have tail:∀d (r h:Array MapEntry),fj.Le p d->rl d r.toList h.toList->SV P d (do
    Instr.checkKey r.isEmpty 10000 q z;let g<-match<-Instr.findKey q z r.toList with
     |some (_,v)=>Pure.pure (v,true)
     |none=>do Pure.pure (<-zeroValue I,false)
    match g with
    |(v,s)=>Pure.pure (if n=true then Value.tuple #[v,.bool s]else v))
   (do
    Instr.checkKey h.isEmpty 10000 q H;let g<-match<-Instr.findKey q H h.toList with
     |some (_,v)=>Pure.pure (v,true)
     |none=>do Pure.pure (<-zeroValue I,false)
    match g with
    |(v,s)=>Pure.pure (if n=true then Value.tuple #[v,.bool s]else v)):=by
   intro d r h c m;have M:r.isEmpty=h.isEmpty:=by
    have T:∀(a:Array MapEntry),a.isEmpty=a.toList.isEmpty:=λa=>by cases a;simp
    rw[T,T];exact m.empty
   rw[<-M];refine(SR.checkKey F _ 5 10000 q C (by decide) (B.mono c)).fM λu _ _ f _=>(SR.findKey F q C (m.mono f) ((B.mono c).mono f)).fM λN aa ab J O=>?_;have E:∀k (v w:eu) (o:Bool),VR k v w->SV P k (Pure.pure (if n=true then Value.tuple #[v,.bool o]else v)) (Pure.pure (if n=true then Value.tuple #[w,.bool o]else w)):=by intro k v w o K;cases n;exact .gA K;exact .gA (iD.Wx (iD.Nz K (.bool _)))
   obtain⟨rfl,rfl⟩|⟨j,v,w,rfl,rfl,Y⟩:=O;exact(SR.zero F I).fM λQ ac z' _ Z=>E _ _ _ _ Z;exact E _ _ _ _ Y
  cases L with
  |tx=>
   exact SR.fM (A:=λρ (a b:Array MapEntry)=>rl ρ a.toList b.toList) (.gA .nil) λd r h c m=>tail _ _ _ c m
  |map hr=>
   refine SR.fM (A:=λρ a b=>mq ρ a b/\∀cs t fz,a≠ .cells cs t fz) (.getObj hr λo o' G R=>.pure ⟨G,R⟩) λd o o' c G=>?_;obtain⟨G,R⟩:=G;cases G with
   |map K h2=>exact SR.fM (A:=λρ (a b:Array MapEntry)=>rl ρ a.toList b.toList) (.gA (rl.of (by simpa using K) λi v w a b=>h2 i v w (by simpa using a) (by simpa using b))) λu r h f m=>tail _ _ _ (c.trans f) m
   |cells _ _=>exact absurd rfl (R _ _ _)
   |_=>exact .dead rfl
  |_=>exact .dead rfl
 |_=>exact .stuck
def Ik(n:Nat):∀{a s b t:eu},VR ρ a s->VR ρ b t->Instr.sameBits n a b=true->Instr.sameBits n s t=true:=by
 have j:∀{x g y i:fR},((x=none/\g=none)\/∃p c,x=some p/\g=some c/\AR ρ p c)->((y=none/\i=none)\/∃p c,y=some p/\i=some c/\AR ρ p c)->(x==y)=true->(g==i)=true:=by intro x g y i h k;obtain⟨rfl,rfl⟩|⟨p,c,rfl,rfl,h⟩:=h<;>obtain⟨rfl,rfl⟩|⟨q,D,rfl,rfl,k⟩:=k;exact id;simp;simp;simp only[pB,iz];exact h.eq k
 have m:∀{x g y i:Option Nat},((x=none/\g=none)\/∃p c,x=some p/\g=some c/\ρ.r p c)->((y=none/\i=none)\/∃p c,y=some p/\i=some c/\ρ.r p c)->(x==y)=true->(g==i)=true:=by intro x g y i h k;obtain⟨rfl,rfl⟩|⟨p,c,rfl,rfl,h⟩:=h<;>obtain⟨rfl,rfl⟩|⟨q,D,rfl,rfl,k⟩:=k;exact id;simp;simp;simp only[pB,iz];exactλe=>by subst e;exact ρ.oK _ _ _ h k
 induction n with
 |zero=>
  intro a s b t v w;cases v<;>cases w<;>first
   |exact id
   |exactλh=>by cases h
   |exact j (.inl ⟨rfl,rfl⟩) (.inl ⟨rfl,rfl⟩)
   |exact j (.inl ⟨rfl,rfl⟩) (.inr ⟨_,_,rfl,rfl,‹_›⟩)
   |exact j (.inr ⟨_,_,rfl,rfl,‹_›⟩) (.inl ⟨rfl,rfl⟩)
   |exact m (.inl ⟨rfl,rfl⟩) (.inr ⟨_,_,rfl,rfl,‹_›⟩)
   |exact m (.inr ⟨_,_,rfl,rfl,‹_›⟩) (.inl ⟨rfl,rfl⟩)
   |(rename_i d _ _ f;exact j (.inr ⟨_,_,rfl,rfl,d⟩) (.inr ⟨_,_,rfl,rfl,f⟩))
   |(rename_i d _ _ f;exact m (.inr ⟨_,_,rfl,rfl,d⟩) (.inr ⟨_,_,rfl,rfl,f⟩))
 |succ n B=>
  have o:∀{l z k u:fD},sU ρ l z->sU ρ k u->((l.zip k).all λ(x,y)=>Instr.sameBits n x y)=true->((z.zip u).all λ(x,y)=>Instr.sameBits n x y)=true:=by
   intro l z k u h;induction h generalizing k u with
   |nil=>intro _;exact id
   |cons h _ A=>
    intro E;cases E with
    |nil=>exact id
    |cons F G=>
     simp only[List.zip_cons_cons,List.all_cons,fE];exactλ⟨x,y⟩=>⟨B h F x,A G y⟩
  intro a s b t v w;cases v<;>cases w<;>first
   |exact id
   |exactλh=>by cases h
   |exact j (.inl ⟨rfl,rfl⟩) (.inl ⟨rfl,rfl⟩)
   |exact j (.inl ⟨rfl,rfl⟩) (.inr ⟨_,_,rfl,rfl,‹_›⟩)
   |exact j (.inr ⟨_,_,rfl,rfl,‹_›⟩) (.inl ⟨rfl,rfl⟩)
   |exact m (.inl ⟨rfl,rfl⟩) (.inr ⟨_,_,rfl,rfl,‹_›⟩)
   |exact m (.inr ⟨_,_,rfl,rfl,‹_›⟩) (.inl ⟨rfl,rfl⟩)
   |(rename_i d _ _ f;exact j (.inr ⟨_,_,rfl,rfl,d⟩) (.inr ⟨_,_,rfl,rfl,f⟩))
   |(rename_i d _ _ f;exact m (.inr ⟨_,_,rfl,rfl,d⟩) (.inr ⟨_,_,rfl,rfl,f⟩))
   |(rename_i d _ _ _ f;simp only[Instr.sameBits,fE];exactλ⟨x,y⟩=>⟨x,B d f y⟩)
   |(rename_i d f _ _ C H;simp only[Instr.sameBits,fE];rw[d,C];exactλ⟨x,y⟩=>⟨x,o (iD.list ⟨d,f⟩) (iD.list ⟨C,H⟩) y⟩)
def Fs(n:Nat):∀{a b:eu},Instr.sameBits n a b=true->a=b:=by
 have g:∀{n:Nat} {x y:ByteArray},Instr.sameBits n (.string x) (.string y)=true->x=y:=by
  intro n x y h;obtain⟨x⟩:=x;obtain⟨y⟩:=y;have z:(x==y)=true:=by cases n<;>exact h
  rw[eq_of_beq z]
 have c:∀{n:Nat} {a b:eu},(∀t v u w,a=.iface t v->b=.iface u w->False)->(∀x y,a=.agg x->b=.agg y->False)->Instr.sameBits n a b=true->a=b:=by intro n a b A B h;cases a<;>cases b<;>first|(exact(A _ _ _ _ rfl rfl).elim)|(exact(B _ _ rfl rfl).elim)|rfl|(cases n<;>simp_all[Instr.sameBits];done)|(rename_i x y;rw[g h])
 induction n with
 |zero=>
  intro a b h;refine c (λt v u w d e=>?_) (λx y d e=>?_) h<;>(subst d e;cases h)
 |succ n o=>
  intro a b h;by_cases r:∃t v u w,a=.iface t v/\b=.iface u w;obtain⟨t,v,u,w,rfl,rfl⟩:=r;simp only[Instr.sameBits,fE,pB]at h;rw[h.1,o h.2];by_cases s:∃x y,a=.agg x/\b=.agg y;obtain⟨x,y,rfl,rfl⟩:=s;simp only[Instr.sameBits,fE,pB]at h
  have i:∀(l m:fD),l.jK=m.jK->((l.zip m).all λ(x,y)=>Instr.sameBits n x y)=true->l=m:=by
   intro l;induction l with
   |nil=>intro m f _;cases m with|nil=>rfl|cons _ _=>simp at f
   |cons p l j=>
    intro m f k;cases m with
    |nil=>simp at f
    |cons q m=>
     simp only[List.zip_cons_cons,List.all_cons,fE]at k;rw[o k.1,j m (by simpa using f) k.2]
  rw[Array.toList_inj.1 (i _ _ (by simpa using h.1) h.2)];exact c (λt v u w d e=>r ⟨t,v,u,w,d,e⟩) (λx y d e=>s ⟨x,y,d,e⟩) h
theorem SX.mapUpdate{S:fG->Bool}(F:Fit P S D)(t:eD)(X:∀k e,P.underlying t=some (.map k e)->ir P 5 k=true){k G Y:eu}(hm:VR ρ y z)(hk:VR ρ k G)(hx:VR ρ x Y):
 SX P (λ_ (a b:Unit)=>a=b) ρ (Instr.mapUpdate t y k x) (Instr.mapUpdate t z G Y):=by
 unfold Instr.mapUpdate;refine SX.fM (SR.under t) λZ a b w e=>?_;obtain⟨rfl,hu⟩:=e;have aa:=hm.mono w;have K:=hk.mono w;have ab:=hx.mono w;cases a with
 |map kt et=>
  have Q:=X kt et hu;dsimp only;cases aa with
  |tx=>exact .of<|SR.l7 _ (.inr (.inr (.inl ⟨_,rfl⟩)))
  | @map r r' hr=>
   refine SX.fM (A:=λρ a b=>mq ρ a b/\∀cs t fz,a≠ .cells cs t fz) (.getObj hr λo o' R hc=>.pure ⟨R,hc⟩) λL o o' l R=>?_;obtain⟨R,hc⟩:=R;cases R with
   | @map H u c T h2=>
    dsimp only;have ac:rl L H.toList u.toList:=rl.of (by simpa using T) λi v v' a b=>h2 i v v' (by simpa using a) (by simpa using b);refine SX.fM (SR.checkKey F _ 5 10000 kt Q (by decide) (K.mono l)) λad _ _ g _=>SX.fM (SR.findKey F kt Q (ac.mono g) ((K.mono l).mono g)) λB p q m ae=>?_;have E:=((K.mono l).mono g).mono m;have U:=((ab.mono l).mono g).mono m;have M:=m.r _ _ (g.r _ _ (l.r _ _ hr));have I:∀(i:Nat) e J,H[i]? =some e->u[i]? =some J->vI B e J:=λi e J a b=>((h2 i e J a b).mono g).mono m;obtain⟨rfl,rfl⟩|⟨j,v,v',rfl,rfl,hv⟩:=ae;refine .of<| .setObj M (.map (by simp[T]) λi e J a b=>?_) (λ_ _ _ e=>by cases e) (.pure rfl);rw[pA]at a b;rw[<-T]at b;split at a;rename_i N;rw[eC N]at b;cases a;cases b;exact⟨E,U,rfl⟩;rename_i N;rw[ez N]at b;exact I i e J a b;dsimp only;have C:VR B (((H[j]?).map (·.key)).getD k) (((u[j]?).map (·.key)).getD G):=by by_cases hj:j<H.size;have V:j<u.size:=T▸hj;rw[lA hj,lA V];exact(I j _ _ (lA hj) (lA V)).key;rw[ou (by omega),ou (by omega)];exact E
    have W:∀{s:fj} {a b:eu},fj.Le B s->VR s a b->mq s (.map (H.modify j λe=>{e with key:=a,val:=x}) c) (.map (u.modify j λe=>{e with key:=b,val:=Y}) c):=λf O=>.map (by simp[T]) λi e J c d=>by rw[oP]at c d;split at c;rename_i N;rw[eC N]at d;obtain⟨e1,f1,rfl⟩:=jo.1 c;obtain⟨e2,f2,rfl⟩:=jo.1 d;exact⟨O,U.mono f,(I i e1 e2 f1 f2).born⟩;rename_i N;rw[ez N]at d;exact(I i e J c d).mono f
    have same:∀(b b':Bool),b=b'->SX P (λ_ (a b:Unit)=>a=b) B
     ((if b=true then Pure.pure k else(do Pure.pure (if(<-Go.choose (.extern "map.whichKeyStays" 2))=0 then k else((H[j]?).map (·.key)).getD k)):Sem eu)>>=λkey=>setObj r (.map (H.modify j λe=>{e with key,val:=x}) c))
     ((if b'=true then Pure.pure G else(do Pure.pure (if(<-Go.choose (.extern "map.whichKeyStays" 2))=0 then G else((u[j]?).map (·.key)).getD G)):Sem eu)>>=λkey=>setObj r' (.map (u.modify j λe=>{e with key,val:=Y}) c)):=by
     intro b b' e;subst e;refine .of (SR.fM (A:=λρ a b=>VR ρ a b) ?_ λs a b f O=>.setObj (f.r _ _ M) (W f O) (λ_ _ _ e=>by cases e) (.pure rfl));split;exact .gA E;refine SR.fM (A:=λ_ a b=>a=b) (.choose λn=>.pure rfl) λs a b f e=>?_;subst e;refine .gA ?_;split;exact E.mono f;exact C.mono f
    unfold Instr.keyThatStays;by_cases hs:Instr.sameBits 10000 (((H[j]?).map (·.key)).getD k) k=Instr.sameBits 10000 (((u[j]?).map (·.key)).getD G) G;exact same _ _ hs
    have hf:Instr.sameBits 10000 (((H[j]?).map (·.key)).getD k) k=false:=by
     cases h:Instr.sameBits 10000 (((H[j]?).map (·.key)).getD k) k with
     |false=>rfl
     |true=>exact absurd (h.trans (Ik 10000 C E h).symm) hs
    have X:Instr.sameBits 10000 (((u[j]?).map (·.key)).getD G) G=true:=by
     cases h:Instr.sameBits 10000 (((u[j]?).map (·.key)).getD G) G with
     |true=>rfl
     |false=>exact absurd (hf.trans h.symm) hs
    rw[hf,X];rw[Fs _ X]at C;refine SX.skip (o:=λn=>.map (H.modify j λe=>{e with key:=if n=0 then k else((H[j]?).map (·.key)).getD k,val:=x}) c) M (λn=>W (.refl _) ?_) (λ_ _ _ _ e=>by cases e) rfl;split;exact E;exact C
   |cells _ _=>exact absurd rfl (hc _ _ _)
   |_=>exact .of .stuck
  |_=>exact .of .stuck
 |_=>exact .of .stuck
theorem SR.makeMap(t:eD){r g:Option eu}(h:tA ρ r g):SV P ρ (Instr.makeMap t r) (Instr.makeMap t g):=by
 unfold Instr.makeMap
 have tail:∀d,SV P d (do Pure.pure (Value.map (some (<-newObj (.map #[] 0))))) (do Pure.pure (Value.map (some (<-newObj (.map #[] 0))))):=λd=>
  SR.fM (A:=λρ a b=>ρ.r a b) (.new (.map rfl λi e l h=>by simp at h) λn m o p _=>.pure (fj.uI _ _ _ _ _)) λd a b j k=>.gA (.map k)
 cases h with
 |none=>exact tail _
 |some h=>
  dsimp only;refine(SR.under t).fM λf a b c e=>?_;obtain⟨rfl,q⟩:=e;split;exact(SR.asInt (h.mono c)).fM λ_ _ _ _ _=>tail _;exact .stuck
def SR.len(q:Array eD)(t:eD)(h:iD ρ W X):SV P ρ (Builtin.len_ q t W) (Builtin.len_ q t X):=by
 unfold Builtin.len_;obtain⟨r,_⟩|⟨x,D,r,y,z⟩:=h.get? 0;rw[r];cases q[0]? <;>exact .stuck;rw[r,y];cases q[0]? with
 |none=>exact .stuck
 |some B=>
  dsimp only;refine(SR.under B).fM λl a b j e=>?_;obtain⟨rfl,E⟩:=e;have c:=z.mono j;cases a with
  |array n e=>cases c<;>exact .gA (.int _ _)
  |pointer m=>
   have tail:SV P l (do let d<-Go.underlying m;match d with| .array n _=>Pure.pure (goInt n)|_=>Go.stuck "len: pointer to array expected") (do let d<-Go.underlying m;match d with| .array n _=>Pure.pure (goInt n)|_=>Go.stuck "len: pointer to array expected"):=by refine(SR.under m).fM λg a b f e=>?_;obtain⟨rfl,_⟩:=e;cases a<;>first|exact .stuck|exact .gA (.int _ _)
   cases c<;>exact tail
  |string=>cases c<;>first|exact .stuck|exact .gA (.int _ _)
  |slice e=>cases c<;>first|exact .stuck|exact .gA (.int _ _)
  |map k e=>
   cases c with
   |tx=>exact .gA (.int _ _)
   |map s=>
    refine SR.fM (A:=λρ a b=>mq ρ a b/\∀u t v,a≠ .cells u t v) (.getObj s λo w i p=>.pure ⟨i,p⟩) λg o w f i=>?_;obtain⟨i,p⟩:=i;cases i with
    |map C F=>dsimp only;rw[C];exact .gA (.int _ _)
    |cells _ _=>exact absurd rfl (p _ _ _)
    |_=>exact .stuck
   |_=>exact .stuck
  |chan k e=>
   cases c with
   |rL=>exact .gA (.int _ _)
   |chan s=>
    refine SR.fM (A:=λρ a b=>mq ρ a b/\∀u t v,a≠ .cells u t v) (.getObj s λo w i p=>.pure ⟨i,p⟩) λg o w f i=>?_;obtain⟨i,p⟩:=i;cases i with
    |cells _ _=>exact absurd rfl (p _ _ _)
    |_=>exact .stuck
   |_=>exact .stuck
  |_=>cases c<;>exact .stuck
def SR.cap(p:Array eD)(t:eD)(h:iD ρ W X):SV P ρ (Builtin.cap_ p t W) (Builtin.cap_ p t X):=by
 unfold Builtin.cap_;obtain⟨q,_⟩|⟨x,C,q,s,u⟩:=h.get? 0;rw[q];cases p[0]? <;>exact .stuck;rw[q,s];cases p[0]? with
 |none=>exact .stuck
 |some v=>
  dsimp only;refine(SR.under v).fM λi a b f e=>?_;obtain⟨rfl,D⟩:=e;have c:=u.mono f;cases a with
  |array n e=>cases c<;>exact .gA (.int _ _)
  |pointer j=>
   have tail:SV P i (do let d<-Go.underlying j;match d with| .array n _=>Pure.pure (goInt n)|_=>Go.stuck "cap: pointer to array expected") (do let d<-Go.underlying j;match d with| .array n _=>Pure.pure (goInt n)|_=>Go.stuck "cap: pointer to array expected"):=by refine(SR.under j).fM λl a b g e=>?_;obtain⟨rfl,_⟩:=e;cases a<;>first|exact .stuck|exact .gA (.int _ _)
   cases c<;>exact tail
  |slice e=>cases c<;>first|exact .stuck|exact .gA (.int _ _)
  |chan k e=>
   cases c with
   |rL=>exact .gA (.int _ _)
   |chan w=>
    refine SR.fM (A:=λρ a b=>mq ρ a b/\∀y t z,a≠ .cells y t z) (.getObj w λo B m r=>.pure ⟨m,r⟩) λl o B g m=>?_;obtain⟨m,r⟩:=m;cases m with
    |cells _ _=>exact absurd rfl (r _ _ _)
    |_=>exact .stuck
   |_=>exact .stuck
  |_=>cases c<;>exact .stuck
def SR.SF{f:eu->eu->Sem eu}(n:∀{ρ:fj} {a l b m:eu},VR ρ a l->VR ρ b m->SV P ρ (f a b) (f l m))(h:sU ρ M Y):∀{c:fj} {x g:eu},fj.Le ρ c->VR c x g->SV P c (M.foldlM f x) (Y.foldlM f g):=by
 induction h with
 |nil=>exactλ_ i=>.gA i
 |cons h _ o=>
  intro c x g e i;simp only[List.foldlM_cons];exact(n i (h.mono e)).fM λj a b d k=>o (e.trans d) k
theorem SR.max2{ρ:fj}{a:eu}(b:VR ρ x y)(c:VR ρ z a):SV P ρ (Builtin.max2 x z) (Builtin.max2 y a):=by cases b<;>cases c<;>first|exact .stuck|exact .iY|exact .gA (.int _ _)|exact .gA (.string _)
theorem SR.min2{ρ:fj}{a:eu}(b:VR ρ x y)(c:VR ρ z a):SV P ρ (Builtin.min2 x z) (Builtin.min2 y a):=by cases b<;>cases c<;>first|exact .stuck|exact .iY|exact .gA (.int _ _)|exact .gA (.string _)
def SR.max(b:Array eD)(t:eD)(h:iD ρ W X):SV P ρ (Builtin.max_ b t W) (Builtin.max_ b t X):=by
 unfold Builtin.max_;have a:=h.list;revert a;generalize W.toList=l;generalize X.toList=e;intro a;cases a with
 |nil=>exact .stuck
 |cons h t=>exact SR.SF (λc d=>SR.max2 c d) t (.refl _) h
def SR.min(b:Array eD)(t:eD)(h:iD ρ W X):SV P ρ (Builtin.min_ b t W) (Builtin.min_ b t X):=by
 unfold Builtin.min_;have a:=h.list;revert a;generalize W.toList=l;generalize X.toList=e;intro a;cases a with
 |nil=>exact .stuck
 |cons h t=>exact SR.SF (λc d=>SR.min2 c d) t (.refl _) h
end
section
variable{P:eE}{ρ:fj}
theorem SR.lenOf(h:VR ρ x y):SE P ρ (Builtin.lenOf x) (Builtin.lenOf y):=by cases h<;>first|exact .gA rfl|exact .stuck
theorem SR.firstCells(size n:Nat)(h:VR ρ x y):SR P (λρ a b=>iD ρ a b) ρ (Builtin.firstCells size n x) (Builtin.firstCells size n y):=by
 cases h<;>first
  |exact SR.loadCells ‹_› _
  |exact .gA .nil
  |exact .gA (iD.map _ _ _ λ_ _=>.int _ _)
  |exact .stuck
def Ft(h:iD ρ W X)(n:Nat):iD ρ (Builtin.zeroCells W n) (Builtin.zeroCells X n):=by
 unfold Builtin.zeroCells;have e:∀(a:fZ) (i:Nat),a[i]! =(a[i]?).getD default:=λa i=>by simp[getElem!_def];cases a[i]? <;>rfl
 rw[<-h.size];refine iD.map _ _ _ λi _=>?_;rw[e,e];obtain⟨b,c⟩|⟨v,f,b,c,d⟩:=h.get? (i%W.size);rw[b,c];exact .bool _;rw[b,c];exact d
theorem SR.askRoom(n:Nat):SE P ρ (Go.askRoom n) (Go.askRoom n):=by unfold Go.askRoom;split;exact .noRoom (.pure rfl);exact .gA rfl
def Fu(size f n:Nat)(e:fR)(x:eu)(w:er):∃b,(Builtin.mayShare size f n e x).run P w=.ok b w:=by
 have g:∀(a:Addr) (c:Nat),∃b,(Builtin.holdsCells a c).run P w=.ok b w:=by
  intro a c;unfold Builtin.holdsCells;rw[Sem.run_bind];show∃b,((Result.ok (w.shape? a.block) w).andThen _)=_;rw[Result.andThen_ok];cases w.shape? a.block with
  |none=>exact⟨_,rfl⟩
  |some p=>exact⟨_,rfl⟩
 have tail:∀d:Bool,∃b,(if(!d)=true then Pure.pure true else match x with
  | .slice (some b) _ _=>do Pure.pure (!(<-Builtin.holdsCells b (n*size))||e.any (·.block==b.block))
  |_=>Pure.pure false:Sem Bool).run P w=.ok b w:=by
  intro d;cases d with
  |false=>exact⟨_,rfl⟩
  |true=>
   simp only[Bool.not_true,jE,gy];cases x with
   |slice a l c=>
    cases a with
    |none=>exact⟨_,rfl⟩
    |some b=>
     obtain⟨z,h⟩:=g b (n*size);exact⟨!z||e.any (·.block==b.block),by simp only[Sem.run_bind,h,Result.andThen_ok];rfl⟩
   |_=>exact⟨_,rfl⟩
 unfold Builtin.mayShare;cases e with
 |none=>exact tail true
 |some a=>
  obtain⟨b,i⟩:=g a (f*size);dsimp only;simp only[Sem.run_bind,i,Result.andThen_ok];exact tail (b&&!(w.frozen? (a.add (f/2*size))))
theorem SR.append{S:fG->Bool}(F:Fit P S D)(Y:Array eD)(t:eD)(ae:∀u,Y[1]? =some u->intType P u=false)(h:iD ρ W X):SV P ρ (Builtin.append_ Y t W) (Builtin.append_ Y t X):=by
 unfold Builtin.append_;obtain⟨e1,_⟩|⟨s,s',e1,e2,hs⟩:=h.get? 0;rw[e1];cases Y[0]? <;>exact .stuck;obtain⟨f1,_⟩|⟨x,Z,f1,f2,hx⟩:=h.get? 1;rw[e1,f1];cases Y[0]? <;>exact .stuck;rw[e1,e2,f1,f2];cases Y[0]? with
 |none=>exact .stuck
 |some sT=>
  dsimp only;refine(SR.under sT).fM λO a b R e=>?_;obtain⟨rfl,hu⟩:=e;have ak:=hs.mono R;have al:=hx.mono R;cases a with
  |slice g=>
   dsimp only;have T:∀(I:fj) (size:Nat) (y r:fR) (d k:Nat),fj.Le O I->VR O (.slice y d k) (.slice r d k)->((y=none/\r=none)\/∃p p',y=some p/\r=some p'/\AR O p p')->SV P I (do
     let n<-Builtin.lenOf x;if d+n<=k then
      let E<-Builtin.firstCells size n x;if let some a:=y then Go.storeCells (a.add (d*size)) E.toList
      Pure.pure (.slice y (d+n) k)
     else
      if((d+n:Nat):Int)>IntKind.i64.max/\(false=true\/(<-typeInfo g).bytes=0)then runtimePanic (.error "growslice: len out of range")
      if Builtin.nextslicecap (d+n) k*(<-typeInfo g).bytes>2^48 then(do
       if !(<-Builtin.mayShare size d n y x)then Go.mark .noRoom
       Go.unsupported (.resourceLimit "append: a slice or a string whose bytes no memory bears"))
      let f<-Go.choose (.appendCap (d+n) k g);Go.askRoom (f*(<-typeInfo g).bytes);let J<-Builtin.firstCells size d (.slice y d k);let E<-Builtin.firstCells size n x;let B:=Builtin.zeroCells (<-zeroValue g).cells (f-(d+n));Pure.pure (.slice (some (<-Go.newRow g (J++E++B))) (d+n) f))
    (do
     let n<-Builtin.lenOf Z;if d+n<=k then
      let E<-Builtin.firstCells size n Z;if let some a:=r then Go.storeCells (a.add (d*size)) E.toList
      Pure.pure (.slice r (d+n) k)
     else
      if((d+n:Nat):Int)>IntKind.i64.max/\(false=true\/(<-typeInfo g).bytes=0)then runtimePanic (.error "growslice: len out of range")
      if Builtin.nextslicecap (d+n) k*(<-typeInfo g).bytes>2^48 then(do
       if !(<-Builtin.mayShare size d n r Z)then Go.mark .noRoom
       Go.unsupported (.resourceLimit "append: a slice or a string whose bytes no memory bears"))
      let f<-Go.choose (.appendCap (d+n) k g);Go.askRoom (f*(<-typeInfo g).bytes);let J<-Builtin.firstCells size d (.slice r d k);let E<-Builtin.firstCells size n Z;let B:=Builtin.zeroCells (<-zeroValue g).cells (f-(d+n));Pure.pure (.slice (some (<-Go.newRow g (J++E++B))) (d+n) f)):=by
    intro I size y r d k v am hb;have aa:=al.mono v;have af:=am.mono v;refine(SR.lenOf aa).fM λan n m K e=>?_;subst e;by_cases L:d+n<=k;rw[eC L,eC L];refine(SR.firstCells size n (aa.mono K)).fM λQ c c' M hc=>?_;obtain⟨rfl,rfl⟩|⟨p,p',rfl,rfl,hp⟩:=hb;exact .gA (.iR _ _);have ag:=((hp.mono v).mono K).mono M;exact SR.fM (SR.storeCells 0 (ag.add (d*size)) hc.list) λC _ _ G _=>.gA (.slice _ _ (ag.mono G));rw[ez L,ez L];refine(SR.info g).fM λQ i j M e=>?_;obtain⟨rfl,_⟩:=e;have tail:∀C,fj.Le Q C->SV P C
     (do
      let f<-Go.choose (.appendCap (d+n) k g);Go.askRoom (f*(<-typeInfo g).bytes);let J<-Builtin.firstCells size d (.slice y d k);let E<-Builtin.firstCells size n x;let B:=Builtin.zeroCells (<-zeroValue g).cells (f-(d+n));Pure.pure (.slice (some (<-Go.newRow g (J++E++B))) (d+n) f))
     (do
      let f<-Go.choose (.appendCap (d+n) k g);Go.askRoom (f*(<-typeInfo g).bytes);let J<-Builtin.firstCells size d (.slice r d k);let E<-Builtin.firstCells size n Z;let B:=Builtin.zeroCells (<-zeroValue g).cells (f-(d+n));Pure.pure (.slice (some (<-Go.newRow g (J++E++B))) (d+n) f)):=by
     intro C G;refine SR.fM (A:=λ_ a b=>a=b) (.choose λn=>.pure rfl) λab c c' N e=>?_;subst e;refine(SR.info g).fM λao i j U e=>?_;obtain⟨rfl,_⟩:=e;refine(SR.askRoom _).fM λap _ _ V _=>?_;have hl:=((((K.trans M).trans G).trans N).trans U).trans V;exact(SR.firstCells size d (af.mono hl)).fM λar o o' ah ho=>(SR.firstCells size n ((aa.mono hl).mono ah)).fM λau w w' ai hw=>(SR.zero F g).fM λav z z' aj hz=>SR.fM (SR.newRow g ((((ho.mono ai).append hw).mono aj).append (Ft hz.cells _))) λaw q q' _ hq=>.gA (.slice _ _ hq)
    have aq:∀C,fj.Le Q C->SV P C (do
      if Builtin.nextslicecap (d+n) k*(<-typeInfo g).bytes>2^48 then(do
       if !(<-Builtin.mayShare size d n y x)then Go.mark .noRoom
       Go.unsupported (.resourceLimit "append: a slice or a string whose bytes no memory bears"))
      let f<-Go.choose (.appendCap (d+n) k g);Go.askRoom (f*(<-typeInfo g).bytes);let J<-Builtin.firstCells size d (.slice y d k);let E<-Builtin.firstCells size n x;let B:=Builtin.zeroCells (<-zeroValue g).cells (f-(d+n));Pure.pure (.slice (some (<-Go.newRow g (J++E++B))) (d+n) f))
     (do
      if Builtin.nextslicecap (d+n) k*(<-typeInfo g).bytes>2^48 then(do
       if !(<-Builtin.mayShare size d n r Z)then Go.mark .noRoom
       Go.unsupported (.resourceLimit "append: a slice or a string whose bytes no memory bears"))
      let f<-Go.choose (.appendCap (d+n) k g);Go.askRoom (f*(<-typeInfo g).bytes);let J<-Builtin.firstCells size d (.slice r d k);let E<-Builtin.firstCells size n Z;let B:=Builtin.zeroCells (<-zeroValue g).cells (f-(d+n));Pure.pure (.slice (some (<-Go.newRow g (J++E++B))) (d+n) f)):=by
     intro C G;refine(SR.info g).fM λab i j N e=>?_;obtain⟨rfl,_⟩:=e;dsimp only;split;refine .never λw=>?_;obtain⟨b,hb⟩:=Fu (P:=P) size d n y x w;simp only[Sem.run_bind,hb,Result.andThen_ok];cases b<;>exact⟨_,_,rfl,rfl⟩;exact tail _ (G.trans N)
    dsimp only;split;exact SR.fM (A:=λ_ _ _=>False) (SR.l7 _ (.inr (.inl ⟨_,rfl⟩))) λ_ _ _ _ h=>h.elim;exact aq _ (.refl _)
   cases ak with
   |iR l c=>
    refine(SR.size g).fM λac size b H e=>?_;obtain⟨rfl,_⟩:=e;cases h1:Y[1]? with
    |none=>exact T _ size none none l c H (.iR _ _) (.inl ⟨rfl,rfl⟩)
    |some u=>
     have hi:=ae u h1;refine(SR.under u).fM λI a b v e=>?_;obtain⟨rfl,ad⟩:=e;simp only[intType,ad]at hi;cases a<;>first|exact T _ size none none l c (H.trans v) (.iR _ _) (.inl ⟨rfl,rfl⟩)|(simp at hi)
   |slice l c ha=>
    refine(SR.size g).fM λac size b H e=>?_;obtain⟨rfl,_⟩:=e;cases h1:Y[1]? with
    |none=>exact T _ size _ _ l c H (.slice _ _ ha) (.inr ⟨_,_,rfl,rfl,ha⟩)
    |some u=>
     have hi:=ae u h1;refine(SR.under u).fM λI a b v e=>?_;obtain⟨rfl,ad⟩:=e;simp only[intType,ad]at hi;cases a<;>first|exact T _ size _ _ l c (H.trans v) (.slice _ _ ha) (.inr ⟨_,_,rfl,rfl,ha⟩)|(simp at hi)
   |_=>exact .stuck
  |_=>exact .stuck
theorem SR.makeSlice{S:fG->Bool}(F:Fit P S D)(t:eD){C:eu}(N:VR ρ x y)(O:VR ρ z C):SV P ρ (Instr.makeSlice t x z) (Instr.makeSlice t y C):=by
 unfold Instr.makeSlice;refine(SR.under t).fM λE a b d e=>?_;obtain⟨rfl,R⟩:=e;cases a with
 |slice c=>
  dsimp only;refine(SR.asInt (N.mono d)).fM λG n m l e=>?_;subst e;refine(SR.asInt ((O.mono d).mono l)).fM λH k m v e=>?_;subst e;refine(SR.info c).fM λI i j w e=>?_;obtain⟨rfl,_⟩:=e;have tail:∀f,SV P f
   (do
    Go.askRoom ((IntKind.i64.wrap k).toNat*i.bytes);let r:=(IntKind.i64.wrap k).toNat*(<-Go.sizeOf c);let zero<-if r=0 then Pure.pure #[]else do Pure.pure (<-zeroValue c).cells
    let a<-Go.newRow c ((Array.range r).map (zero[·%zero.size]!));Pure.pure (.slice (some a) (IntKind.i64.wrap n).toNat (IntKind.i64.wrap k).toNat))
   (do
    Go.askRoom ((IntKind.i64.wrap k).toNat*i.bytes);let r:=(IntKind.i64.wrap k).toNat*(<-Go.sizeOf c);let zero<-if r=0 then Pure.pure #[]else do Pure.pure (<-zeroValue c).cells
    let a<-Go.newRow c ((Array.range r).map (zero[·%zero.size]!));Pure.pure (.slice (some a) (IntKind.i64.wrap n).toNat (IntKind.i64.wrap k).toNat)):=by
   intro f;refine(SR.askRoom _).fM λJ _ _ _ _=>(SR.size c).fM λo s T _ e=>?_;obtain⟨rfl,_⟩:=e;dsimp only;split;exact SR.fM (A:=λρ a b=>iD ρ a b) (.gA .nil) λg L M _ u=>SR.fM (SR.newRow c (DK u _)) λp q Q _ K=>.gA (.slice _ _ K);exact(SR.zero F c).fM λg L M _ u=>SR.fM (A:=λρ a b=>iD ρ a b) (.gA u.cells) λg L M _ u=>SR.fM (SR.newRow c (DK u _)) λp q Q _ K=>.gA (.slice _ _ K)
  try dsimp only
  repeat' split
  all_goals first
   |exact tail _
   |exact SR.fM (A:=λ_ _ _=>False) (SR.l7 _ (.inr (.inl ⟨_,rfl⟩))) λ_ _ _ _ h=>h.elim
   |(refine SR.fM (A:=λ_ a b=>a=b) (.choose λn=>.pure rfl) λo z C B e=>?_;subst e;exact SR.fM (A:=λ_ _ _=>False) (SR.l7 _ (.inr (.inl ⟨_,rfl⟩))) λ_ _ _ _ h=>h.elim)
 |_=>exact .stuck
inductive vh (ρ:fj):Deferred->Deferred->Prop
 |fn {f:fG} {cs vH xs xs':Array eu} (hS:ρ.S f=true) (h1:iD ρ cs vH) (h2:iD ρ xs xs'):vh ρ {target:=.fn (.func f) cs,args:=xs} {target:=.fn (.func f) vH,args:=xs'}
 |yield {l l':Nat} {xs xs':Array eu} (h:ρ.r l l') (h2:iD ρ xs xs'):vh ρ {target:=.fn (.yield l) #[],args:=xs} {target:=.fn (.yield l') #[],args:=xs'}
 |nil {xs xs':Array eu} (h2:iD ρ xs xs'):vh ρ {target:=.nil,args:=xs} {target:=.nil,args:=xs'}
 |collected {l l':Nat} (h:ρ.r l l'):vh ρ {target:=.collected l,args:=#[]} {target:=.collected l',args:=#[]}
inductive tB (ρ:fj):Next->Next->Prop
 |value {v v':eu} (h:VR ρ v v'):tB ρ (.value v) (.value v')
 |skip:tB ρ .skip .skip
 |enter {f:fG} {xs xs':Array eu} (hS:ρ.S f=true) (h:iD ρ xs xs'):tB ρ (.enter f xs) (.enter f xs')
 |round {l l':Nat} {f:fG} {xs xs':Array eu} {a b:Code} (hl:ρ.r l l') (hf:ρ.S f=true) (hh:ρ.hole f=false) (hd:ρ.df f=false) (ha:ρ.ok f a=true) (hb:ρ.ok f b=true) (h:iD ρ xs xs'):tB ρ (.round l f xs a b) (.round l' f xs' a b)
 |defer {d d':Deferred} (h:vh ρ d d') (hd:ρ.Def):tB ρ (.defer d) (.defer d')
abbrev SN(P:eE)(ρ:fj)(s a:Sem Next):Prop:=SR P tB ρ s a
def SN.v{s a:Sem eu}(h:SV P ρ s a):SN P ρ (do Pure.pure (.value (<-s))) (do Pure.pure (.value (<-a))):=SR.fM h λ_ _ _ _ b=>.gA (.value b)
def SN.u{s a:Sem Unit}(h:SE P ρ s a):SN P ρ (do s;Pure.pure .skip) (do a;Pure.pure .skip):=SR.fM h λ_ _ _ _ _=>.gA .skip
structure QG(P:eE)(ρ:fj):Prop where
 fn:∀f,ρ.S f=true->∃fn' c,ρ.fs[f]? =some fn'/\(fn'.name== "runtime.NumGoroutine")=false/\fn'.body=some c/\(ρ.hole f=false->P.funcs[f]? =some fn')
def QG.mono{ρ b:fj}(h:QG P ρ)(a:fj.Le ρ b):QG P b:=⟨by rw[<-a.s,<-a.f,<-a.h];exact h.fn⟩
theorem SR.callFunc(F:Fit P ρ.S ρ.dim)(T:QG P ρ)(f:fG)(i:ρ.S f=true)(h:iD ρ W X):SN P ρ (Go.callFunc f W) (Go.callFunc f X):=by obtain⟨q,c,k,l,m⟩:=F.fn f i;obtain⟨j,r,n,o,p,_⟩:=T.fn f i;unfold Go.callFunc;refine SR.prog.fM λd a b g e=>?_;obtain⟨rfl,rfl⟩:=e;rw[k,show(a.ki d.fs).funcs[f]? =some j from by rw[<-n,<-g.f]];dsimp only;rw[l,m,o,p];exact .gA (.enter (g.s▸i) (h.mono g))
theorem SR.getLoop(h:ρ.r m k):SR P (λρ a b=>Fj ρ a b) ρ (Instr.getLoop m) (Instr.getLoop k):=by
 unfold Instr.getLoop;refine SR.fM (A:=λρ a b=>mq ρ a b/\∀g t i,a≠ .cells g t i) (.getObj h λo j c e=>.pure ⟨c,e⟩) λf o j d c=>?_;obtain⟨c,e⟩:=c;cases c with
 |loop h=>exact .gA h
 |cells _ _=>exact absurd rfl (e _ _ _)
 |_=>exact .stuck
def Ls(h:sU ρ M Y):∀(c:List Tmp) {d b:fZ},iD ρ d b->
 iD ρ ((c.zip M).foldl (λa (x:Tmp×eu)=>a.setIfInBounds x.1 x.2) d) ((c.zip Y).foldl (λa (x:Tmp×eu)=>a.setIfInBounds x.1 x.2) b):=by
 induction h with
 |nil=>exactλc d b h=>by simpa using h
 |cons h _ f=>
  intro c d b e;cases c with
  |nil=>simpa using e
  |cons p c=>exact f c (e.set p h)
theorem SR.yield(h:ρ.r m k)(d:iD ρ W X):SN P ρ (Instr.yield m W) (Instr.yield k X):=by unfold Instr.yield;refine(SR.getLoop h).fM λc r j b a=>?_;have e:=a.params;have f:=a.fn;have g:=a.assign;have i:=a.body;rw[<-e,<-d.size];split;exact .dead rfl;refine .gA ?_;rw[<-f,<-g,<-i];refine .round (b.r _ _ h) a.fnS a.fnH a.hd a.okA a.okB ?_;have:=Ls (d.mono b).list r.params.toList a.tmps;rw[<-Nt,<-Nt,Array.toList_zip,Array.toList_zip];exact this
theorem SR.enterLoop{fn:fG}(D:ρ.S fn=true)(E:ρ.hole fn=false)(K:iD ρ W X)(z:Array Tmp)(a b:Code)(L:ρ.ok fn a=true)(F:ρ.ok fn b=true)(t:ρ.df fn=false){G q:Option Nat} (H:(G=none/\q=none)\/∃l I,G=some l/\q=some I/\ρ.r l I):
 SR P (λρ (x y:Nat×List Deferred)=>ρ.r x.1 y.1/\((x.2=[]/\y.2=[])\/∃d p,x.2=[d]/\y.2=[p]/\vh ρ d p/\∃b,d.target=.collected b)) ρ (Instr.enterLoop fn W z a b G) (Instr.enterLoop fn X z a b q):=by
 unfold Instr.enterLoop;have u:∀j (d p:Nat) (m B:List Deferred),fj.Le ρ j->j.r d p->((m=[]/\B=[])\/∃x C,m=[x]/\B=[C]/\vh j x C/\∃b,x.target=.collected b)->
  SR P (λρ (x y:Nat×List Deferred)=>ρ.r x.1 y.1/\((x.2=[]/\y.2=[])\/∃d p,x.2=[d]/\y.2=[p]/\vh ρ d p/\∃b,d.target=.collected b)) j
   (do Pure.pure (<-newObj (.loop {state:=.ready,pending:=none,fn,tmps:=W,params:=z,assign:=a,body:=b,defers:=d}),m))
   (do Pure.pure (<-newObj (.loop {state:=.ready,pending:=none,fn,tmps:=X,params:=z,assign:=a,body:=b,defers:=p}),B)):=by
  intro j d p m B k M J;refine SR.fM (A:=λi a b=>i.r a b/\fj.Le j i) (.new (.loop ⟨rfl,rfl,rfl,K.mono k,rfl,rfl,rfl,M,k.s▸D,k.o▸L,k.o▸F,(λ_ e=>by cases e),k.w▸t,k.h▸E⟩) λn N O J _=>.pure ⟨fj.uI _ _ _ _ _,fj.vG _ _ _ _ _⟩) λg x y f c=>.gA ⟨c.1,?_⟩;obtain⟨rfl,rfl⟩|⟨x,C,rfl,rfl,Q,F⟩:=J;exact .inl ⟨rfl,rfl⟩;refine .inr ⟨x,C,rfl,rfl,?_,F⟩;cases Q with
  |fn R T v=>exact .fn (c.2.s▸R) (T.mono c.2) (v.mono c.2)
  |yield h v=>exact .yield (c.2.r _ _ h) (v.mono c.2)
  |nil v=>exact .nil (v.mono c.2)
  |collected h=>exact .collected (c.2.r _ _ h)
 obtain⟨rfl,rfl⟩|⟨l,I,rfl,rfl,U⟩:=H;dsimp only;exact SR.fM (A:=λi a b=>i.r a b) (.new .wE λn N O J _=>.pure (fj.uI _ _ _ _ _)) λg x y f c=>u g x y _ _ f c (.inr ⟨_,_,rfl,rfl,.collected c,_,rfl⟩);dsimp only;exact(SR.getLoop U).fM λg x y f c=>u g _ _ _ _ f c.defers (.inl ⟨rfl,rfl⟩)
theorem SR.beginRound(h:ρ.r m k):SE P ρ (Instr.beginRound m) (Instr.beginRound k):=by
 unfold Instr.beginRound;refine(SR.getLoop h).fM λc r g d a=>SR.fM (A:=λ_ _ _=>True) (.setObj (d.r _ _ h) (.loop ⟨rfl,a.pending,a.fn,a.tmps,a.params,a.assign,a.body,a.defers,a.fnS,a.okA,a.okB,a.okP,a.hd,a.fnH⟩) (λ_ _ _ e=>by cases e) (.pure trivial)) λf _ _ b _=>?_;rw[<-a.state];cases r.state with
 |ready=>exact .gA rfl
 |_=>exact SR.l7 _ (.inr (.inl ⟨_,rfl⟩))
theorem SR.endRound(h:ρ.r m k)(j:Option Code)(l:∀c,j=some c->∀f,ρ.ok f c=true):SV P ρ (Instr.endRound m j) (Instr.endRound k j):=by unfold Instr.endRound;exact(SR.getLoop h).fM λg r n b a=>SR.fM (A:=λ_ _ _=>True) (.setObj (b.r _ _ h) (.loop ⟨rfl,rfl,a.fn,a.tmps,a.params,a.assign,a.body,a.defers,a.fnS,a.okA,a.okB,b.o▸l,a.hd,a.fnH⟩) (λ_ _ _ e=>by cases e) (.pure trivial)) λi _ _ d _=>.gA (.bool _)
theorem SR.endLoop(h:ρ.r m k):SR P (λρ a b=>a=b/\∀c,a=some c->∀f,ρ.ok f c=true) ρ (Instr.endLoop m) (Instr.endLoop k):=by
 unfold Instr.endLoop;refine(SR.getLoop h).fM λg r q j d=>?_;have s:=d.state;have l:SR P (λρ a b=>a=b/\∀c,a=some c->∀f,ρ.ok f c=true) g (do Go.setObj m (.loop {r with state:=.exhausted});Pure.pure r.pending) (do Go.setObj k (.loop {q with state:=.exhausted});Pure.pure q.pending):=by exact SR.fM (A:=λn _ _=>fj.Le g n) (.setObj (j.r _ _ h) (.loop ⟨rfl,d.pending,d.fn,d.tmps,d.params,d.assign,d.body,d.defers,d.fnS,d.okA,d.okB,d.okP,d.hd,d.fnH⟩) (λ_ _ _ e=>by cases e) (.pure (.refl _))) λp _ _ i t=>.gA ⟨d.pending,λc e=>t.o▸d.okP c e⟩
 rw[<-s];split;exact SR.fM (A:=λ_ _ _=>False) (SR.l7 _ (.inr (.inl ⟨_,rfl⟩))) λ_ _ _ _ h=>h.elim;exact l
theorem SR.takeDeferred(h:ρ.r m k):SR P (λ_ a b=>a=[]/\b=[]) ρ (Instr.takeDeferred m) (Instr.takeDeferred k):=by
 unfold Instr.takeDeferred;refine SR.fM (A:=λρ a b=>mq ρ a b/\∀i t j,a≠ .cells i t j) (.getObj h λo l f g=>.pure ⟨f,g⟩) λd o l c f=>?_;obtain⟨f,g⟩:=f;cases f with
 |wE=>
  dsimp only;exact SR.fM (A:=λ_ _ _=>True) (.setObj (c.r _ _ h) .taken (λ_ _ _ e=>by cases e) (.pure trivial)) λd _ _ c _=>.gA ⟨rfl,rfl⟩
 |cells _ _=>exact absurd rfl (g _ _ _)
 |_=>exact .stuck
theorem SR.ofValue(h:VR ρ x y){xs xs':fZ}(a:iD ρ xs xs'):SR P vh ρ (Deferred.ofValue x xs) (Deferred.ofValue y xs'):=by
 unfold Deferred.ofValue;cases h with
 |func b c d e f=>exact .gA (.fn b ⟨e,f⟩ (iD.append ⟨c,d⟩ a))
 |yield h=>exact .gA (by simpa using vh.yield h a)
 |nilFunc=>exact .gA (.nil a)
 |_=>exact .stuck
theorem SR.invoke(F:Fit P ρ.S ρ.dim)(T:QG P ρ){d b:Deferred}(h:vh ρ d b):SN P ρ (Go.invoke d.target d.args) (Go.invoke b.target b.args):=by
 unfold Go.invoke;cases h with
 |fn c e a=>exact SR.callFunc F T _ c (a.append e)
 |yield h a=>exact SR.yield h a
 |nil a=>exact SR.l7 _ (.inr (.inr (.inr rfl)))
 |collected h=>exact .stuck
def Fv{c a:fI->eu}{b:Array fI}(h:∀x,lQ ρ.S x=true->VR ρ (c x) (a x))(d:∀x∈b,lQ ρ.S x=true):iD ρ (b.map c) (b.map a):=
 iD.map _ _ _ λx e=>h x (d x e)
def SR.exec(F:Fit P ρ.S ρ.dim)(T:QG P ρ){ev ev':fI->eu}(h:∀x,lQ ρ.S x=true->VR ρ (ev x) (ev' x))(I:D=true->ρ.Def)(J:∀v,ev (.const v)=v/\ev' (.const v)=v)(o:Oper)(O:qJ P ρ.S ρ.dim D o=true)(V:∀t m k x,o.op≠ .mapUpdate t m k x):SN P ρ (execOp ev o) (execOp ev' o):=by
 simp only[qJ,fE,xE]at O;obtain⟨g,j⟩:=O;unfold execOp;cases Q:o.op<;>simp only[Q,Fp,Op.operands]at g j;case move x=>exact .gA (.value (h x (g x (by simp))))
 case assign x=>exact .gA (.value (h x (g x (by simp))))
 case pick c a b=>
  refine(SR.asBool (h c (g c (by simp)))).fM λE x y p e=>?_;subst e;refine .gA (.value ?_);split;exact(h a (g a (by simp))).mono p;exact(h b (g b (by simp))).mono p
 case alloc t=>exact SN.v (SR.alloc F t _)
 case box t x=>exact SN.v (SR.box t (h x (g x (by simp))))
 case build t L=>
  refine SN.v (SR.build F t ?_);have:=xH (ρ:=ρ) (ev:=ev) (ev':=ev') (l:=L.toList) λx w=>h _ (g _ (by simp;exact⟨x.1,by simpa using w⟩));simpa using this
 case buildSlice t n L=>
  refine SN.v (SR.buildSlice F t n ?_);have:=xH (ρ:=ρ) (ev:=ev) (ev':=ev') (l:=L.toList) λx w=>h _ (g _ (by simp;exact⟨x.1,by simpa using w⟩));simpa using this
 case load t a=>exact SN.v (SR.loadAt t (h a (g a (by simp))))
 case store t a x=>exact SN.u (SR.storeAt t (h a (g a (by simp))) (h x (g x (by simp))))
 case nilCheck x=>
  have w:=h x (g x (by simp));dsimp only;revert w;generalize ev x=v;generalize ev' x=v';intro w;cases w<;>first
   |exact SR.l7 _ (.inr (.inr (.inr rfl)))
   |exact .gA (.value (by first|exact .bool _|exact .int _ _|exact .string _|exact .ptr ‹_›|exact .iR _ _|exact .slice _ _ ‹_›|exact .tx|exact .map ‹_›|exact .rL|exact .chan ‹_›|exact .func ‹_› ‹_› ‹_› ‹_› ‹_›|exact .yield ‹_›|exact .iface _ ‹_›|exact .agg ‹_› ‹_›|exact .tuple ‹_› ‹_›|exact .DI ‹_› _))
 case binOp H t x y yt=>
  refine SN.v ?_;have w:=h x (g x (by simp));have K:=h y (g y (by simp));have R:(H=.eql\/H=.neq)->ir P 5 t=true:=by rintro(rfl|rfl)<;>simpa using j
  exact(SR.eqGuard F H t (λ_ _=>trivial) R x y w K).fM λE _ _ p _=>SR.binOp (dim:=ρ.dim) F H t R (w.mono p) (K.mono p)
 case unOp H t x=>exact SN.v (SR.unary H (h x (g x (by simp))))
 case convert s d x=>
  simp only[fE]at j;exact SN.v (SR.conv s d j.1 j.2 (h x (g x (by simp))))
 case makeFunc W fs cs=>
  cases W with
  |func f=>exact SN.v (.gA (.func j (by simp) (Fv h λx w=>g x (by simp[w])).at_ (by simp) (Fv h λx w=>g x (by simp[w])).at_))
  |_=>simp at j
 case makeMap t r=>
  refine SN.v (SR.makeMap t ?_);cases r with
  |none=>exact .none
  |some x=>exact .some (h x (g x (by simp)))
 case makeSlice t l c=>exact SN.v (SR.makeSlice F t (h l (g l (by simp))) (h c (g c (by simp))))
 case slice t x X Y Z=>
  have G:∀(y:Option fI),(∀z,y=some z->lQ ρ.S z=true)->tA ρ (y.map ev) (y.map ev'):=by
   intro y K;cases y with
   |none=>exact .none
   |some z=>exact .some (h z (K z rfl))
  exact SN.v (SR.sliceAt t (h x (g x (by simp))) (G X λz e=>g z (by simp[e])) (G Y λz e=>g z (by simp[e])) (G Z λz e=>g z (by simp[e])))
 case fieldAddr s x i=>exact SN.v (SR.fieldAt s i (by simpa[Fp]using j) (h x (g x (by simp))))
 case field s x i=>exact SN.v (SR.field s (h x (g x (by simp))) i)
 case indexAddr t x i=>exact SN.v (SR.indexAt t (h x (g x (by simp))) (h i (g i (by simp))))
 case index t x i=>exact SN.v (SR.index t (h x (g x (by simp))) (h i (g i (by simp))))
 case lookup t m k ok=>
  refine SN.v (SR.lookup F t (λkt e M=>?_) ok (h m (g m (by simp))) (h k (g k (by simp))));simp only[M,fE]at j;exact j.2
 case mapUpdate t m k x=>exact absurd Q (V t m k x)
 case extract x i=>exact SN.v (SR.extract (h x (g x (by simp))) i)
 case call c=>
  obtain⟨A,B,C⟩:=c;cases A with
  |value f=>
   unfold resolve;dsimp only;exact SR.fM (SR.ofValue (h f (g f (by simp[Call.operands]))) (Fv h λx w=>g x (by simp[Call.operands,w]))) λE d d' p N=>SR.invoke (p.s▸p.d▸F) (T.mono p) N
  |builtin b=>
   unfold resolve;have q:iD ρ (B.map ev) (B.map ev'):=Fv h λx w=>g x (by simp[Call.operands,w]);simp only[fE]at j;obtain⟨h1,U⟩:=j;dsimp only;show SN P ρ (Go.builtin b C o.type _ (B.map ev)) (Go.builtin b C o.type _ (B.map ev'));cases b<;>first
    |(simp[Cq]at h1;done)
    |exact SN.v (SR.len C o.type q)
    |exact SN.v (SR.cap C o.type q)
    |exact SN.v (SR.max C o.type q)
    |exact SN.v (SR.min C o.type q)
    |(refine SN.v (SR.append F C o.type (λu M=>?_) q);simp only[M,tl]at U;exact U)
  |invoke r n=>simp at j
 case defer c=>
  obtain⟨A,B,C⟩:=c;cases A with
  |value f=>
   unfold resolve;dsimp only;exact SR.fM (SR.ofValue (h f (g f (by simp[Call.operands]))) (Fv h λx w=>g x (by simp[Call.operands,w]))) λE d d' p N=>.gA (.defer N ((I j).mono p))
  |_=>simp at j
 case panic x=>
  split at j;rename_i t k n;refine SN.v (?_:SV P ρ (Instr.panic (ev (.const (.iface t (.int k n))))) (Instr.panic (ev' (.const (.iface t (.int k n))))));rw[(J _).1,(J _).2];exact SR.goPanic (.iface _ (.int _ _)) (.inl (I j));cases j
 all_goals simp at j
theorem SX.exec(F:Fit P ρ.S ρ.dim)(T:QG P ρ){f c:fI->eu}(b:∀x,lQ ρ.S x=true->VR ρ (f x) (c x))(g:D=true->ρ.Def)(h:∀v,f (.const v)=v/\c (.const v)=v)(o:Oper)(i:qJ P ρ.S ρ.dim D o=true):SX P tB ρ (execOp f o) (execOp c o):=by by_cases j:∃t m k x,o.op=.mapUpdate t m k x;obtain⟨t,m,k,x,l⟩:=j;simp only[qJ,fE,xE]at i;obtain⟨a,d⟩:=i;unfold execOp;simp only[l,Fp,Op.operands]at a d⊢;refine SX.map (SX.mapUpdate F t (λp e n=>?_) (b m (a m (by simp))) (b k (a k (by simp))) (b x (a x (by simp)))) λ_ _ _ _=>.skip;simp only[n,fE]at d;exact d.2;exact .of (SR.exec F T b g h o i λt m k x e=>j ⟨t,m,k,x,e⟩)
end
section
variable{P:eE}
structure Good(P:eE)(ρ:fj):Prop where
 fit:Fit P ρ.S ρ.dim
 ok:ρ.ok=λf=>jI P ρ.S ρ.dim (ρ.df f)
 code:∀f,ρ.S f=true->ρ.hole f=false->∃fn c,P.funcs[f]? =some fn/\fn.body=some c/\jI P ρ.S ρ.dim (ρ.df f) c=true
 two:QG P ρ
 dh:ρ.Def->∀f,ρ.hole f=false
theorem Good.mono{b:fj}(h:Good P R)(a:fj.Le R b):Good P b:=⟨a.s▸a.d▸h.fit,by rw[<-a.o,<-a.s,<-a.d,<-a.w];exact h.ok,by rw[<-a.s,<-a.d,<-a.w,<-a.h];exact h.code,h.two.mono a,λ⟨f,c⟩ g=>by rw[<-a.h];exact h.dh ⟨f,by rw[a.w];exact c⟩ g⟩
inductive sV (P:eE) (ρ:fj) (f:fG):Item->Item->Prop
 |code {c:Code} (h:ρ.ok f c=true):sV P ρ f (.code c) (.code c)
 |inBlock (id:Nat):sV P ρ f (.inBlock id) (.inBlock id)
 |inLoop {c:Code} (h:ρ.ok f c=true):sV P ρ f (.inLoop c) (.inLoop c)
 |inScope {c:Code} (h:ρ.ok f c=true):sV P ρ f (.inScope c) (.inScope c)
 |inRegion {ops:Array Oper} (todo:List Nat) (h:∀(i:Nat) o,ops[i]? =some o->qJ P ρ.S ρ.dim (ρ.df f) o=true):sV P ρ f (.inRegion ops todo) (.inRegion ops todo)
 |inRangeFunc {l l':Nat} (h:ρ.r l l'):sV P ρ f (.inRangeFunc l) (.inRangeFunc l')
 |endRangeFunc {l l':Nat} (h:ρ.r l l'):sV P ρ f (.endRangeFunc l) (.endRangeFunc l')
 |beginRound:sV P ρ f .beginRound .beginRound
inductive mu (P:eE) (ρ:fj) (f:fG):List Item->List Item->Prop
 |nil:mu P ρ f [] []
 |cons {x x':Item} {l l':List Item} (h:sV P ρ f x x') (t:mu P ρ f l l'):mu P ρ f (x::l) (x'::l')
inductive wG (ρ:fj):List Deferred->List Deferred->Prop
 |nil:wG ρ [] []
 |cons {x x':Deferred} {l l':List Deferred} (h:vh ρ x x') (hq:ρ.Def\/∃b,x.target=.collected b) (t:wG ρ l l'):wG ρ (x::l) (x'::l')
structure VY(ρ:fj)(a b:PanicEntry):Prop where
 v:VR ρ a.v b.v
 rcv:a.recovered=b.recovered
 ge:a.goexit=b.goexit
 ok:vp ρ a.v
inductive nG (ρ:fj):List PanicEntry->List PanicEntry->Prop
 |nil:nG ρ [] []
 |cons {x x':PanicEntry} {l l':List PanicEntry} (h:VY ρ x x') (t:nG ρ l l'):nG ρ (x::l) (x'::l')
inductive yH (ρ:fj):FrameMode->FrameMode->Prop
 |run:yH ρ .run .run
 |returning:yH ρ .returning .returning
 |panicking {c c':List PanicEntry} (h:nG ρ c c'):yH ρ (.panicking c) (.panicking c')
structure fX(P:eE)(ρ:fj)(fr NG:Frame):Prop where
 fn:fr.fn=NG.fn
 fnS:ρ.S fr.fn=true/\ρ.hole fr.fn=false
 tmps:iD ρ fr.tmps NG.tmps
 todo:mu P ρ fr.fn fr.todo NG.todo
 defers:wG ρ fr.defers NG.defers
 mode:yH ρ fr.mode NG.mode
 kind:fr.kind=NG.kind
 round:(fr.roundOf=none/\NG.roundOf=none)\/∃l l',fr.roundOf=some l/\NG.roundOf=some l'/\ρ.r l l'/\ρ.df fr.fn=false
inductive jZ (P:eE) (ρ:fj):List Frame->List Frame->Prop
 |nil:jZ P ρ [] []
 |cons {x x':Frame} {l l':List Frame} (h:fX P ρ x x') (t:jZ P ρ l l'):jZ P ρ (x::l) (x'::l')
def sV.mono{b:fj}(a:fj.Le R b){x e:Item}(h:sV P R K x e):sV P b K x e:=by
 cases h with
 |code h=>exact .code (a.o▸h)
 |inBlock id=>exact .inBlock id
 |inLoop h=>exact .inLoop (a.o▸h)
 |inScope h=>exact .inScope (a.o▸h)
 |inRegion c h=>exact .inRegion c (by rw[<-a.s,<-a.d,<-a.w];exact h)
 |inRangeFunc h=>exact .inRangeFunc (a.r _ _ h)
 |endRangeFunc h=>exact .endRangeFunc (a.r _ _ h)
 |beginRound=>exact .beginRound
theorem mu.mono{a:fj}(b:fj.Le R a){x c:List Item}(h:mu P R K x c):mu P a K x c:=by
 induction h with
 |nil=>exact .nil
 |cons h _ d=>exact .cons (h.mono b) d
theorem vh.mono{b:fj}(a:fj.Le R b){x d:Deferred}(h:vh R x d):vh b x d:=by
 cases h with
 |fn e f c=>exact .fn (a.s▸e) (f.mono a) (c.mono a)
 |yield h c=>exact .yield (a.r _ _ h) (c.mono a)
 |nil c=>exact .nil (c.mono a)
 |collected h=>exact .collected (a.r _ _ h)
theorem wG.mono{a:fj}(b:fj.Le R a){x c:List Deferred}(h:wG R x c):wG a x c:=by
 induction h with
 |nil=>exact .nil
 |cons h d _ e=>exact .cons (h.mono b) (d.imp (.mono b) id) e
theorem nG.mono{a:fj}(b:fj.Le R a){x c:List PanicEntry}(h:nG R x c):nG a x c:=by
 induction h with
 |nil=>exact .nil
 |cons h _ d=>exact .cons ⟨h.v.mono b,h.rcv,h.ge,h.ok.mono b⟩ d
theorem yH.mono{a:fj}(b:fj.Le R a){x c:FrameMode}(h:yH R x c):yH a x c:=by
 cases h with
 |run=>exact .run
 |returning=>exact .returning
 |panicking h=>exact .panicking (h.mono b)
theorem fX.mono{f:fj}(e:fj.Le R f){g:Frame}(h:fX P R F g):fX P f F g:=
 ⟨h.fn,⟨e.s▸h.fnS.1,e.h▸h.fnS.2⟩,h.tmps.mono e,h.todo.mono e,h.defers.mono e,h.mode.mono e,h.kind,h.round.imp id λ⟨l,i,a,b,c,d⟩=>⟨l,i,a,b,e.r _ _ c,e.w▸d⟩⟩
theorem jZ.mono{a:fj}(b:fj.Le R a){x c:List Frame}(h:jZ P R x c):jZ P a x c:=by
 induction h with
 |nil=>exact .nil
 |cons h _ d=>exact .cons (h.mono b) d
def nG.append{a c b d:List PanicEntry}(h:nG R a c)(k:nG R b d):nG R (a++b) (c++d):=by
 induction h with
 |nil=>exact k
 |cons h _ e=>exact .cons h e
def wG.append{a c b d:List Deferred}(h:wG R a c)(k:wG R b d):wG R (a++b) (c++d):=by
 induction h with
 |nil=>exact k
 |cons h e _ f=>exact .cons h e f
theorem mu.exitTo(id:Nat){k a:List Item}(h:mu P R K k a):(exitTo id k=none/\exitTo id a=none)\/∃j b,exitTo id k=some j/\exitTo id a=some b/\mu P R K j b:=by
 induction h with
 |nil=>exact .inl ⟨rfl,rfl⟩
 |cons h t c=>
  cases h with
  |inBlock d=>
   simp only[Go.exitTo];split;exact .inr ⟨_,_,rfl,rfl,t⟩;exact c
  |_=>exact c
theorem rN{S:fG->Bool}:∀{c:Code} {l:Nat} {r:Code},jI P S D E c=true->findLabel c l=some r->jI P S D E r=true
 | .seq a b,l,r,h,e=>by simp only[jI,fE]at h;simp only[findLabel]at e;split at e;rename_i d f;cases e;simp only[jI,fE];exact⟨rN h.1 f,h.2⟩;exact rN h.2 e
 | .label g,l,r,h,e=>by simp only[findLabel]at e;split at e;cases e;rfl;cases e
 | .skip,_,_,_,e=>by simp[findLabel]at e
 | .region _ _ _,_,_,_,e=>by simp[findLabel]at e
 | .cond _ _ _,_,_,_,e=>by simp[findLabel]at e
 | .block _ _,_,_,_,e=>by simp[findLabel]at e
 | .loop _,_,_,_,e=>by simp[findLabel]at e
 | .rangeFunc _ _ _ _,_,_,_,e=>by simp[findLabel]at e
 | .exit _,_,_,_,e=>by simp[findLabel]at e
 | .scope _,_,_,_,e=>by simp[findLabel]at e
 | .goto _,_,_,_,e=>by simp[findLabel]at e
 | .ret,_,_,_,e=>by simp[findLabel]at e
 | .refuse _,_,_,_,e=>by simp[findLabel]at e
theorem mu.gotoIn(f:Good P R)(l:Nat){k a:List Item}(h:mu P R K k a):(gotoIn l k=none/\gotoIn l a=none)\/∃j d,gotoIn l k=some j/\gotoIn l a=some d/\mu P R K j d:=by
 induction h with
 |nil=>exact .inl ⟨rfl,rfl⟩
 |cons h t e=>
  cases h with
  | @inScope c b=>
   simp only[Go.gotoIn];cases g:findLabel c l with
   |none=>exact e
   |some r=>exact .inr ⟨_,_,rfl,rfl,.cons (.code (by rw[f.ok]at b⊢;exact rN b g)) (.cons (.inScope b) t)⟩
  |_=>exact e
theorem fX.eval{a:Frame}(h:fX P R F a)(x:fI)(b:lQ R.S x=true):VR R (F.eval x) (a.eval x):=by
 cases x with
 |tmp t=>exact h.tmps.getD .undef t
 |const v=>exact rj b
 |global g=>simp[lQ]at b
 |func f=>exact .func b rfl (λi v c h=>by simp at h) rfl (λi v c h=>by simp at h)
theorem fX.finish{l:Frame}(h:fX P R F l)(B:VR R x y):fX P R (F.finish x) (l.finish y):=by
 obtain⟨H,u,v,o,w,kind,I⟩:=F;obtain⟨C,p,q,m,r,s,D⟩:=l;obtain⟨b,c,a,z,e,f,g,j⟩:=h;simp only at b c a z e f g j;cases z with
 |nil=>exact⟨b,c,a,.nil,e,f,g,j⟩
 |cons E k=>
  cases E with
  | @inRegion t G n=>
   cases G with
   |nil=>exact⟨b,c,a,.cons (.inRegion _ n) k,e,f,g,j⟩
   |cons i A=>
    refine⟨b,c,?_,.cons (.inRegion _ n) k,e,f,g,j⟩;simp only[Frame.finish];cases(t[i]?).bind (·.dst)with
    |none=>exact a
    |some d=>exact a.set d B
  |inRangeFunc h=>exact⟨b,c,a,.cons (.endRangeFunc h) k,e,f,g,j⟩
  |beginRound=>exact⟨b,c,a,k,e,f,g,j⟩
  |code h=>exact⟨b,c,a,.cons (.code h) k,e,f,g,j⟩
  |inBlock id=>exact⟨b,c,a,.cons (.inBlock id) k,e,f,g,j⟩
  |inLoop h=>exact⟨b,c,a,.cons (.inLoop h) k,e,f,g,j⟩
  |inScope h=>exact⟨b,c,a,.cons (.inScope h) k,e,f,g,j⟩
  |endRangeFunc h=>exact⟨b,c,a,.cons (.endRangeFunc h) k,e,f,g,j⟩
theorem fX.raise{a:Frame}(h:fX P R F a){c c':List PanicEntry}(m:nG R c c'):fX P R (F.raise c) (a.raise c'):=by
 obtain⟨x,r,s,d,t,kind,y⟩:=F;obtain⟨v,n,o,b,p,q,w⟩:=a;obtain⟨e,f,g,i,j,u,k,l⟩:=h;simp only at e f g i j u k l;cases u with
 |run=>exact⟨e,f,g,i,j,.panicking m,k,l⟩
 |returning=>exact⟨e,f,g,i,j,.panicking m,k,l⟩
 |panicking h=>exact⟨e,f,g,i,j,.panicking (m.append h),k,l⟩
def fX.z8{a:Frame}(h:fX P R F a){k b:List Item}(c:mu P R F.fn k b):fX P R {F with todo:=k} {a with todo:=b}:=
 ⟨h.fn,h.fnS,h.tmps,c,h.defers,h.mode,h.kind,h.round⟩
def fX.Fw{a:Frame}(h:fX P R F a){k b:FrameMode}(c:yH R k b):fX P R {F with mode:=k} {a with mode:=b}:=
 ⟨h.fn,h.fnS,h.tmps,h.todo,h.defers,c,h.kind,h.round⟩
def fX.pD{a:Frame}(h:fX P R F a){k b:List Deferred}(c:wG R k b):fX P R {F with defers:=k} {a with defers:=b}:=
 ⟨h.fn,h.fnS,h.tmps,h.todo,c,h.mode,h.kind,h.round⟩
def QH(a:Good P R)(b:R.S K=true)(d:R.hole K=false)(h:iD R W X)(k:CallKind):fX P R (Frame.enter P K W k) (Frame.enter (P.ki R.fs) K X k):=by
 obtain⟨n,c,f,g,i⟩:=a.code K b d;obtain⟨j,o,l,_,_,m⟩:=a.two.fn K b;have e:(P.ki R.fs).funcs[K]? =P.funcs[K]? :=by rw[m d];exact l
 refine⟨rfl,⟨b,d⟩,?_,?_,.nil,.run,rfl,.inl ⟨rfl,rfl⟩⟩;simp only[Frame.enter];rw[<-h.size,e];exact h.append (iD.replicate _ .undef);simp only[Frame.enter];rw[e];simp only[f,tv,g,lT];exact .cons (.code (by rw[a.ok];exact i)) .nil
def floor:Frame:={(default:Frame)with fn:=0,tmps:=#[],todo:=[.code (.refuse "floor")],defers:=[{target:=.nil,args:=#[]}],mode:=.run,kind:=.normal}
inductive Il (P:eE) (ρ:fj):Frame->Frame->Prop
 |fr {fr NG:Frame} (h:fX P ρ fr NG):Il P ρ fr NG
 |hole {f:fG} (hS:ρ.S f=true) (hh:ρ.hole f=true) {xs xs':Array eu} (h:iD ρ xs xs'):Il P ρ (Frame.enter P f xs .normal) (Frame.enter (P.ki ρ.fs) f xs' .normal)
def uJ(d:Good P R)(c:R.S K=true)(h:iD R W X)(k:CallKind)(b:k=.normal\/R.hole K=false):Il P R (Frame.enter P K W k) (Frame.enter (P.ki R.fs) K X k):=by
 cases a:R.hole K with
 |true=>
  obtain rfl|b:=b;exact .hole c a h;rw[b]at a;cases a
 |false=>exact .fr (QH d c a h k)
structure sW(P:eE)(ρ:fj)(cs:List Frame)(g g':eA):Prop where
 fr:Il P ρ g.frame g'.frame
 callers:∃X X',g.callers=X++[floor]/\g'.callers=X'++cs/\jZ P ρ X X'
 st:g.status=.running/\g'.status=.running
 dy:g.dying=none/\g'.dying=none
 of:g.offers=none/\g'.offers=none
def z9(g:eA):Prop:=g.status=.running/\g.dying=none/\g.offers=none/\g.callers=[]/\(g.frame=floor\/∃c,g.frame=floor.raise c)
def fK(P:eE)(f:fj)(v u:er)(g:List Frame)(s h:GStep):Prop:=
 match s with
 | .go d i _=>z9 d\/∃a b e c,h=.go b e c/\DJ f a v u i e c/\sW P a g d b
 | .ended _ _ _=>True
 |_=>False
def mQ{b:Array Event}{e:Event}(h:e∈seen P K b):e∈b:=by
 unfold seen at h;dsimp only at h;rw[<-Nt]at h
 have c:∀(l:List Event) (x:Bool×Array Event),e∈(l.foldl (λ(x:Bool×Array Event) e=>match e.loc with| .mark (.extern f)=>((P.funcs[f]?).any (·.norace),x.2)|_=>(x.1,if(x.1&&!e.sync)=true then x.2 else x.2.push e)) x).2->e∈x.2\/e∈l:=by
  intro l;induction l with
  |nil=>exactλx h=>.inl h
  |cons a l d=>
   intro x h;simp only[nD]at h;obtain h|h:=d _ h;split at h;exact .inl h;simp only at h;split at h;exact .inl h;obtain h|h:=Array.mem_push.1 h;exact .inl h;exact .inr (by simp[h]);exact .inr (by simp[h])
 obtain h|h:=c b.toList (_,#[]) h;simp at h;simpa using h
def im.sub{a:fj}{d:er}{f b:Array Event}(m:im R a w t e d f)(h:∀c∈b,c∈f):im R a w t e d b:=
 ⟨m.le,m.rel,m.vsize,m.usize,m.fresh,m.same,m.ww,m.warm,m.rows,m.tape,m.os,m.output,m.vtape,λc g=>m.evs c (h c g)⟩
end
section
variable{P:eE}{ρ:fj}{v u:er}{cs:List Frame}
theorem jZ.length{X a:List Frame}(h:jZ P ρ X a):X.length=a.length:=by
 induction h with
 |nil=>rfl
 |cons _ _ b=>simp[b]
def fK.still(w:WR ρ v u){a:eA}(h:sW P ρ cs Z a){b:Array Event}:fK P ρ v u cs (.go Z v b) (.go a u):=
 .inr ⟨ρ,a,u,#[],rfl,(im.refl w).hr,h⟩
def fK.Aa{b:er}(w:WR ρ {b with drawn:=d} u){a:eA}(h:sW P ρ cs Z a){es:Array Event}:fK P ρ {b with drawn:=d} u cs (.go Z b es) (.go a u):=
 .inr ⟨ρ,a,u,#[],rfl,⟨d,im.refl w⟩,h⟩
def fK.UN{t y:Type}{A:fj->t->y->Prop}{s:Sem t}{n:Sem y}(w:WR ρ v u)(h:SX P A ρ s n):(∃m e j,s.runT P v #[]=(.halt m e,j)/\m.dead=true)\/(∃a b e g c j f d,s.runT P v #[]=(.ok a e,j)/\n.runT (P.ki ρ.fs) u #[]=(.ok b g,f)/\A c a b/\im ρ c v u {e with drawn:=d} g f)\/
 (∃a b e g c j f,s.runT P v #[]=(.halt (.panic a) e,j)/\n.runT (P.ki ρ.fs) u #[]=(.halt (.panic b) g,f)/\(VR c a b/\vp c a)/\im ρ c v u e g f):=by
 have k:=h.run w #[] #[];unfold Fo at k;generalize s.runT P v #[]=r at k⊢;obtain⟨r,l⟩:=r;cases r with
 |ok a e=>
  obtain⟨b,g,c,i,o,p,d,q⟩:=k;exact .inr (.inl ⟨a,b,e,g,c,l,i,d,rfl,by simpa using o,p,q⟩)
 |halt m e=>
  cases m with
  |panic x=>
   obtain⟨b,g,c,i,o,p,q⟩:=k;exact .inr (.inr ⟨x,b,e,g,c,l,i,rfl,by simpa using o,p,q⟩)
  |_=>exact .inl ⟨_,_,_,rfl,k⟩
theorem fK.run{q t:Type}{A:fj->q->t->Prop}{s:Sem q}{m:Sem t}(w:WR ρ v u)(h:SR P A ρ s m):(∃l d i,s.runT P v #[]=(.halt l d,i)/\l.dead=true)\/(∃a b d f c i e,s.runT P v #[]=(.ok a d,i)/\m.runT (P.ki ρ.fs) u #[]=(.ok b f,e)/\A c a b/\im ρ c v u d f e)\/(∃a b d f c i e,s.runT P v #[]=(.halt (.panic a) d,i)/\m.runT (P.ki ρ.fs) u #[]=(.halt (.panic b) f,e)/\(VR c a b/\vp c a)/\im ρ c v u d f e):=by
 have j:=h.run w #[] #[];unfold mP at j;generalize s.runT P v #[]=r at j⊢;obtain⟨r,k⟩:=r;cases r with
 |ok a d=>
  obtain⟨b,f,c,g,n,o,p⟩:=j;exact .inr (.inl ⟨a,b,d,f,c,k,g,rfl,by simpa using n,o,p⟩)
 |halt l d=>
  cases l with
  |panic x=>
   obtain⟨b,f,c,g,n,o,p⟩:=j;exact .inr (.inr ⟨x,b,d,f,c,k,g,rfl,by simpa using n,o,p⟩)
  |_=>exact .inl ⟨_,_,_,rfl,j⟩
theorem fK.after{b:fj}{l n:er}{s p:GStep}{g a c:Array Event}(w:WR ρ v u)(m:im ρ b v u l n c)(f:∀e∈a,e∈c)(q:fK P b l n cs s p):fK P ρ v u cs (GStep.after g s) (GStep.after a p):=by
 cases s with
 |go z A r=>
  obtain t|⟨h,i,x,j,rfl,k,y⟩:=q;exact .inl t;obtain⟨d,k⟩:=k;exact .inr ⟨h,i,x,a++j,rfl,⟨d,(m.sub f).trans w k⟩,y⟩
 |ended o B r=>trivial
 |_=>exact q.elim
def mu.kind{k a:List Item}(h:mu P ρ K k a):(match k with| .call _ true _ _::_=>CallKind.wrapped|_=>.normal)=.normal/\(match a with| .call _ true _ _::_=>CallKind.wrapped|_=>.normal)=.normal:=by
 cases h with
 |nil=>exact⟨rfl,rfl⟩
 |cons h _=>cases h<;>exact⟨rfl,rfl⟩
def sW.mk'{b a:Frame}{X X':List Frame}(h:fX P ρ b a)(c:jZ P ρ X X'):sW P ρ cs {frame:=b,callers:=X++[floor],status:=.running,dying:=none} {frame:=a,callers:=X'++cs,status:=.running,dying:=none}:=
 ⟨.fr h,⟨X,X',rfl,rfl,c⟩,⟨rfl,rfl⟩,⟨rfl,rfl⟩,⟨rfl,rfl⟩⟩
def sW.top{b a:Frame}{X X':List Frame}(h:Il P ρ b a)(c:jZ P ρ X X'):sW P ρ cs {frame:=b,callers:=X++[floor],status:=.running,dying:=none} {frame:=a,callers:=X'++cs,status:=.running,dying:=none}:=
 ⟨h,⟨X,X',rfl,rfl,c⟩,⟨rfl,rfl⟩,⟨rfl,rfl⟩,⟨rfl,rfl⟩⟩
def JX{a b:Code}(d:ρ.r m k)(e:ρ.S K=true)(f:ρ.hole K=false)(g:ρ.df K=false)(i:ρ.ok K a=true)(j:ρ.ok K b=true)(h:iD ρ W X)(c:CallKind):fX P ρ (Frame.round m K W a b c) (Frame.round k K X a b c):=
 ⟨rfl,⟨e,f⟩,h,.cons (.code i) (.cons .beginRound (.cons (.code j) .nil)),.nil,.run,rfl,.inr ⟨m,k,rfl,rfl,d,g⟩⟩
def DL(H:Good P ρ)(w:WR ρ v u){t g:Frame}{X X':List Frame}(h:fX P ρ t g)(E:jZ P ρ X X'){s F:Sem Next}(I:SX P tB ρ s F):fK P ρ v u cs (stepG.apply P true t (X++[floor]) none s v) (stepG.apply (P.ki ρ.fs) true g (X'++cs) none F u):=by
 have j:∀(r:Array Event),∀e∈seen (P.ki ρ.fs) g.fn (if(g.kind==CallKind.early)=true then #[]else r),e∈r:=by intro r e J;have:=mQ J;split at this;simp at this;exact this
 unfold stepG.apply;obtain⟨y,G,es,e,p⟩|⟨a,b,G,K,z,es,i,d,e,A,n,m⟩|⟨a,b,G,K,z,es,i,e,A,n,m⟩:=fK.UN w I;simp only[fF,e];cases y with
 |stuck s=>trivial
 |unsupported L=>cases L<;>first|trivial|cases p
 |_=>cases p
 simp only[fF,e,A];have B:=H.mono m.le;have q:=h.mono m.le;have l:=E.mono m.le;cases n with
 |value M=>exact fK.after w m (j i) (fK.Aa m.rel (sW.mk' (q.finish M) l))
 |skip=>exact fK.after w m (j i) (fK.Aa m.rel (sW.mk' (q.finish .undef) l))
 |enter N C=>
  refine fK.after w m (j i) ?_;have x:=fK.Aa (es:=#[]) m.rel (sW.top (cs:=cs) (X:=t::X) (X':=g::X') (m.le.f▸uJ B N C .normal (.inl rfl)) (.cons q l));have o:=h.todo;generalize t.todo=k at o⊢;generalize g.todo=U at o⊢;cases o with
  |nil=>exact x
  |cons O _=>cases O<;>exact x
 |round Q R y p S T C=>
  exact fK.after w m (j i) (fK.Aa m.rel (sW.mk' (X:=t::X) (X':=g::X') (JX Q R y p S T C .normal) (.cons q l)))
 |defer p D=>
  exact fK.after w m (j i) (fK.Aa m.rel (sW.mk' ((q.pD (.cons p (.inl D) q.defers)).finish .undef) l))
 simp only[fF,e,A];exact fK.after w m (j i) (fK.still m.rel (sW.mk' ((h.mono m.le).raise (c:=[{v:=a,recovered:=false}]) (c':=[{v:=b,recovered:=false}]) (.cons ⟨n.1,rfl,rfl,n.2⟩ .nil)) (E.mono m.le)))
def Ab(w:WR ρ v u){q j:Frame}{X r:List Frame}(h:fX P ρ q j)(g:jZ P ρ X r)(C:VR ρ x y)(k i:Bool):fK P ρ v u cs (doReturn P k q (X++[floor]) none x v) (doReturn (P.ki ρ.fs) i j (r++cs) none y u):=by
 have F:=h.kind;cases g with
 |nil=>
  simp only[sQ,doReturn];cases s:q.kind;all_goals simp only[]
  all_goals exact .inl ⟨rfl,rfl,rfl,rfl,.inl rfl⟩
 | @cons c n X r e g=>
  simp only[qp,doReturn];rw[<-F];have f:fX P ρ (match c.mode with
     | .panicking ({recovered:=true,..}::d)=>
      match d.dropWhile (!·.goexit)with
      |[]=>{c with mode:=.returning}
      |rest=>{c with mode:=.panicking rest}
     |_=>c)
   (match n.mode with
     | .panicking ({recovered:=true,..}::d)=>
      match d.dropWhile (!·.goexit)with
      |[]=>{n with mode:=.returning}
      |rest=>{n with mode:=.panicking rest}
     |_=>n):=by
   have z:=e.mode
   have A:∀{l o:List PanicEntry},nG ρ l o->nG ρ (l.dropWhile (!·.goexit)) (o.dropWhile (!·.goexit)):=by
    intro l o h;induction h with
    |nil=>exact .nil
    |cons h t G=>
     simp only[List.dropWhile_cons,<-h.ge];split;exact G;exact .cons h t
   revert z;generalize H:c.mode=R;generalize D:n.mode=I;intro z;cases z with
   |run=>exact e
   |returning=>exact e
   |panicking B=>
    cases B with
    |nil=>exact e
    | @cons p J l o K L=>
     obtain⟨S,M,T⟩:=p;obtain⟨N,O,Q⟩:=J;obtain⟨_,E,_⟩:=K;simp only at E;subst E;cases M with
     |false=>exact e
     |true=>
      dsimp only;have:=A L;revert this;generalize l.dropWhile (!·.goexit)=m;generalize o.dropWhile (!·.goexit)=U;intro this;cases this with
      |nil=>exact e.Fw .returning
      |cons a b=>exact e.Fw (.panicking (.cons a b))
  cases s:q.kind
  all_goals simp only[]
  exact fK.still w (sW.mk' (e.finish C) g);exact fK.still w (sW.mk' f g);exact fK.still w (sW.mk' (e.finish C) g);exact fK.still w (sW.mk' f g);exact fK.still w (sW.mk' e g)
def fK.ite{c:Prop} [Decidable c]{a b d:GStep}(e:c->fK P ρ v u cs a d)(f:¬c->fK P ρ v u cs b d):fK P ρ v u cs (if c then a else b) d:=by split;exact e ‹_›;exact f ‹_›
def pE(x:Good P ρ)(w:WR ρ v u){o i:Frame}{X X':List Frame}(h:fX P ρ o i)(D:jZ P ρ X X'){d E:Deferred}(n:vh ρ d E)(p:ρ.Def):fK P ρ v u cs (callDeferred P o (X++[floor]) none d v) (callDeferred (P.ki ρ.fs) i (X'++cs) none E u):=by
 have j:∀(r:Array Event),∀e∈seen (P.ki ρ.fs) i.fn r,e∈r:=λr e H=>mQ H;unfold callDeferred;refine fK.ite (λ_=>trivial) λI=>?_;rw[ez (by intro J;apply I;revert J;have y:=h.mode;revert y;generalize o.mode=m;generalize i.mode=S;intro y;cases n<;>cases y<;>simp)];obtain⟨z,F,G,e,n⟩|⟨a,b,F,K,A,G,g,e,B,l,m⟩|⟨a,b,F,K,A,G,g,e,B,l,m⟩:=fK.run w (SR.invoke x.fit x.two n);simp only[e];cases z with
 |stuck s=>trivial
 |unsupported L=>cases L<;>first|trivial|cases n
 |_=>cases n
 simp only[e,B];have q:=x.mono m.le;have t:=h.mono m.le;have k:=D.mono m.le;cases l with
 |value T=>exact fK.after w m (j g) (fK.still m.rel (sW.mk' t k))
 |skip=>exact fK.after w m (j g) (fK.still m.rel (sW.mk' t k))
 |enter M C=>exact fK.after w m (j g) (fK.still m.rel (sW.top (X:=o::X) (X':=i::X') (m.le.f▸uJ q M C .deferred (.inr (q.dh (p.mono m.le) _))) (.cons t k)))
 |round N O z n Q R C=>exact fK.after w m (j g) (fK.still m.rel (sW.mk' (X:=o::X) (X':=i::X') (JX N O z n Q R C .deferred) (.cons t k)))
 |defer n _=>exact fK.after w m (j g) (fK.still m.rel (sW.mk' t k))
 simp only[e,B];exact fK.after w m (j g) (fK.still m.rel (sW.mk' ((h.mono m.le).raise (c:=[{v:=a,recovered:=false}]) (c':=[{v:=b,recovered:=false}]) (.cons ⟨l.1,rfl,rfl,l.2⟩ .nil)) (D.mono m.le)))
theorem SR.results{fn:Func}(h:iD ρ W X):SV P ρ (results fn W) (results fn X):=by
 unfold Go.results
 have r:∀(l:List ResultVar) {g:fj},fj.Le ρ g->SR P (λρ a b=>sU ρ a b) g
  (l.mapM λx=>match x with| .tmp t=>Pure.pure (W.getD t jg)| .cell a t=>do Go.loadVar t (<-Go.asAddr (W.getD a jg)))
  (l.mapM λx=>match x with| .tmp t=>Pure.pure (X.getD t jg)| .cell a t=>do Go.loadVar t (<-Go.asAddr (X.getD a jg))):=by
  intro l;induction l with
  |nil=>intro g j;rw[List.mapM_nil,List.mapM_nil];exact .gA .nil
  |cons x l s=>
   intro g j;rw[List.mapM_cons,List.mapM_cons]
   have u:SV P g (match x with| .tmp t=>Pure.pure (W.getD t jg)| .cell a t=>do Go.loadVar t (<-Go.asAddr (W.getD a jg))) (match x with| .tmp t=>Pure.pure (X.getD t jg)| .cell a t=>do Go.loadVar t (<-Go.asAddr (X.getD a jg))):=by
    cases x with
    |tmp t=>exact .gA ((h.mono j).getD .undef t)
    |cell a t=>exact(SR.asAddr ((h.mono j).getD .undef a)).fM λ_ _ _ _ v=>SR.loadVar t v
   exact SR.fM u λi a b k e=>SR.fM (s (j.trans k)) λp c d m q=>.gA (.cons (e.mono m) q)
 rw[JR,JR];refine SR.fM (A:=λρ a b=>iD ρ a b) (SR.fM (f:=λl=>Pure.pure l.toArray) (f':=λl=>Pure.pure l.toArray) (r fn.results.toList (.refl _)) λi a b _ e=>.gA e.array) λi a b _ e=>.gA ?_;by_cases o:a.size=1;have n:b.size=1:=e.size▸o;rw[dif_pos o,dif_pos n];exact e.at_ 0 _ _ (lA (by omega)) (lA (by omega));have n:¬b.size=1:=e.size▸o;rw[dif_neg o,dif_neg n];exact e.Wx
def NH(s:Good P ρ)(w:WR ρ v u){fr g:Frame}{X M:List Frame}(h:fX P ρ fr g)(o:jZ P ρ X M)(p i:Bool):fK P ρ v u cs (unwind P p fr (X++[floor]) none v) (unwind (P.ki ρ.fs) i g (M++cs) none u):=by
 have E:∀(r:Array Event),∀e∈seen (P.ki ρ.fs) g.fn r,e∈r:=λr e F=>mQ F;unfold unwind;have t:=h.defers;revert t;generalize fr.defers=R;generalize g.defers=G;intro t;cases t with
 |nil=>
  dsimp only;have H:=h.mode;have z:=h.fn;revert H;generalize S:fr.mode=m;generalize N:g.mode=Z;intro H;cases H with
  |run=>trivial
  |panicking T=>
   dsimp only;have q:∀{fr:Frame} {Q:eE},(∃fn,Q.funcs[fr.fn]? =some fn)->fr.catches Q=false:=by rintro fr Q ⟨fn,j⟩;unfold Frame.catches;rw[j]
   obtain⟨fn,c,j,_,_⟩:=s.fit.fn _ h.fnS.1;obtain⟨x,U,I,_,_,_⟩:=s.two.fn _ h.fnS.1;rw[q ⟨fn,j⟩,q (fr:=g) (Q:=P.ki ρ.fs) ⟨x,z▸I⟩];simp only[jE,gy];cases o with
   |nil=>exact .inl ⟨rfl,rfl,rfl,rfl,.inr ⟨_,rfl⟩⟩
   |cons J o=>exact fK.still w (sW.mk' (J.raise T) o)
  |returning=>
   dsimp only;obtain⟨fn,c,j,_,_⟩:=s.fit.fn _ h.fnS.1;obtain⟨x,U,I,_,_,V⟩:=s.two.fn _ h.fnS.1;obtain rfl:fn=x:=by rw[V h.fnS.2]at j;exact(eP j).symm
   rw[<-z,j,show(P.ki ρ.fs).funcs[fr.fn]? =some fn from I];dsimp only;obtain⟨O,A,B,e,t⟩|⟨a,b,A,K,y,B,l,e,C,k,m⟩|⟨a,b,A,K,y,B,l,e,C,k,m⟩:=fK.run w (SR.results (fn:=fn) h.tmps);rw[e];cases O<;>trivial;rw[e,C];rw[m.le.f];exact fK.after w m (λe F=>mQ F) (Ab m.rel (h.mono m.le) (o.mono m.le) k p i);rw[e];trivial
 | @cons d d' R G t L n=>
  cases t with
  |collected W=>
   dsimp only;obtain⟨O,A,B,e,t⟩|⟨a,b,A,K,y,B,l,e,C,k,m⟩|⟨a,b,A,K,y,B,l,e,C,k,m⟩:=fK.run w (SR.takeDeferred W);rw[e];trivial;rw[e,C];obtain⟨rfl,rfl⟩:=k;exact fK.after w m (E l) (fK.still m.rel (sW.mk' ((h.mono m.le).pD (n.mono m.le)) (o.mono m.le)));rw[e];trivial
  |fn Y j D=>exact pE s w (h.pD n) o (.fn Y j D) (L.resolve_right λ⟨_,h⟩=>by cases h)
  |yield j D=>exact pE s w (h.pD n) o (.yield j D) (L.resolve_right λ⟨_,h⟩=>by cases h)
  |nil D=>exact pE s w (h.pD n) o (.nil D) (L.resolve_right λ⟨_,h⟩=>by cases h)
def Lu{a:Array Oper}(h:iD ρ W X)(j:Nat):yielded a W j=yielded a X j:=by
 unfold yielded;cases(a[j]?).bind (·.dst)with
 |none=>rfl
 |some d=>
  simp only[tv];obtain⟨b,c⟩|⟨v,f,b,c,e⟩:=h.get? d;rw[b,c];rw[b,c];cases e<;>rfl
def QI(D:Good P ρ)(w:WR ρ v u){k d:Frame}{X r:List Frame}(h:fX P ρ k d)(B:jZ P ρ X r)(i g:Bool)(j:Option Code){lost lost':GStep}(E:∃o n p,lost=.ended o n p):(∀c,j=some c->∀f,ρ.ok f c=true)->fK P ρ v u cs (match k.roundOf with
    |none=>if(match j with|none|some .ret=>true|_=>false)=true then .go {frame:={k with mode:=.returning},callers:=X++[floor],status:=.running,dying:=none} v else lost
    |some l=>GStep.after (seen P k.fn ((Instr.endRound l j).runT P v #[]).2)<|match((Instr.endRound l j).runT P v #[]).1 with
     | .ok x w=>doReturn P i k (X++[floor]) none x w
     | .halt _ w=>.ended (.stuck "range over a function: no such loop" (k.pos P)) w)
  (match d.roundOf with
    |none=>if(match j with|none|some .ret=>true|_=>false)=true then .go {frame:={d with mode:=.returning},callers:=r++cs,status:=.running,dying:=none} u else lost'
    |some l=>GStep.after (seen (P.ki ρ.fs) d.fn ((Instr.endRound l j).runT (P.ki ρ.fs) u #[]).2)<|match((Instr.endRound l j).runT (P.ki ρ.fs) u #[]).1 with
     | .ok x w=>doReturn (P.ki ρ.fs) g d (r++cs) none x w
     | .halt _ w=>.ended (.stuck "range over a function: no such loop" (d.pos (P.ki ρ.fs))) w):=by
 have _:=D;intro F;obtain⟨s,t⟩|⟨l,K,s,t,G,_⟩:=h.round;rw[s,t];dsimp only;have y:fX P ρ {k with mode:=.returning,roundOf:=none} {d with mode:=.returning,roundOf:=none}:=⟨h.fn,h.fnS,h.tmps,h.todo,h.defers,.returning,h.kind,.inl ⟨rfl,rfl⟩⟩;refine fK.ite (λH=>?_) λ_=>?_;rw[eC H];exact fK.still w (sW.mk' y B);obtain⟨o,n,p,rfl⟩:=E;trivial;rw[s,t];dsimp only;obtain⟨L,n,p,e,M⟩|⟨a,b,n,I,z,p,A,e,C,q,m⟩|⟨a,b,n,I,z,p,A,e,C,q,m⟩:=fK.run w (SR.endRound G j F);rw[e];trivial;rw[e,C,m.le.f];exact fK.after w m (λe J=>mQ J) (Ab m.rel (h.mono m.le) (B.mono m.le) q i g);rw[e];trivial
end
section
variable{P:eE}{ρ:fj}{v u:er}{cs:List Frame}
def iS(a:Good P ρ){c:Code}(h:jI P ρ.S ρ.dim (ρ.df K) c=true):ρ.ok K c=true:=by rw[a.ok];exact h
def uK(a:Good P ρ){c:Code}(h:(match c with| .ret| .exit _| .goto _=>true|_=>false)=true)(f:fG):ρ.ok f c=true:=by rw[a.ok];cases c<;>first|rfl|cases h
def TE(q:Good P ρ)(w:WR ρ v u){z p:Frame}{X X':List Frame}(h:fX P ρ z p)(M:jZ P ρ X X')(F K:Bool):fK P ρ v u cs (stepG.exec P F true z (X++[floor]) none v) (stepG.exec (P.ki ρ.fs) K true p (X'++cs) none u):=by
 have aa:=h.fn;have I:∀{k k':List Item},mu P ρ z.fn k k'->fK P ρ v u cs (.go {frame:={z with todo:=k},callers:=X++[floor],status:=.running,dying:=none} v) (.go {frame:={p with todo:=k'},callers:=X'++cs,status:=.running,dying:=none} u):=
  λC=>fK.still w (sW.mk' (h.z8 C) M)
 have Z:=λ(j:Option Code)=>QI (cs:=cs) (lost:=.ended (.stuck "exit, goto: no such block or label" (z.pos P)) v) (lost':=.ended (.stuck "exit, goto: no such block or label" (p.pos (P.ki ρ.fs))) u) q w h M F K j ⟨_,_,_,rfl⟩;have ah:=q.ok;have G:=h.todo;unfold stepG.exec;revert G Z;generalize ai:z.todo=k0;generalize ab:p.todo=ao;intro Z G;cases G with
 |nil=>exact Z none (λc e=>by cases e)
 | @cons x x' k k' hx C=>
  cases hx with
  | @code c L=>
   have g:=L;rw[ah]at g;dsimp only at g;cases c with
   |ret=>exact Z (some .ret) (λc e=>by cases e;exact uK q rfl)
   |skip=>exact I C
   |label l=>exact I C
   |seq a b=>
    simp only[jI,fE]at g;exact I (.cons (.code (iS q g.1)) (.cons (.code (iS q g.2)) C))
   |cond c a b=>
    simp only[jI,fE]at g;dsimp only;have Q:=h.eval c g.1.1;revert Q;generalize z.eval c=x;generalize p.eval c=x';intro Q;cases Q with
    |bool t=>
     refine I (.cons (.code ?_) C);split;exact iS q g.1.2;exact iS q g.2
    |_=>trivial
   |block id b=>
    exact I (.cons (.code (iS q g)) (.cons (.inBlock id) C))
   |loop b=>
    exact I (.cons (.code (iS q g)) (.cons (.inLoop (iS q g)) C))
   |scope b=>
    exact I (.cons (.code (iS q g)) (.cons (.inScope (iS q g)) C))
   |exit id=>
    dsimp only;obtain⟨D,E⟩|⟨j,j',D,E,hj⟩:=C.exitTo id;rw[D,E];exact Z (some (.exit id)) (λc e=>by cases e;exact uK q rfl);rw[D,E];exact I hj
   |goto l=>
    dsimp only;obtain⟨D,E⟩|⟨j,j',D,E,hj⟩:=C.gotoIn q l;rw[D,E];exact Z (some (.goto l)) (λc e=>by cases e;exact uK q rfl);rw[D,E];exact I hj
   |refuse ap=>trivial
   |rangeFunc f ps a b=>
    simp only[jI,fE]at g;simp only[tl]at g;dsimp only;rw[show(Instr.enterLoop p.fn p.tmps ps a b p.roundOf)=(Instr.enterLoop z.fn p.tmps ps a b p.roundOf)from by rw[aa]];obtain⟨hh,R,es,e,hd⟩|⟨x,y,R,u1,A,es,T,e,e',H,m⟩|⟨x,y,R,u1,A,es,T,e,e',H,m⟩:=fK.run w (SR.enterLoop h.fnS.1 h.fnS.2 h.tmps ps a b (iS q g.1.2) (iS q g.2) g.1.1.1 (h.round.imp (λh=>h) λ⟨l,l',a,b,c,_⟩=>⟨l,l',a,b,c⟩));rw[e];trivial;rw[e,e'];obtain⟨l,mk⟩:=x;obtain⟨l',ac⟩:=y;obtain⟨hl,ad⟩:=H;simp only at hl ad;have U:=q.mono m.le;have N:=h.mono m.le;have ae:wG A mk ac:=by obtain⟨rfl,rfl⟩|⟨d,d',rfl,rfl,hd,hb⟩:=ad;exact .nil;exact .cons hd (.inr hb) .nil
    have af:fX P A {z with todo:=.inRangeFunc l::k,defers:=mk++z.defers} {p with todo:=.inRangeFunc l'::k',defers:=ac++p.defers}:=
     ⟨N.fn,N.fnS,N.tmps,.cons (.inRangeFunc hl) (C.mono m.le),ae.append N.defers,N.mode,N.kind,N.round⟩
    refine fK.after w m (λe V=>mQ V) ?_;dsimp only;rw[m.le.f];refine DL U m.rel af (M.mono m.le) (.of ?_);unfold resolve;dsimp only;refine SR.fM (SR.ofValue (af.eval f (m.le.s▸g.1.1.2)) (xs:=_) (xs':=_) ?_) λaj d d' ag hd=>SR.invoke ((U.mono ag).fit) ((U.mono ag).two) hd;simp only[List.map_toArray,lK,rf,Frame.eval];exact iD.one (.yield hl);rw[e];trivial
   |region id B draw=>
    simp only[jI,xE]at g;have J:∀(i:Nat) o,B[i]? =some o->qJ P ρ.S ρ.dim (ρ.df z.fn) o=true:=λi o e=>g o (oQ e);dsimp only;cases draw with
    |false=>exact I (.cons (.inRegion _ J) C)
    |true=>
     simp only[Bool.not_true,jE,gy];rw[show Go.choose (.order p.fn id)=Go.choose (.order z.fn id)from by rw[aa]];have ak:SR P (λ_ (a b:Nat)=>a=b) ρ (Go.choose (.order z.fn id)) (Go.choose (.order z.fn id)):=.choose λn=>.pure rfl;have O:=ak.run w #[] #[];unfold mP at O;rw[ml,ml]at O;simp only at O;revert O;generalize (Go.choose (.order z.fn id)).run P v=r;intro O;cases r with
     |ok t R=>
      obtain⟨b,u1,A,aq,D,rfl,m⟩:=O;have E:(Go.choose (.order z.fn id)).run (P.ki ρ.fs) u=.ok t u1:=eX Prod.fst D;rw[E];have N:=h.mono m.le;refine .inr ⟨A,_,u1,#[],rfl,(m.sub (λe V=>by simp at V)).hr,?_⟩;refine sW.mk' (N.z8 ?_) (M.mono m.le);have W:∀(i:Nat) o,B[i]? =some o->qJ P A.S A.dim (A.df z.fn) o=true:=by rw[<-m.le.s,<-m.le.d,<-m.le.w];exact J
      exact .cons (.inRegion _ W) (C.mono m.le)
     |halt hh R=>trivial
  |inBlock id=>exact I C
  |inScope L=>exact I C
  |inLoop L=>exact I (.cons (.code L) (.cons (.inLoop L) C))
  |inRangeFunc hl=>trivial
  |beginRound=>
   dsimp only;refine DL q w h M (.of ?_);obtain⟨D,E⟩|⟨l,l',D,E,O,_⟩:=h.round;rw[D,E];exact .dead rfl;rw[D,E];exact SR.fM (SR.beginRound O) λ_ _ _ _ _=>.gA .skip
  |endRangeFunc hl=>
   dsimp only;obtain⟨hh,R,es,e,hd⟩|⟨x,y,R,u1,A,es,T,e,e',H,m⟩|⟨x,y,R,u1,A,es,T,e,e',H,m⟩:=fK.run w (SR.endLoop hl)
   ·rw[e];cases hh<;>first|trivial|(cases hd;done)
   rw[e,e'];obtain⟨rfl,hj⟩:=H;refine fK.after w m (λe V=>mQ V) (fK.still m.rel (sW.mk' ((h.mono m.le).z8 ?_) (M.mono m.le)));cases x with
   |none=>exact C.mono m.le
   |some c=>exact .cons (.code (hj c rfl _)) (C.mono m.le)
   rw[e,e'];exact fK.after w m (λe V=>mQ V) (fK.still m.rel (sW.mk' ((h.mono m.le).raise (c:=[{v:=x,recovered:=false}]) (c':=[{v:=y,recovered:=false}]) (.cons ⟨H.1,rfl,rfl,H.2⟩ .nil)) (M.mono m.le)))
  | @inRegion B td J=>
   cases td with
   |nil=>exact I C
   |cons i an=>
    dsimp only;have hy:((B[i]?).map (Region.wanted · (yielded B z.tmps))).getD false=((B[i]?).map (Region.wanted · (yielded B p.tmps))).getD false:=by have:yielded B z.tmps=yielded B p.tmps:=funext (Lu h.tmps);rw[this]
    rw[<-hy];refine fK.ite (λL=>?_) λL=>?_;rw[eC L];cases ho:B[i]? with
    |none=>rw[ho]at L;cases L
    |some o=>
     unfold stepG.oper;have D:z.oper?=some o:=by simp only[Frame.oper?,ai];exact ho
     have E:p.oper?=some o:=by simp only[Frame.oper?,ab];exact ho
     rw[D,E];dsimp only;have Y:=J i o ho;have hs:SX P tB ρ (execOp z.eval o) (execOp p.eval o):=SX.exec q.fit q.two (λx hx=>h.eval x hx) (λe=>⟨_,e⟩) (λ_=>⟨rfl,rfl⟩) o Y;have F:=DL (cs:=cs) q w h M hs;obtain⟨D,E⟩|⟨l,l',D,E,O,al⟩:=h.round;rw[D,E];exact F;rw[D,E];cases am:o.op<;>first|exact F|skip
     rename_i c;simp only[qJ,fE,am,Fp]at Y;exfalso;have:=Y.2;rw[al]at this;revert this;split<;>(intro h;cases h)
    rw[ez L];exact fK.still w (sW.mk' (h.finish .undef) M)
end
section
variable{P:eE}{ρ:fj}{v u:er}{cs:List Frame}
def Im(p:Good P ρ)(w:WR ρ v u){g:eA}(h:sW P ρ cs Z g)(i:fX P ρ Z.frame g.frame)(d c:Bool):fK P ρ v u cs (stepG P d Z v) (stepG (P.ki ρ.fs) c g u):=by
 obtain⟨l,G,H,I,j⟩:=Z;obtain⟨e,D,E,F,f⟩:=g;obtain⟨_,⟨X,q,r,s,t⟩,⟨x,y⟩,⟨z,A⟩,B,C⟩:=h;simp only at r s x y z A B C i;subst r s x y z A B C;have n:=TE (cs:=cs) p w i t d c;have k:=NH (cs:=cs) p w i t d c;have o:=i.mode;unfold stepG;dsimp only;revert n k;generalize stepG.exec P d true l (X++[floor]) none v=a;generalize stepG.exec (P.ki ρ.fs) c true e (q++cs) none u=J;generalize unwind P d l (X++[floor]) none v=b;generalize unwind (P.ki ρ.fs) c e (q++cs) none u=K;intro n k;revert o;generalize l.mode=m;generalize e.mode=L;intro o;cases o with
 |run=>exact n
 |returning=>exact k
 |panicking _=>exact k
theorem z9.ended{P:eE}(h:z9 Z)(a:Bool)(w:er):∃o j k,stepG P a Z w=.ended o j k:=by obtain⟨l,m,n,p,b⟩:=Z;obtain⟨d,e,f,g,i⟩:=h;simp only at f d e g i;subst f d e g;obtain rfl|⟨c,rfl⟩:=i;exact⟨_,_,_,rfl⟩;exact⟨_,_,_,rfl⟩
end
abbrev Ta:=Nat->Question->Nat
def eU(v:er)(T:Ta):er:={v with tape:=T}
def Io{a:Type}:Result a->er
 | .ok _ w=>w
 | .halt _ w=>w
def NI{b:Type}(T:Ta):Result b->Result b
 | .ok a w=>.ok a (eU w T)
 | .halt h w=>.halt h (eU w T)
def SG{a:Type}:Result a->Prop
 | .ok _ _=>False
 | .halt h _=>h.dead=true
def NJ(v a:er)(T:Ta):Prop:=∀j,v.drawn<=j->j<a.drawn->T j=v.tape j
structure na(v v1:er)(C:Ta->Prop):Prop where
 le:v.drawn<=v1.drawn
 tape:v1.tape=v.tape
 run:∀T,NJ v v1 T->C T
theorem na.trans{v v1 c:er}{C d:Ta->Prop}(h:v.drawn<=v1.drawn)(e:v1.tape=v.tape)(k:na v1 c d)(g:∀T,NJ v v1 T->d T->C T):na v c C:=
 ⟨ff h k.le,k.tape.trans e,λT f=>g T (λj a b=>f j a (fN b k.le)) (k.run T λj a b=>by rw[e];exact f j (ff h a) b)⟩
def SR.Ac{Y Z:Type}{A:fj->Y->Z->Prop}{s:Sem Y}{s':Sem Z}(h:SR P A R s s'):
 ∀{v u:er},WR R v u->∀d,SG (s.runT P v d).1\/na v (Io (s.runT P v d).1) λT=>s.runT P (eU v T) d=(NI T (s.runT P v d).1,(s.runT P v d).2):=by
 induction h with
 | @pure R a b h=>exactλ{v u} f d=>.inr ⟨eF _,rfl,λT _=>rfl⟩
 | @load R a a' k F J _ j=>
  intro v u f d;cases G:v.cell? a with
  |none=>
   cases J with
   | @mk b c o s z=>
    obtain⟨hh,e,l⟩:=wF (P:=P) (a:=⟨b,o,s⟩) (at_:=(Mode.plain==Mode.atomic)) (f.noView z) (f.noPending z);refine .inl ?_;simp only[Sem.runT,G,e];exact l
  |some x=>
   obtain⟨O,aa,S⟩:=f.cell J G;obtain l|i:=j x O S f (d.push ⟨.cell a,false,false⟩);refine .inl ?_;simp only[Sem.runT,G];exact l;refine .inr ?_;have B:∀T,(eU v T).cell? a=some x:=λT=>G;simp only[Sem.runT,G,B];exact i
 | @store R a a' x O k F J S _ j=>
  intro v u f d;by_cases C:(∃g,x=.agg g)\/∃g,x=.tuple g;obtain⟨g,rfl⟩|⟨g,rfl⟩:=C<;>exact .inl rfl;have B:∀(a:Addr) (v:er) (d:Array Event),(Sem.store .plain a x k).runT P v d=(match v.cell? a with
   |some _=>if v.frozen? a then(.halt (.unsupported (.unsafePointer "a write to bytes that a string shares")) v,d)else k.runT P (v.setCell a x) (d.push ⟨.cell a,true,false⟩)
   |none=>match v.farStore P a x false with
    | .ok (w,D)=>k.runT P w (d++D.toArray.map (⟨.cell ·,true,false⟩))
    | .error h=>(.halt h v,d)):=by
   intro a v d;cases x<;>first|rfl|exact absurd (.inl ⟨_,rfl⟩) C|exact absurd (.inr ⟨_,rfl⟩) C
  cases K:v.cell? a with
  |none=>
   cases J with
   | @mk b c o s z=>
    obtain⟨hh,e,l⟩:=vq (P:=P) (a:=⟨b,o,s⟩) (x:=x) (at_:=false) (f.noView z) (f.noPending z);refine .inl ?_;rw[B];simp only[K,e];exact l
  |some y=>
   by_cases hz:v.frozen? a=true;refine .inl ?_;rw[B];simp only[K,hz,fF];exact rfl;have H:v.frozen? a=false:=by simpa using hz
   obtain⟨hu,L⟩:=im.store f J S K H;have M:∀T,(eU v T).cell? a=some y:=λT=>K;have e3:∀T,(eU v T).frozen? a=false:=λT=>H;have e4:∀T,(eU v T).setCell a x=eU (v.setCell a x) T:=λT=>rfl;simp only[B,K,H,M,e3,e4,jE,gy];obtain l|i:=j L.rel (d.push ⟨.cell a,true,false⟩);exact .inl l;exact .inr ⟨i.le,i.tape,i.run⟩
 | @new R o U k F ho _ j=>
  intro v u f d;have L:=im.new f ho;obtain l|i:=j v.mN u.mN f.TA f.TB (f.low _ (eF _)) L.rel d;exact .inl l;exact .inr ⟨i.le,i.tape,i.run⟩
 | @getObj R r Q k F z _ j=>
  intro v u f d;obtain⟨o,U,E,h2,h3⟩:=f.obj r Q z;by_cases i:∃g t n,o=.cells g t n;obtain⟨g,t,n,rfl⟩:=i;refine .inl ?_;simp only[Sem.runT,E];exact rfl;have p:∀g t n,o≠ .cells g t n:=λg t n e=>i ⟨g,t,n,e⟩;have B:∀{N:Type} (k:Obj->Sem N) (w:er) (r:Nat) (o:Obj) (d:Array Event),w.heap[r]? =some o->(∀g t n,o≠ .cells g t n)->(Sem.getObj r k).runT P w d=(k o).runT P w (d.push ⟨.obj r,false,o.isChan⟩):=by intro N k w r o d h I;cases o<;>first|exact absurd rfl (I _ _ _)|simp only[Sem.runT,h]
  have M:∀T,(Sem.getObj r k).runT P (eU v T) d=(k o).runT P (eU v T) (d.push ⟨.obj r,false,o.isChan⟩):=λT=>B k _ r o d E p;simp only[B k v r o d E p,M];exact j o U (h3.plain p) p f _
 | @setObj R r Q x O k F z G V _ j=>
  intro v u f d;obtain⟨o,U,E,h2,h3⟩:=f.obj r Q z;by_cases i:∃g t n,o=.cells g t n;obtain⟨g,t,n,rfl⟩:=i;refine .inl ?_;simp only[Sem.runT,E];exact rfl;have p:∀g t n,o≠ .cells g t n:=λg t n e=>i ⟨g,t,n,e⟩;have B:∀{N:Type} (k:Sem N) (w:er) (r:Nat) (x o:Obj) (d:Array Event),w.heap[r]? =some o->(∀g t n,o≠ .cells g t n)->(Sem.setObj r x k).runT P w d=k.runT P {w with heap:=w.heap.setIfInBounds r x} (d.push ⟨.obj r,true,x.isChan⟩):=by intro N k w r x o d h I;cases o<;>first|exact absurd rfl (I _ _ _)|simp only[Sem.runT,h]
  have M:∀T,(Sem.setObj r x k).runT P (eU v T) d=k.runT P (eU {v with heap:=v.heap.setIfInBounds r x} T) (d.push ⟨.obj r,true,x.isChan⟩):=λT=>B k _ r x o d E p;simp only[B k v r x o d E p,M];have L:=im.setObj f z G E p V;obtain l|i:=j L.rel (d.push ⟨.obj r,true,x.isChan⟩);exact .inl l;exact .inr ⟨i.le,i.tape,i.run⟩
 | @shape R r Q k F z _ _ j ib=>
  intro v u f d;obtain⟨W,_⟩|⟨W,m,y,e,_⟩:=f.shape z;exact j W _ f d;have h:=ib W m y f d;rw[<-e]at h;exact h
 | @choose R q k F _ j=>
  intro v u f d;by_cases hq:q.forced=true;simp only[Sem.runT,hq,fF];exact j 0 f d;have X:q.forced=false:=by simpa using hq
  simp only[Sem.runT,X,jE,gy];obtain l|i:=j (q.cut (v.tape v.drawn q)) f.draw d;exact .inl l;refine .inr (na.trans (v1:={v with drawn:=v.drawn+1}) (nh _) rfl i λT hT h=>?_);rw[show(eU v T).tape=T from rfl,show(eU v T).drawn=v.drawn from rfl,hT v.drawn (eF _) (Nat.lt_succ_self _)];exact h
 |program _ j=>exactλf d=>j f d
 | @noRoom R k F _ j=>exactλ{v u} f d=>j f _
 | @panic R x O h=>exactλ{v u} f d=>.inr ⟨eF _,rfl,λT _=>rfl⟩
 |dead l=>exactλ{v u} f d=>.inl l
 | @never R s s' h=>
  intro v u f d;obtain⟨hh,w',e,l⟩:=h v;refine .inl ?_;rw[ml,e];exact l
theorem SX.Ac{t w:Type}{A:fj->t->w->Prop}{s:Sem t}{x:Sem w}(h:SX P A R s x):
 ∀{v u:er},WR R v u->∀d,SG (s.runT P v d).1\/na v (Io (s.runT P v d).1) λT=>s.runT P (eU v T) d=(NI T (s.runT P v d).1,(s.runT P v d).2):=by
 induction h with
 |of h=>exactλe d=>h.Ac e d
 | @skip R q r z o C a b g D E h=>exactλ{v u} e d=>(SR.choose (P:=P) (A:=A) (k':=λ_=>.setObj z C (.pure b)) λn=>.setObj g (D n) (E n) (.pure h)).Ac e d
 | @bind R J K B s x f L h k F=>
  intro v u e d;have g:=h.run e d #[];have c:=h.Ac e d;rw[Sem.runT_bind'];simp only[Sem.runT_bind'];unfold mP at g;generalize s.runT P v d=r at g c⊢;obtain⟨r,i⟩:=r;cases r with
  |ok a G=>
   obtain⟨b,M,j,H,N,I,m⟩:=g;obtain c|c:=c;exact c.elim;obtain l|l:=F j a b m.le I m.rel i;exact .inl l;refine .inr (na.trans c.le c.tape l λT p y=>?_);rw[c.run T p];exact y
  |halt y G=>
   obtain c|c:=c;exact .inl c;refine .inr ⟨c.le,c.tape,λT p=>?_⟩;rw[c.run T p];rfl
def fH(F:er->GStep)(v:er):Prop:=
 match F v with
 | .go b a c=>na v a λT=>F (eU v T)=.go b (eU a T) c
 |_=>True
def na.refl(v:er){C:Ta->Prop}(h:∀T,C T):na v v C:=⟨eF _,rfl,λT _=>h T⟩
theorem fH.go(v:er)(g:eA)(a:Array Event):fH (λw=>.go g w a) v:=na.refl v λ_=>rfl
theorem fH.ended(v:er)(o:Outcome)(a:Array Event):fH (λw=>.ended o w a) v:=trivial
theorem fH.after{v:er}{F:er->GStep}(a:Array Event)(h:fH F v):fH (λw=>GStep.after a (F w)) v:=by
 unfold fH at*;dsimp only;revert h;generalize d:F v=x;intro h;cases x with
 |go e f b=>exact⟨h.le,h.tape,λT c=>by rw[h.run T c];rfl⟩
 |_=>trivial
def fH.ite{v:er}{c:Prop} [Decidable c]{F b:er->GStep}(h:c->fH F v)(d:¬c->fH b v):fH (λw=>if c then F w else b w) v:=by by_cases a:c;have:=h a;simp only[a,fF];exact this;have:=d a;simp only[a,gy];exact this
def fH.congr{v:er}{F a:er->GStep}(h:fH F v)(e:∀T,a (eU v T)=F (eU v T)):fH a v:=by
 have b:a v=F v:=e v.tape;unfold fH at*;rw[b];revert h;generalize F v=x;intro h;cases x with
 |go f g c=>exact⟨h.le,h.tape,λT d=>by rw[e];exact h.run T d⟩
 |_=>trivial
def UO(s:GStep):Prop:=match s with| .go _ _ _=>False|_=>True
section
variable{P:eE}{ρ:fj}{v u:er}{cs:List Frame}
theorem fH.run{p t:Type}{A:fj->p->t->Prop}{s:Sem p}{y:Sem t}(w:WR ρ v u)(h:SR P A ρ s y)(K:Result p->Array Event->GStep) (z:∀l d f,l.dead=true->UO (K (.halt l d) f))
 (B:∀a b d o g f i,A g a b->im ρ g v u d o i->fH (λw=>K (.ok a w) f) d)
 (C:∀a d f,fH (λw=>K (.halt (.panic a) w) f) d):
 fH (λw=>K (s.runT P w #[]).1 (s.runT P w #[]).2) v:=by
 obtain⟨l,d,f,e,D⟩|⟨a,b,d,o,g,f,i,e,E,n,m⟩|⟨a,b,d,o,g,f,i,e,E,n,m⟩:=fK.run w h;have:=z l d f D;unfold fH;simp only[e];revert this;generalize K (.halt l d) f=x;intro F;cases x with
 |go _ _ _=>exact F.elim
 |_=>trivial
 have c:=h.Ac w #[];rw[e]at c;obtain c|c:=c;exact c.elim;have k:=B a b d o g f i n m;unfold fH at*;simp only[e];dsimp only at k;revert k;generalize G:K (.ok a d) f=x;intro k;cases x with
 |go H I q=>
  refine na.trans c.le c.tape k λT r h=>?_;rw[c.run T λj a b=>r j a b];exact h
 |_=>trivial
 have c:=h.Ac w #[];rw[e]at c;obtain c|c:=c;exact absurd (show Halt.dead (.panic a)=true from c) (by intro l;cases l);have k:=C a d f;unfold fH at*;simp only[e];dsimp only at k;revert k;generalize G:K (.halt (.panic a) d) f=x;intro k;cases x with
 |go H I q=>
  refine na.trans c.le c.tape k λT r h=>?_;rw[c.run T λj a b=>r j a b];exact h
 |_=>trivial
end
section
variable{P:eE}{ρ:fj}{v u:er}{cs:List Frame}
def na.runs{n o:Type}{A:fj->n->o->Prop}{s:Sem n}{p:Sem o}(w:WR ρ v u)(h:SR P A ρ s p):(∃j c d,s.runT P v #[]=(.halt j c,d)/\j.dead=true)\/
 (∃a b c l g d i,s.runT P v #[]=(.ok a c,d)/\A g a b/\im ρ g v u c l i/\na v c λT=>s.runT P (eU v T) #[]=(.ok a (eU c T),d))\/
 (∃a c d,s.runT P v #[]=(.halt (.panic a) c,d)/\na v c λT=>s.runT P (eU v T) #[]=(.halt (.panic a) (eU c T),d)):=by
 have f:=h.Ac w #[];obtain⟨j,c,d,e,q⟩|⟨a,b,c,l,g,d,i,e,r,k,m⟩|⟨a,b,c,l,g,d,i,e,r,k,m⟩:=fK.run w h;exact .inl ⟨j,c,d,e,q⟩;rw[e]at f;obtain f|f:=f;exact f.elim;exact .inr (.inl ⟨a,b,c,l,g,d,i,e,k,m,f⟩);rw[e]at f;obtain f|f:=f;exact absurd (show Halt.dead (.panic a)=true from f) (by intro j;cases j);exact .inr (.inr ⟨a,c,d,e,f⟩)
def na.UP{n o:Type}{A:fj->n->o->Prop}{s:Sem n}{p:Sem o}(w:WR ρ v u)(h:SX P A ρ s p):(∃j c f,s.runT P v #[]=(.halt j c,f)/\j.dead=true)\/
 (∃a b c i f,s.runT P v #[]=(.ok a c,f)/\A i a b/\na v c λT=>s.runT P (eU v T) #[]=(.ok a (eU c T),f))\/
 (∃a c f,s.runT P v #[]=(.halt (.panic a) c,f)/\na v c λT=>s.runT P (eU v T) #[]=(.halt (.panic a) (eU c T),f)):=by
 have g:=h.Ac w #[];obtain⟨j,c,f,e,q⟩|⟨a,b,c,r,i,f,l,d,e,t,k,m⟩|⟨a,b,c,r,i,f,l,e,t,k,m⟩:=fK.UN w h;exact .inl ⟨j,c,f,e,q⟩;rw[e]at g;obtain g|g:=g;exact g.elim;exact .inr (.inl ⟨a,b,c,i,f,e,k,g⟩);rw[e]at g;obtain g|g:=g;exact absurd (show Halt.dead (.panic a)=true from g) (by intro j;cases j);exact .inr (.inr ⟨a,c,f,e,g⟩)
def DM(w:WR ρ v u){fr:Frame}{cl:List Frame}{s s':Sem Next}(j:SX P tB ρ s s'):fH (λv=>stepG.apply P true fr cl none s v) v:=by
 obtain⟨l,g,h,e,i⟩|⟨a,b,g,m,h,e,f,c⟩|⟨a,g,h,e,c⟩:=na.UP w j;unfold fH stepG.apply;simp only[fF,e];cases l with
 |stuck s=>trivial
 |unsupported n=>cases n<;>first|trivial|cases i
 |_=>cases i
 unfold fH stepG.apply;simp only[fF,e];cases f with
 |enter q r=>
  have:∀(k:List Item) (X:CallKind->Prop),(X .normal)->(X .wrapped)->X (match k with| .call _ true _ _::_=>.wrapped|_=>.normal):=by intro k X o p;split;exact p;exact o
  refine⟨c.le,c.tape,λT d=>?_⟩;simp only[c.run T d];rfl
 |_=>
  refine⟨c.le,c.tape,λT d=>?_⟩;simp only[c.run T d];rfl
 unfold fH stepG.apply;simp only[fF,e];refine⟨c.le,c.tape,λT d=>?_⟩;simp only[c.run T d];rfl
def Ad{fr:Frame}{cl:List Frame}(a:Bool)(x:eu)(b:cl≠[]):fH (λv=>doReturn P a fr cl none x v) v:=by
 cases cl with
 |nil=>exact absurd rfl b
 |cons c cl=>
  unfold fH doReturn;dsimp only;cases fr.kind<;>exact na.refl v λT=>rfl
def pF(w:WR ρ v u){l:Frame}{n:List Frame}{d i:Deferred}(f:SN P ρ (Go.invoke d.target d.args) (Go.invoke i.target i.args)):fH (λv=>callDeferred P l n none d v) v:=by
 unfold callDeferred;refine fH.ite (λ_=>fH.ended v _ #[]) λ_=>?_;obtain⟨o,j,k,e,f⟩|⟨a,b,j,t,p,k,q,e,g,m,c⟩|⟨a,j,k,e,c⟩:=na.runs w f;unfold fH;simp only[e];cases o with
 |stuck s=>trivial
 |unsupported r=>cases r<;>first|trivial|cases f
 |_=>cases f
 unfold fH;simp only[e];cases g with
 |_=>
  refine⟨c.le,c.tape,λT h=>?_⟩;simp only[c.run T h];rfl
 unfold fH;simp only[e];refine⟨c.le,c.tape,λT h=>?_⟩;simp only[c.run T h];rfl
def NK(i:Good P ρ)(w:WR ρ v u){fr j:Frame}{cl:List Frame}(p:cl≠[])(h:fX P ρ fr j)(f:Bool):fH (λv=>unwind P f fr cl none v) v:=by
 unfold unwind;have l:=h.defers;revert l;generalize fr.defers=F;generalize j.defers=x;intro l;cases l with
 |nil=>
  dsimp only;have z:=h.mode;revert z;generalize G:fr.mode=m;generalize E:j.mode=M;intro z;cases z with
  |run=>exact fH.ended v _ #[]
  |panicking g=>
   dsimp only;cases cl with
   |nil=>exact absurd rfl p
   |cons c cl=>
    dsimp only;split;exact fH.ended v _ #[];exact fH.go v _ #[]
  |returning=>
   dsimp only;obtain⟨fn,c,q,_,_⟩:=i.fit.fn _ h.fnS.1;rw[q];dsimp only;obtain⟨s,n,o,e,l⟩|⟨a,b,n,H,A,o,B,e,C,m,g⟩|⟨a,n,o,e,g⟩:=na.runs (P:=P) w (SR.results (fn:=fn) h.tmps);unfold fH;simp only[e];cases s<;>trivial;have k:=Ad (P:=P) (v:=n) (fr:=fr) (cl:=cl) f a p;have t:=fH.after (seen P fr.fn o) k;unfold fH at*;simp only[e];dsimp only at t;revert t;generalize GStep.after (seen P fr.fn o) (doReturn P f fr cl none a n)=y;intro t;cases y with
   |go N O I=>
    refine na.trans g.le g.tape t λT D s=>?_;simp only[g.run T D];exact s
   |_=>trivial
   unfold fH;simp only[e];trivial
 | @cons d Q F x l J=>
  cases l with
  |collected K=>
   dsimp only;obtain⟨s,n,o,e,l⟩|⟨a,b,n,H,A,o,B,e,C,m,g⟩|⟨a,n,o,e,g⟩:=na.runs (P:=P) w (SR.takeDeferred K);unfold fH;simp only[e];trivial;unfold fH;simp only[e];refine⟨g.le,g.tape,λT D=>?_⟩;simp only[g.run T D];rfl;unfold fH;simp only[e];trivial
  |fn L q r=>exact pF w (SR.invoke i.fit i.two (.fn L q r))
  |yield q r=>exact pF w (SR.invoke i.fit i.two (.yield q r))
  |nil r=>exact pF w (SR.invoke i.fit i.two (.nil r))
end
section
variable{P:eE}{ρ:fj}{v u:er}{cs:List Frame}
def QJ(w:WR ρ v u){fr q:Frame}{cl:List Frame}(r:cl≠[])(h:fX P ρ fr q)(d:Bool)(j:Option Code)(o:Outcome):(∀c,j=some c->∀f,ρ.ok f c=true)->fH (λv=>
  (match fr.roundOf with
    |none=>if(match j with|none|some .ret=>true|_=>false)=true then .go {frame:={fr with mode:=.returning},callers:=cl,status:=.running,dying:=none} v else .ended o v
    |some l=>GStep.after (seen P fr.fn ((Instr.endRound l j).runT P v #[]).2)<|match((Instr.endRound l j).runT P v #[]).1 with
     | .ok x w=>doReturn P d fr cl none x w
     | .halt _ w=>.ended (.stuck "range over a function: no such loop" (fr.pos P)) w)) v:=by
 intro z;obtain⟨s,A⟩|⟨l,H,s,A,B,_⟩:=h.round;rw[s];dsimp only;exact fH.ite (λ_=>fH.go v _ #[]) λ_=>fH.ended v _ #[];rw[s];dsimp only;obtain⟨t,g,i,e,I⟩|⟨a,b,g,J,C,i,D,e,E,m,n⟩|⟨a,g,i,e,n⟩:=na.runs (P:=P) w (SR.endRound B j z);unfold fH;simp only[e];trivial;have k:=Ad (P:=P) (v:=g) (fr:=fr) (cl:=cl) d a r;have p:=fH.after (seen P fr.fn i) k;unfold fH at*;simp only[e];dsimp only at p;revert p;generalize GStep.after (seen P fr.fn i) (doReturn P d fr cl none a g)=y;intro p;cases y with
 |go K L F=>
  refine na.trans n.le n.tape p λT G t=>?_;simp only[n.run T G];exact t
 |_=>trivial
 unfold fH;simp only[e];trivial
def TF(E:Good P ρ)(w:WR ρ v u){fr p:Frame}{cl:List Frame}(aa:cl≠[])(h:fX P ρ fr p)(q:Bool):
 fH (λv=>stepG.exec P q true fr cl none v) v:=by
 have ab:=E.ok;have N:=λ(j:Option Code)=>QJ w aa h q j (.stuck "exit, goto: no such block or label" (fr.pos P));have t:=h.todo;unfold stepG.exec;revert t N;generalize ac:fr.todo=k0;generalize ai:p.todo=ak;intro N t;cases t with
 |nil=>exact N none (λc e=>by cases e)
 | @cons x x' k k' hx hk=>
  cases hx with
  | @code c A=>
   have r:=A;rw[ab]at r;dsimp only at r;cases c with
   |ret=>exact N (some .ret) (λc e=>by cases e;exact uK E rfl)
   |cond c a b=>
    dsimp only;cases fr.eval c<;>first|exact fH.ended v _ #[]|exact fH.go v _ #[]
   |exit id=>
    dsimp only;cases exitTo id k with
    |none=>exact N (some (.exit id)) (λc e=>by cases e;exact uK E rfl)
    |some j=>exact fH.go v _ #[]
   |goto l=>
    dsimp only;cases gotoIn l k with
    |none=>exact N (some (.goto l)) (λc e=>by cases e;exact uK E rfl)
    |some j=>exact fH.go v _ #[]
   |refuse al=>exact fH.ended v _ #[]
   |rangeFunc f ps a b=>
    simp only[jI,fE]at r;simp only[tl]at r;dsimp only;obtain⟨O,B,D,e,G⟩|⟨x,y,B,u1,C,D,R,e,H,m,g⟩|⟨x,B,D,e,g⟩:=na.runs (P:=P) w (SR.enterLoop h.fnS.1 h.fnS.2 h.tmps ps a b (iS E r.1.2) (iS E r.2) r.1.1.1 (h.round.imp id λ⟨l,F,a,b,c,_⟩=>⟨l,F,a,b,c⟩));unfold fH;simp only[e];trivial;obtain⟨l,mk⟩:=x;obtain⟨F,I⟩:=y;obtain⟨Q,S⟩:=H;simp only at Q S;have U:=E.mono m.le;have J:=h.mono m.le;have V:wG C mk I:=by obtain⟨rfl,rfl⟩|⟨d,d',rfl,rfl,G,hb⟩:=S;exact .nil;exact .cons G (.inr hb) .nil
    have ad:fX P C {fr with todo:=.inRangeFunc l::k,defers:=mk++fr.defers} {p with todo:=.inRangeFunc F::k',defers:=I++p.defers}:=
     ⟨J.fn,J.fnS,J.tmps,.cons (.inRangeFunc Q) (hk.mono m.le),V.append J.defers,J.mode,J.kind,J.round⟩
    have hs:SN P C (do let d<-resolve (Frame.eval {fr with todo:=.inRangeFunc l::k,defers:=mk++fr.defers}) {callee:=.value f,args:=#[.const (.func (.yield l) #[] #[])],argTypes:=#[]} 0;invoke d.target d.args)
     (do let d<-resolve (Frame.eval {p with todo:=.inRangeFunc F::k',defers:=I++p.defers}) {callee:=.value f,args:=#[.const (.func (.yield F) #[] #[])],argTypes:=#[]} 0;invoke d.target d.args):=by
     unfold resolve;dsimp only;refine SR.fM (SR.ofValue (ad.eval f (m.le.s▸r.1.1.2)) (xs:=_) (xs':=_) ?_) λae d d' W G=>SR.invoke ((U.mono W).fit) ((U.mono W).two) G;simp only[List.map_toArray,lK,rf,Frame.eval];exact iD.one (.yield Q)
    have Z:=fH.after (seen P fr.fn D) (DM (fr:={fr with todo:=.inRangeFunc l::k,defers:=mk++fr.defers}) (cl:=cl) m.rel (.of hs));unfold fH at*;simp only[e];dsimp only at Z;revert Z;generalize GStep.after (seen P fr.fn D) (stepG.apply P true {fr with todo:=.inRangeFunc l::k,defers:=mk++fr.defers} cl none _ B)=y;intro Z;cases y with
    |go g1 v2 am=>
     refine na.trans g.le g.tape Z λT K O=>?_;simp only[g.run T K];exact O
    |_=>trivial
    unfold fH;simp only[e];trivial
   |region id X draw=>
    dsimp only;cases draw with
    |false=>exact fH.go v _ #[]
    |true=>
     simp only[Bool.not_true,jE,gy];have af:SR P (λ_ (a b:Nat)=>a=b) ρ (Go.choose (.order fr.fn id)) (Go.choose (.order fr.fn id)):=.choose λn=>.pure rfl;obtain⟨O,B,D,e,G⟩|⟨x,y,B,u1,C,D,R,e,H,m,g⟩|⟨x,B,D,e,g⟩:=na.runs (P:=P) w af;have z:(Go.choose (.order fr.fn id)).run P v=.halt O B:=by rw[ml]at e;exact eX Prod.fst e
     unfold fH;simp only[z];have z:(Go.choose (.order fr.fn id)).run P v=.ok x B:=by rw[ml]at e;exact eX Prod.fst e
     unfold fH;simp only[z];refine⟨g.le,g.tape,λT K=>?_⟩;have L:(Go.choose (.order fr.fn id)).run P (eU v T)=.ok x (eU B T):=by have:=g.run T K;rw[ml]at this;exact eX Prod.fst this
     simp only[L];have z:(Go.choose (.order fr.fn id)).run P v=.halt (.panic x) B:=by rw[ml]at e;exact eX Prod.fst e
     unfold fH;simp only[z]
   |_=>exact fH.go v _ #[]
  |inRangeFunc Q=>exact fH.ended v _ #[]
  |beginRound=>
   dsimp only;refine DM (s':=(do p.roundOf.elim (Go.stuck "beginRound: no round") Instr.beginRound;Pure.pure .skip)) w (.of ?_);obtain⟨z,L⟩|⟨l,F,z,L,hr,_⟩:=h.round;rw[z,L];exact .dead rfl;rw[z,L];exact SR.fM (SR.beginRound hr) λ_ _ _ _ _=>.gA .skip
  |endRangeFunc Q=>
   dsimp only;obtain⟨O,B,D,e,G⟩|⟨x,y,B,u1,C,D,R,e,H,m,A⟩|⟨x,B,D,e,A⟩:=na.runs (P:=P) w (SR.endLoop Q)
   ·unfold fH;simp only[e];cases O<;>first|trivial|(cases G;done)
   unfold fH;simp only[e];refine⟨A.le,A.tape,λT K=>?_⟩;simp only[A.run T K];rfl;unfold fH;simp only[e];refine⟨A.le,A.tape,λT K=>?_⟩;simp only[A.run T K];rfl
  | @inRegion X td Y=>
   cases td with
   |nil=>exact fH.go v _ #[]
   |cons i aj=>
    dsimp only;refine fH.ite (λA=>?_) λA=>fH.go v _ #[];cases ho:X[i]? with
    |none=>rw[ho]at A;cases A
    |some o=>
     unfold stepG.oper;have z:fr.oper?=some o:=by simp only[Frame.oper?,ac];exact ho
     rw[z];dsimp only;have M:=Y i o ho;have hs:SX P tB ρ (execOp fr.eval o) (execOp p.eval o):=SX.exec E.fit E.two (λx hx=>h.eval x hx) (λe=>⟨_,e⟩) (λ_=>⟨rfl,rfl⟩) o M;have q:=DM (fr:=fr) (cl:=cl) w hs;obtain⟨z,L⟩|⟨l,F,z,L,hr,ag⟩:=h.round;rw[z];exact q;rw[z];cases ah:o.op<;>first|exact q|skip
     rename_i c;simp only[qJ,fE,ah,Fp]at M;exfalso;have:=M.2;rw[ag]at this;revert this;split<;>(intro h;cases h)
  |_=>exact fH.go v _ #[]
def TG(i:Good P ρ)(w:WR ρ v u){g:eA}{f:Frame}(b:g.callers≠[])(d:g.dying=none)(h:fX P ρ g.frame f)(a:Bool):
 fH (λv=>stepG P a g v) v:=by
 obtain⟨k,m,n,o,e⟩:=g;simp only at b d h;subst d;have l:=TF i w b h a;have j:=NK i w b h a;unfold stepG;dsimp only;cases p:k.mode with
 |run=>simp only;exact l
 |returning=>simp only;exact j
 |panicking c=>simp only;exact j
end
end Go.eV
namespace Go.eV
open Go.Conc (G)
structure rO where
 fr:Frame
 cl:List Frame
 v:er
def Below(v:er)(T:Ta):Prop:=∀j,j<v.drawn->T j=v.tape j
inductive Reach (P:eE) (Stop:Frame->List Frame->er->Prop):rO->Prop
 |here {c:rO} (h:Stop c.fr c.cl c.v):Reach P Stop c
 |next {c:rO} (h1:∀T,Below c.v T->∃(c1:rO) (es:Array Event),stepG P true (G c.fr c.cl) (eU c.v T)=.go (G c1.fr c1.cl) c1.v es)
  (h2:∀T (c1:rO) (es:Array Event),Below c.v T->stepG P true (G c.fr c.cl) (eU c.v T)=.go (G c1.fr c1.cl) c1.v es->Reach P Stop c1):Reach P Stop c
def Reach.step{P:eE}{Stop:Frame->List Frame->fa}{c:rO}(h:∀T:Ta,Below c.v T->∃a b d f,stepG P true (G c.fr c.cl) (eU c.v T)=.go (G a b) d f/\Reach P Stop ⟨a,b,d⟩):Reach P Stop c:=by refine .next (λT g=>?_) λT l f g e=>?_;obtain⟨a,b,d,f,e,_⟩:=h T g;exact⟨⟨a,b,d⟩,f,e⟩;obtain⟨a,b,d,m,n,o⟩:=h T g;rw[n]at e;injection e with p i q;injection p with j k;obtain⟨r,s,v⟩:=l;simp only at i j k;subst i j k;exact o
def Inv(P:eE)(c:rO):Prop:=∃a u b,Good P a/\(∀f,a.hole f=false)/\WR a c.v u/\sW P a [] (G c.fr c.cl) b
def WR.TH{v u:er}(h:WR R v u)(T:Ta):WR R (eU v T) {u with tape:=λj q=>T (v.drawn+(j-u.drawn)) q}:=
 ⟨h.obj,h.low,λj q=>by show T (v.drawn+j) q=T (v.drawn+(u.drawn+j-u.drawn)) q;rw[Nat.add_sub_cancel_left]⟩
def HR.wr{v u:er}(h:HR R v u):WR R v {u with tape:=λj q=>v.tape (v.drawn+(j-u.drawn)) q}:=
 ⟨h.obj,h.low,λj q=>by show v.tape (v.drawn+j) q=v.tape (v.drawn+(u.drawn+j-u.drawn)) q;rw[Nat.add_sub_cancel_left]⟩
theorem Inv.eU{P:eE}{c:rO}(h:Inv P c)(T:Ta):Inv P {c with v:=eU c.v T}:=by obtain⟨a,u,b,d,e,f,g⟩:=h;exact⟨a,_,b,d,e,f.TH T,g⟩
def Il.frame{P:eE}(c:∀f,R.hole f=false){fr a:Frame}(h:Il P R fr a):fX P R fr a:=by
 cases h with
 |fr h=>exact h
 |hole _ b _=>rw[c]at b;cases b
theorem Inv.callers{P:eE}{c:rO}(h:Inv P c):c.cl≠[]:=by obtain⟨f,u,g,i,j,k,b⟩:=h;obtain⟨X,l,e,_⟩:=b.callers;intro d;have a:c.cl=X++[floor]:=e;rw[d]at a;simp at a
def Inv.step{P:eE}{c:rO}(h:Inv P c):(∃o w a,stepG P true (G c.fr c.cl) c.v=.ended o w a)\/(∃e f a,stepG P true (G c.fr c.cl) c.v=.go e f a/\z9 e)\/∃g i f a,stepG P true (G c.fr c.cl) c.v=.go (G g i) f a/\Inv P ⟨g,i,f⟩:=by
 obtain⟨B,u,C,n,p,y,q⟩:=h;have j:=Im n y q (q.fr.frame p) true true;revert j;generalize stepG P true (G c.fr c.cl) c.v=s;intro j;cases s with
 |go e f a=>
  obtain z|⟨k,l,D,A,_,⟨d,m⟩,b⟩:=j;exact .inr (.inl ⟨e,f,a,rfl,z⟩);refine .inr (.inr ⟨e.frame,e.callers,f,a,?_,k,_,l,n.mono m.le,by rw[<-m.le.h];exact p,m.rel.hr.drawn.wr,?_⟩);obtain⟨E,F,H,I,J⟩:=e;have r:=b.st.1;have t:=b.dy.1;have x:=b.of.1;simp only at r t x;subst r t x;rfl;exact⟨b.fr,b.callers,⟨rfl,b.st.2⟩,⟨rfl,b.dy.2⟩,⟨rfl,b.of.2⟩⟩
 |ended o w a=>exact .inl ⟨o,w,a,rfl⟩
 |_=>exact j.elim
def Inv.Ac{P:eE}{c:rO}(h:Inv P c):fH (λv=>stepG P true (G c.fr c.cl) v) c.v:=by have a:=h.callers;obtain⟨i,u,j,b,d,e,f⟩:=h;exact TG (g:=G c.fr c.cl) b e a rfl (f.fr.frame d) true
def Comes(P:eE)(Stop:Frame->List Frame->fa)(c:rO):Prop:=
 ∀T,Below c.v T->∃n a b v,runN P n (lone c.fr c.cl (eU c.v T))=.next (lone a b v)/\Stop a b v
section
variable{P:eE}{Stop:Frame->List Frame->er->Prop}
def rP{c a:Frame}{d b:List Frame}{v e:er}{f:Array Event}(h:stepG P true (G c d) v=.go (G a b) e f):Go.step P (lone c d v)=.next (lone a b e):=by refine step_lone_go ?_;have g:stepG P true {frame:=c,callers:=d,status:=.running,dying:=none} v=.go (G a b) e f:=h;rw[g];rfl
def pG{a:Frame}{b:List Frame}{v c:er}{o:Outcome}{d:Array Event}(h:stepG P true (G a b) v=.ended o c d):Go.step P (lone a b v)=.ended o c:=by refine step_lone_ended ?_;have e:stepG P true {frame:=a,callers:=b,status:=.running,dying:=none} v=.ended o c d:=h;rw[e];rfl
structure UQ(P:eE)(Stop:Frame->List Frame->er->Prop)(c:rO):Prop where
 inv:Inv P c
 comes:Comes P Stop c
 not:¬Reach P Stop c
structure UR(P:eE)(c c1:rO)(T:Ta):Prop where
 below:Below c.v T
 tape:c1.v.tape=T
 le:c.v.drawn<=c1.v.drawn
 step:∀L,(∀j,c.v.drawn<=j->j<c1.v.drawn->L j=T j)->stepG P true (G c.fr c.cl) (eU c.v L)=.go (G c1.fr c1.cl) (eU c1.v L) (match stepG P true (G c.fr c.cl) (eU c.v L)with| .go _ _ es=>es|_=>#[])
theorem UQ.next(B:∀i g v,Stop i g v->g≠[])(C:∀c T,Inv P c->Stop c.fr c.cl c.v->Stop c.fr c.cl (eU c.v T)){c:rO}(h:UQ P Stop c):∃N T,UR P c N T/\UQ P Stop N:=by
 have Y:¬∀T:Ta,Below c.v T->∃b d f q,stepG P true (G c.fr c.cl) (eU c.v T)=.go (G b d) f q/\Reach P Stop ⟨b,d,f⟩:=λZ=>h.not (.step Z);have r:∀T,¬Stop c.fr c.cl (eU c.v T):=λT k=>h.not (.here (by have:=C {c with v:=eU c.v T} c.v.tape (h.inv.eU T) k;exact this))
 obtain⟨T,D⟩:=Classical.not_forall.1 Y;obtain⟨E,D⟩:=Classical.not_imp.1 D;have O:=h.inv.eU T;obtain⟨n,i,g,v,a,k⟩:=h.comes T E;have t:∀{T i g v n},runN P n (lone c.fr c.cl (eU c.v T))=.next (lone i g v)->Stop i g v->∃u,n=u+1:=by
  intro T i g v n a k;cases n with
  |zero=>
   exfalso;simp only[runN]at a;injection a with a;have s:c.fr=i/\c.cl=g/\eU c.v T=v:=by unfold lone at a;injection a with s l;simp only[Cg,sM]at l;have:=l.1;injection this with Q R;exact⟨Q,R,s⟩
   obtain⟨rfl,rfl,rfl⟩:=s;exact r T k
  |succ n=>exact⟨n,rfl⟩
 obtain⟨u,rfl⟩:=t a k;obtain⟨o,w,q,e⟩|⟨g1,f,q,e,S⟩|⟨b,d,f,q,e,x⟩:=O.step;exfalso;simp only[runN,pG e]at a;cases a;exfalso;obtain⟨b,d,st,dy,of⟩:=g1;have F:=S;obtain⟨U,V,W,X,h4⟩:=S;simp only at W U V X h4;subst W U V X;have e':stepG P true (G c.fr c.cl) (eU c.v T)=.go (G b []) f q:=e;simp only[runN,rP e']at a;cases u with
 |zero=>
  simp only[runN]at a;injection a with a;have s:[]=g:=by unfold lone at a;injection a with s l;simp only[Cg,sM]at l;have:=l.1;injection this with Q R
  exact B _ _ _ k s.symm
 |succ n=>
  obtain⟨o,w',aa,l⟩:=F.ended (P:=P) true f;simp only[runN,pG (show stepG P true (G b []) f=_ from l)]at a;cases a
 have m:=O.Ac;unfold fH at m;dsimp only at m;rw[e]at m;dsimp only at m;have p:∀L,(∀j,c.v.drawn<=j->j<f.drawn->L j=T j)->stepG P true (G c.fr c.cl) (eU c.v L)=.go (G b d) (eU f L) q:=λL H=>m.run L H;refine⟨⟨b,d,f⟩,T,⟨E,m.tape,m.le,λL H=>by rw[p L H]⟩,x,?_,λI=>D ⟨b,d,f,q,e,I⟩⟩;intro J y;have z:f.tape=T:=m.tape;have K:c.v.drawn<=f.drawn:=m.le;have M:Below c.v J:=λj A=>by rw[y j (fN A K)];show f.tape j=_;rw[z];exact E j A
 obtain⟨n,i,g,v,a,k⟩:=h.comes J M;obtain⟨u,rfl⟩:=t a k;have l:=p J λj _ A=>by rw[y j A];show f.tape j=_;rw[z]
 simp only[runN,rP l]at a;exact⟨u,i,g,v,a,k⟩
def tC(f:∀t s v,Stop t s v->s≠[])(d:∀c T,Inv P c->Stop c.fr c.cl c.v->Stop c.fr c.cl (eU c.v T)){c:rO}(D:Inv P c)(h:Comes P Stop c):Reach P Stop c:=by
 refine Ff λp=>?_;have E:UQ P Stop c:=⟨D,h,p⟩;let a:Nat->{c:rO//UQ P Stop c}:=λn=>Nat.rec ⟨c,E⟩ (λ_ x=>⟨Classical.choose (x.2.next f d),(kQ (kQ (x.2.next f d))).2⟩) n;have z:(a 0).1=c:=rfl;have u:∀n,∃T,UR P (a n).1 (a (n+1)).1 T:=λn=>⟨Classical.choose (kQ ((a n).2.next f d)),(kQ (kQ ((a n).2.next f d))).1⟩;have mono:∀n k,(a n).1.v.drawn<=(a (n+k)).1.v.drawn:=by
  intro n k;induction k with
  |zero=>exact eF _
  |succ k r=>
   obtain⟨T,i⟩:=u (n+k);exact ff r i.le
 have e:∀n k j,j<(a n).1.v.drawn->(a (n+k)).1.v.tape j=(a n).1.v.tape j:=by
  intro n k j g;induction k with
  |zero=>rfl
  |succ k r=>
   obtain⟨T,i⟩:=u (n+k);rw[<-r,<-i.below j (fN g (mono n k))];show(a (n+k+1)).1.v.tape j=_;rw[i.tape]
 let L:Ta:=λj q=>open Classical in if l:∃n,j<(a n).1.v.drawn then(a (Classical.choose l)).1.v.tape j q else 0
 have A:∀n j,j<(a n).1.v.drawn->L j=(a n).1.v.tape j:=by intro n j g;funext q;have l:∃n,j<(a n).1.v.drawn:=⟨n,g⟩;show(open Classical in if l:∃n,j<(a n).1.v.drawn then(a (Classical.choose l)).1.v.tape j q else 0)=_;rw[dif_pos l];have B:=kQ l;generalize Classical.choose l=m at B;obtain o|o:=Nat.le_total m n;obtain⟨k,rfl⟩:=Nat.exists_eq_add_of_le o;rw[e m k j B];obtain⟨k,rfl⟩:=Nat.exists_eq_add_of_le o;rw[e n k j g]
 have w:∀n,∀k,runN P (n+k) (lone c.fr c.cl (eU c.v L))=runN P k (lone (a n).1.fr (a n).1.cl (eU (a n).1.v L)):=by
  intro n;induction n with
  |zero=>intro k;rw[eJ];rfl
  |succ n r=>
   intro k;rw[show n+1+k=n+(k+1)from by omega,r (k+1)];obtain⟨T,i⟩:=u n;have:=i.step L λj _ g=>by rw[A (n+1) j g,i.tape]
   simp only[runN,rP this]
 obtain⟨k,t,s,v,F,G⟩:=h L λj g=>A 0 j g;have b:=w k 0;rw[nT,F]at b;simp only[runN]at b;injection b with b;have y:t=(a k).1.fr/\s=(a k).1.cl/\v=eU (a k).1.v L:=by unfold lone at b;injection b with y C;simp only[Cg,sM]at C;have:=C.1;injection this with H I;exact⟨H,I,y⟩
 obtain⟨rfl,rfl,rfl⟩:=y;refine(a k).2.not (.here ?_);have:=d {(a k).1 with v:=eU (a k).1.v L} (a k).1.v.tape ((a k).2.inv.eU L) G;exact this
end
section
variable{P:eE}
def Left(P:eE)(f:fG)(R:oz)(a:Frame)(b:List Frame)(v:er):Prop:=
 b=[floor]/\a.fn=f/\∃x,R x v/\a.leaving P v (.returned x)
def Left.callers{R:oz}(b:Frame)(a:List Frame)(v:er)(h:Left P K R b a v):a≠[]:=by rw[h.1];simp
theorem Left.eU{R:oz}(f:∀x w T,R x w->R x (eU w T))(c:rO)(T:Ta)(g:Inv P c)(h:Left P K R c.fr c.cl c.v):Left P K R c.fr c.cl (eU c.v T):=by
 obtain⟨i,k,x,l,m,n,o,fn,p,q⟩:=h;refine⟨i,k,x,f _ _ _ l,m,n,o,fn,p,?_⟩;obtain⟨y,u,z,A,r,s,t⟩:=g;have d:=(SR.results (P:=P) (fn:=fn) (t.fr.frame r).tmps).Ac s #[];rw[ml]at d;have e:(results fn (G c.fr c.cl).frame.tmps).run P c.v=.ok x c.v:=q;simp only[e]at d;obtain d|d:=d;exact d.elim;have:=d.run T λj a b=>by simp only[Io]at b;omega
 rw[ml]at this;exact eX Prod.fst this
def tD{R:oz}(c:∀x b T,R x b->R x (eU b T))(d:Inv P ⟨Frame.enter P K W .normal,[floor],w⟩)
 (h:∀T,Below w T->Calls P K W (eU w T) λe a=>∃x,e=.returned x/\R x a):Reach P (Left P K R) ⟨Frame.enter P K W .normal,[floor],w⟩:=by
 refine tC Left.callers (Left.eU c) d λT f=>?_;obtain⟨e,a,g,⟨x,rfl,i⟩,j,k,l⟩:=h T f [floor];obtain⟨n,m⟩:=j;exact⟨n,g,[floor],a,m,rfl,k,x,i,l⟩
def Reach.follow{a:Frame->List Frame->fa}{c b:rO}{d:Array Event}{T:Ta}(h:Reach P a c)(f:¬a c.fr c.cl c.v)(g:Below c.v T) (e:stepG P true (G c.fr c.cl) (eU c.v T)=.go (G b.fr b.cl) b.v d):Reach P a b:=by
 cases h with
 |here h=>exact absurd h f
 |next j i=>exact i T b d g e
end
end Go.eV
