/- Laws that the proof needs, part 0. Conditions: none. -/
import Derived.Conc.Own
import Derived.KernelRfl
import Derived.Test.YteeagjkaflglpaaGreatRows
import Derived.JoinedOf
import Derived.Conc.LeavingOf
import Derived.Carry
import Derived.ChangeSlices
import Derived.WideShapes
import Derived.Laws.Sem
import Derived.Conc.Events
import Derived.WalkKit
import Derived.WalkSpells
import Derived.WalkLawsBesides
import Derived.Conc.WgGenN3
import Derived.Conc.Beside
set_option maxRecDepth 100000
set_option maxHeartbeats 8000000
set_option linter.all false
def yV:=@Array.all_eq_true_iff_forall_mem
def FB:=@Array.any_eq_true'
def RM:=@Array.ext'
def Ot:=@Array.ext_getElem?
def Ou:=@Array.foldl_toList
def Ov:=@Array.forIn_toList
def IE:=@Array.getD_eq_getD_getElem?
def DL:=@Array.getElem?_append_left
def DM:=@Array.getElem?_append_right
def nh:=@Array.getElem?_eq_getElem
def vM:=@Array.getElem?_eq_none
def iS:=@Array.getElem?_eq_some_iff
def vN:=@Array.getElem?_map
def nL:=@Array.getElem?_modify
def vO:=@Array.getElem?_push
def vP:=@Array.getElem?_replicate
def gd:=@Array.getElem?_setIfInBounds_ne
def ou:=@Array.getElem?_setIfInBounds_self_of_lt
def Ks:=@Array.mapM_eq_mapM_toList
def FC:=@Array.mem_append
def xZ:=@Array.mem_of_getElem?
def Wo:=@Array.mk.injEq
def x6:=@Array.size_append
def eW:=@Bool.and_eq_true
def iR:=@Bool.false_eq_true
def sH:=@Bool.not_eq_true'
def Kt:=@Bool.or_eq_true
def Ku:=@Classical.byContradiction
def jG:=@Classical.choose_spec
def zK:=@Function.comp_def
def jH:=@Go.Conc.Goes.stop
def qF:=@Iff.rfl
def zM:=@Int.mul_nonneg
def ow:=@Int.toNat_natCast
def nj:=@List.all_eq_true
def Cn:=@List.cons.injEq
def nM:=@List.cons_append
def nN:=@List.drop_eq_getElem_cons
def oy:=@List.eq_nil_of_length_eq_zero
def Ow:=@List.exists_of_findSome?_eq_some
def Wp:=@List.filter_eq_nil_iff
def vQ:=@List.flatMap_cons
def qG:=@List.foldl_append
def jP:=@List.foldl_cons
def gW:=@List.getD_eq_getElem?_getD
def yd:=@List.getElem?_append_left
def ye:=@List.getElem?_append_right
def Ui:=@List.getElem?_cons_succ
def Kv:=@List.getElem?_cons_zero
def ft:=@List.getElem?_eq_getElem
def Uj:=@List.getElem?_eq_none
def nk:=@List.getElem?_eq_some_iff
def yf:=@List.getElem?_map
def FD:=@List.getElem?_toArray
def nm:=@List.getElem_append_left
def se:=@List.getElem_append_right
def Ox:=@List.getElem_cons_succ
def nO:=@List.getElem_cons_zero
def eG:=@List.getElem_mem
def lx:=@List.length_append
def fa:=@List.length_cons
def nP:=@List.length_map
def fP:=@List.length_nil
def sJ:=@List.length_set
def Oy:=@List.length_take
def qH:=@List.map_append
def kI:=@List.map_cons
def uI:=@List.map_nil
def jQ:=@List.mem_append
def fi:=@List.mem_cons
def jD:=@List.mem_cons_of_mem
def fW:=@List.mem_cons_self
def py:=@List.mem_filter
def me:=@List.mem_flatMap
def kJ:=@List.mem_map
def pz:=@List.mem_of_getElem?
def vR:=@List.mem_or_eq_of_mem_set
def gf:=@List.mem_range
def jE:=@List.mem_singleton
def Oz:=@List.mem_toArray
def qI:=@List.nil_append
def pA:=@List.not_mem_nil
def Co:=@List.range'_succ
def nq:=@List.range_succ
def im:=@List.size_toArray
def j5:=@List.take_length
def yg:=@List.take_of_length_le
def iT:=@List.take_succ_eq_append_getElem
def Kw:=@Nat.add_assoc
def pB:=@Nat.add_zero
def Cp:=@Nat.beq_refl
def nQ:=@Nat.eq_of_beq_eq_true
def nt:=@Nat.eq_zero_or_pos
def qJ:=@Nat.le_of_ble_eq_true
def di:=@Nat.le_refl
def mG:=@Nat.le_succ
def FE:=@Nat.le_succ_of_le
def du:=@Nat.le_trans
def ew:=@Nat.lt_of_lt_of_le
def zN:=@Nat.lt_of_not_le
def gC:=@Nat.lt_or_ge
def sK:=@Nat.mul_le_mul_right
def rm:=@Nat.mul_one
def IF:=@Nat.ne_of_beq_eq_false
def lJ:=@Nat.sub_self
def dn:=@Nat.zero_add
def gh:=@Nat.zero_le
def jg:=@Ne.symm
def rn:=@Option.bind_eq_bind
def jT:=@Option.bind_eq_some_iff
def zO:=@Option.bind_some
def kK:=@Option.getD_some
def wZ:=@Option.isSome_none
def iU:=@Option.map_eq_some_iff
def mg:=@Option.map_some
def dT:=@Option.some.inj
def iN:=@Option.some.injEq
def kL:=@Go.Sem.runT_eq
def sL:=@beq_iff_eq
def dH:=@congrArg
def lK:=@decide_eq_false
def kM:=@decide_eq_true_eq
def fq:=@if_false
def cS:=@if_neg
def cV:=@if_pos
def em:=@if_true
def ie:=@of_decide_eq_false
def fx:=@of_decide_eq_true
def mh:=@or_false
def sM:=@Go.Conc.stepG_block
def ig:=@Go.Conc.stepG_region
def cZ:=@Go.Conc.stepG_region_end
def dk:=@Go.Conc.stepG_seq
def fC:=@Go.Conc.stepG_skip
def lL:=@Go.wp_mono
def pX:=@Go.wp_region
def ll:=@Go.wp_seq
abbrev cJ:=Go.World
abbrev cK:=Go.Value
abbrev cQ:=Go.Goroutine
abbrev cU:=Go.Program
abbrev cR:=Go.TypeId
abbrev dZ:=Go.FuncId
abbrev dU:=Go.Operand
abbrev i64:=Go.Value.int .i64
abbrev dt(b o:Nat):Go.Addr:=⟨b,o,none⟩
abbrev dQ(b:Nat):Go.Value:=.pointer (some ⟨b,0,none⟩)
abbrev eT(b n c:Nat):Go.Value:=.slice (some ⟨b,0,none⟩) n c
abbrev cN:=List Nat
abbrev dp:=Nat->Prop
abbrev dW:=Option Go.Addr
abbrev dC:=Go.World->Prop
abbrev dP:=List Go.Value
abbrev eH:=Array Go.Value
abbrev nu:=Go.Value->Go.World->Prop
abbrev eY:=List Int
abbrev fF(w:Go.World)(b:Nat)(a:Array Go.Value)(t:Go.TypeId):Prop:=w.heap[b]? =some (.cells a t)
abbrev oz(b o:Nat):Go.Value:=.pointer (some ⟨b,o,none⟩)
abbrev FF(b o n c:Nat):Go.Value:=.slice (some ⟨b,o,none⟩) n c
abbrev pr(b o:Nat):Option Go.Addr:=some ⟨b,o,none⟩
abbrev fo:Go.Value:=.slice none 0 0
abbrev gU:=Go.undef
abbrev Go.World.lG(w:Go.World):Nat:=w.heap.size
abbrev List.iw{a:Type}(l:List a):Nat:=l.length
theorem cM{p:Prop}(h:p:=by omega):p:=h
theorem kg{p:Prop}(h:p:=by decide):p:=h
theorem eE{p:Prop}(h:p:=by kernel_rfl):p:=h
theorem tv0{p:Prop}(h:p:=by trivial):p:=h
theorem dq{p:Prop}(h:p:=by simp):p:=h
theorem rp{p:Prop}(h:p:=by simp;omega):p:=h
theorem fB{p q:Prop}(h:q)(t:q->p:=by intro h;simpa using h):p:=t h
theorem iI{p q:Prop}(h:q)(t:q->p:=by intro h;omega):p:=t h
theorem Cq{p q r:Prop}(h:q)(g:r)(t:q->r->p:=by intro h g;omega):p:=t h g
theorem ju{b:Sort _}(a:b):∃x,x=a:=⟨a,rfl⟩
theorem cL{p:Prop}(h:p:=by grind):p:=h
theorem XR{p:Prop}(h:p:=by simp_all):p:=h
variable{m k i j o p s d:Nat}{w t e:cJ}{x y z:cK}{A B C:Nat->Prop}{T U:cR}{W X:Array cK}{M Y:List cK}{h:Go.Addr}{D E:Bool}{F:Go.Frame}{O Q:Go.Obj}{K:dZ}{Z:cQ}{P:cU}
namespace Go.Proofs.YteeagjkaflglpaaGreat
open Go.ChangeShapes Go.WideShapes Go.ChangeAt Go.RowKit Go.Conc
def zP:cN:=(List.range 883).map λi=>0x1bbbefdd2f26eebbe92e64c3be1d9979efdf9fd79c3dd7e5e7bf7e7f5e70f741932ebd986be4ddd77d25cc9877c3b32f3dfbf3faf387bafcbcf7efcfebce1ee839f7cb3b26eebbe92e64c3be1d9979efdf9fd79c3dd7e5e7bf7e7f5e70f741cf5ecc35f26eebbe92e64c3be1d9979efdf9fd79c3dd7e5e7bf7e7f5e70f741cf3ef9993775df4973261df0eccbcf7efcfebce1eebf2f3dfbf3faf387ba0e9cf0ccc9bbaefa4b9930ef87665e7bf7e7f5e70f75f979efdf9fd79c3dd072cbd3341c9bbaefa4b9930ef87665e7bf7e7f5e70f75f979efdf9fd79c3dd065eb1326eebbe92e64c3be1d9979efdf9fd79c3dd7e5e7bf7e7f5e70f741cf2ebc35326eebbe92e64c3be1d9979efdf9fd79c3dd7e5e7bf7e7f5e70f741932e4d3db4c4c9bbaefa4b9930ef87665e7bf7e7f5e70f75f979efdf9fd79c3dd074e797a72dfa29e4ddd77d25cc9877c3b32f3dfbf3faf387bafcbcf7efcfebce1ee839eed39f2c2c9bbaefa4b9930ef87665e7bf7e7f5e70f75f979efdf9fd79c3dd074e7be664ddd77d25cc9877c3b32f3dfbf3faf387bafcbcf7efcfebce1ee83265e59716debbb2d2c9bbaefa4b9930ef87665e7bf7e7f5e70f75f979efdf9fd79c3dd072cba79e18b93775df4973261df0eccbcf7efcfebce1eebf2f3dfbf3faf387ba0e99b2ccc9bbaefa4b9930ef87665e7bf7e7f5e70f75f979efdf9fd79c3dd072cbd30ccc9bbaefa4b9930ef87665e7bf7e7f5e70f75f979efdf9fd79c3dd064cbdb965a793775df4973261df0eccbcf7efcfebce1eebf2f3dfbf3faf387ba0e9cf2f7cb1b26eebbe92e64c3be1d9979efdf9fd79c3dd7e5e7bf7e7f5e70f741cf761d94326eebbe92e64c3be1d9979efdf9fd79c3dd7e5e7bf7e7f5e70f741932f3e597b65a593775df4973261df0eccbcf7efcfebce1eebf2f3dfbf3faf387ba0e797b72cb4f26eebbe92e64c3be1d9979efdf9fd79c3dd7e5e7bf7e7f5e70f741d30a0e9d71a064cb2e362df132cadd8b460e33316ce596272ddb32c2e30b962e19e4c6d7333c4d5be560d9ce36199cb372d5937cad9bb0c787132c98593941cf9e5ddcb0e8/128^i%128
def Wq:Tryz.pinned.checked.prog.initOrder=String.ofList (zP.map Char.ofNat):=eE
def RN:Tryz.pinned.checked.prog.initOrder.toList=zP.map Char.ofNat:=by rw[Wq,String.toList_ofList]
def RO:(behindMainWord (wordsSigns (zP.map Char.ofNat))).head?=some "cut".toList:=eE
def RP:∃r,behindMainWord (wordsSigns (zP.map Char.ofNat))= "cut".toList::r:=by
 have h:=RO;revert h;generalize behindMainWord (wordsSigns (zP.map Char.ofNat))=l;intro h;cases l with
 |nil=>cases h
 |cons x r=>exact⟨r,by rw[dT h]⟩
def t1:("cut".toList== "gc".toList)=false:=eE
def t2:("cut".toList== "spec".toList)=false:=eE
def t3:("cut".toList== "cut".toList)=true:=eE
def t4:("cut".toList== "carried".toList)=false:=eE
def t5(r:List (List Char)):(stripLifts liftWords ("cut".toList::r))=([], "cut".toList::r):=eE
def t9:((some "cut".toList:Option (List Char))==some "cut".toList)=true:=eE
def t10:([]:List String).contains "finals" =false:=eE
def t11:([]:List String).contains "reflectrows" =false:=eE
def t12:([]:List String).contains "leanrows" =false:=eE
def RQ(P:cU)(r:List (List Char))(h:behindMainWord (wordsSigns P.initOrder.toList)= "cut".toList::r):P.make=some .cut:=by unfold Program.make;rw[h];dsimp only;rw[t1,t2,t3,Bool.or_self,cS Bool.false_ne_true,Bool.true_or,cV rfl]
def FG(P:cU)(r:List (List Char))(h:behindMainWord (wordsSigns P.initOrder.toList)= "cut".toList::r)(a:P.laysLater=false)(b:P.bearsReflect=false)(c:P.doorFits []=true):P.mayEnter=true:=by unfold Program.mayEnter;rw[h];dsimp only;rw[t5,t1,t2,t4,a,b,c];dsimp only;rw[List.head?_cons,t9,t10,t11,t12];rfl
def BX(P:cU)(r:List (List Char))(h:behindMainWord (wordsSigns P.initOrder.toList)= "cut".toList::r):P.liftsFinal=false:=by unfold Program.liftsFinal Program.headLifts;rw[h];kernel_rfl
def DN:∃r,behindMainWord (wordsSigns Tryz.pinned.checked.prog.initOrder.toList)= "cut".toList::r:=by rw[RN];exact RP
def t6:Tryz.pinned.checked.prog.laysLater=false:=eE
def t7:Tryz.pinned.checked.prog.bearsReflect=false:=eE
def t8:Tryz.pinned.checked.prog.doorFits []=true:=eE
def RR:Tryz.pinned.checked.prog.mayEnter=true:=DN.elim λr h=>FG _ r h t6 t7 t8
def OA:Tryz.pinned.checked.prog.liftsFinal=false:=DN.elim λr h=>BX _ r h
def OB:Tryz.pinned.checked.prog.make=some .cut:=DN.elim λr h=>RQ _ r h
def lM(h:D=true)(k:E=true):(D&&E)=true:=by rw[h,k];rfl
def Tryz.own:ownKnob Tryz.prog.godebug=none:=eE
def Tryz.laidOut:laidOutB Tryz.prog=true:=eE
def Tryz.OC:Tryz.prog.cellsOf 3=1:=eE
def Tryz.yh:Tryz.prog.underlying 27=some (.slice 3):=eE
def Tryz.Md:Tryz.prog.underlying 3=some (.int .i64):=eE
def Tryz.Wr:Tryz.prog.underlying 4=some .bool:=eE
def Me{r:Reach}(b:P.underlying T=some (.slice U))(a:Value.okWide P w r m T (.slice (some h) k i)):h.spot=none/\∃x,w.shape? h.block=some x:=by simp only[Value.okWide,b,Cell.okWide,Cell.ok]at a;have⟨_,_,_,c,d,cells,e,_⟩:=a;exact⟨c,_,e⟩
def XS:(Rows.roundBeginsRow.lifted==false)=true:=eE
def RS:(Rows.roundBeginsRow.lifted==Tryz.pinned.checked.prog.liftsFinal)=true:=(dH (λx=>Rows.roundBeginsRow.lifted==x) OA).trans XS
def XT:(some Make.cut==some Rows.roundBeginsRow.make)=true:=eE
def RU:(Tryz.pinned.checked.prog.make==some Rows.roundBeginsRow.make)=true:=(dH (λx=>x==some Rows.roundBeginsRow.make) OB).trans XT
def IG:joinedFacts Tryz.pinned.checked.prog 13 Tryz.f13 Rows.roundBeginsSpec Rows.roundBeginsRow=true:=by unfold joinedFacts;exact(lM (lM (lM (lM (lM (lM (lM (lM (lM (lM (lM (lM (lM (lM (lM (lM (lM (lM (lM (lM (lM (lM (lM (lM (lM (lM (lM (lM (lM (lM (lM eE eE) eE) eE) eE) eE) eE) eE) eE) eE) eE) eE) eE) eE) eE) eE) eE) eE) eE) eE) eE) eE) eE) eE) eE) RR) RS) RU) eE) eE) eE) eE)
end Go.Proofs.YteeagjkaflglpaaGreat
namespace Go.Proofs.W
def kN(n:Nat):Code->Option Code
 | .region i o b=>if i=n then some (.region i o b)else none
 | .loop c=>kN n c
 | .seq a b=>(kN n a).or (kN n b)
 | .block _ c=>kN n c
 | .scope c=>kN n c
 | .cond _ a b=>(kN n a).or (kN n b)
 |_=>none
def opsOf:Code->Array Oper
 | .region _ a _=>a
 |_=>#[]
def gX(a:Func)(n:Nat):Code:=(a.body.bind (kN n)).getD .skip
end Go.Proofs.W
namespace Go.dA
structure dO where
 S:dZ->Bool
 dim:Bool
 ok:dZ->Code->Bool
 df:dZ->Bool
 fs:Array Func
 hole:dZ->Bool
 sh:Nat->Option Nat:=λ_=>none
 r:Nat->Nat->Prop
 nG:∀b c c',r b c->r b c'->c=c'
 pY:∀b b' c,r b c->r b' c->b=b'\/(sh b≠none/\sh b'≠none)
structure dO.Le(ρ Iz:dO):Prop where
 s:ρ.S=Iz.S
 d:ρ.dim=Iz.dim
 o:ρ.ok=Iz.ok
 f:ρ.fs=Iz.fs
 h:ρ.hole=Iz.hole
 w:ρ.df=Iz.df
 g:ρ.sh=Iz.sh
 r:∀b c,ρ.r b c->Iz.r b c
theorem dO.Le.refl(ρ:dO):dO.Le ρ ρ:=⟨rfl,rfl,rfl,rfl,rfl,rfl,rfl,λ_ _ h=>h⟩
theorem dO.Le.trans{a b c:dO}(h:dO.Le a b)(k:dO.Le b c):dO.Le a c:=⟨h.s.trans k.s,h.d.trans k.d,h.o.trans k.o,h.f.trans k.f,h.h.trans k.h,h.w.trans k.w,h.g.trans k.g,λx y z=>k.r _ _ (h.r x y z)⟩
def dO.ext(ρ:dO)(n m:Nat)(e:∀c,¬ρ.r n c)(f:∀b,¬ρ.r b m):dO where
 S:=ρ.S
 dim:=ρ.dim
 ok:=ρ.ok
 df:=ρ.df
 fs:=ρ.fs
 hole:=ρ.hole
 sh:=ρ.sh
 r:=λb c=>ρ.r b c\/(b=n/\c=m)
 nG:=by intro b c d h a;obtain h|h:=h;obtain a|a:=a;exact ρ.nG _ _ _ h a;grind;grind
 pY:=by intro b c d h a;obtain h|h:=h;obtain a|a:=a;exact ρ.pY _ _ _ h a;grind;grind
@[simp] def dO.XU (ρ:dO) (n m:Nat) (a:∀c,¬ρ.r n c) (d:∀b,¬ρ.r b m):(ρ.ext n m a d).fs=ρ.fs:=rfl
def dO.uX(ρ:dO)(n m:Nat)(a:∀c,¬ρ.r n c)(d:∀b,¬ρ.r b m):dO.Le ρ (ρ.ext n m a d):=⟨rfl,rfl,rfl,rfl,rfl,rfl,rfl,λ_ _ h=>.inl h⟩
def dO.tT(ρ:dO)(n m:Nat)(a:∀c,¬ρ.r n c)(d:∀b,¬ρ.r b m):(ρ.ext n m a d).r n m:=.inr ⟨rfl,rfl⟩
def dO.Def(ρ:dO):Prop:=∃f,ρ.df f=true
def dO.Def.mono{ρ a:dO}(b:dO.Le ρ a)(h:ρ.Def):a.Def:=by have⟨f,h⟩:=h;exact⟨f,b.w▸h⟩
def uJ(ρ:dO)(v:cK):Prop:=ρ.Def\/∀t k n,v≠ .iface t (.int k n)
theorem uJ.mono{ρ a:dO}(b:dO.Le ρ a)(h:uJ ρ x):uJ a x:=h.imp (.mono b) id
inductive AR (ρ:dO):Addr->Addr->Prop
 |mk {b c:Nat} (o:Nat) (s:Option Nat) (h:ρ.r b c):AR ρ ⟨b,o,s⟩ ⟨c,o+(ρ.sh b).getD 0,s⟩
inductive VR (ρ:dO):cK->cK->Prop
 |bool (b:Bool):VR ρ (.bool b) (.bool b)
 |int (k:IntKind) (n:Int):VR ρ (.int k n) (.int k n)
 |string (s:ByteArray):VR ρ (.string s) (.string s)
 |jI:VR ρ (.pointer none) (.pointer none)
 |ptr {a a':Addr} (h:AR ρ a a'):VR ρ (.pointer (some a)) (.pointer (some a'))
 |gD (l c:Nat):VR ρ (.slice none l c) (.slice none l c)
 |slice {a a':Addr} (l c:Nat) (h:AR ρ a a'):VR ρ (.slice (some a) l c) (.slice (some a') l c)
 |sN:VR ρ (.map none) (.map none)
 |map {r r':Nat} (h:ρ.r r r'):VR ρ (.map (some r)) (.map (some r'))
 |rq:VR ρ (.chan none) (.chan none)
 |chan {r r':Nat} (h:ρ.r r r'):VR ρ (.chan (some r)) (.chan (some r'))
 |func {f:dZ} {fs XV cs tU:Array cK} (hS:ρ.S f=true) (h1:fs.size=XV.size) (h2:∀(i:Nat) v v',fs[i]? =some v->XV[i]? =some v'->VR ρ v v')
  (h3:cs.size=tU.size) (h4:∀(i:Nat) v v',cs[i]? =some v->tU[i]? =some v'->VR ρ v v'):VR ρ (.func (.func f) fs cs) (.func (.func f) XV tU)
 |yield {l l':Nat} (h:ρ.r l l'):VR ρ (.func (.yield l) #[] #[]) (.func (.yield l') #[] #[])
 |nilFunc:VR ρ .nilFunc .nilFunc
 |nilIface:VR ρ .nilIface .nilIface
 |iface (t:cR) {v v':cK} (h:VR ρ v v'):VR ρ (.iface t v) (.iface t v')
 |agg {cs tU:Array cK} (h1:cs.size=tU.size) (h2:∀(i:Nat) v v',cs[i]? =some v->tU[i]? =some v'->VR ρ v v'):VR ρ (.agg cs) (.agg tU)
 |tuple {cs tU:Array cK} (h1:cs.size=tU.size) (h2:∀(i:Nat) v v',cs[i]? =some v->tU[i]? =some v'->VR ρ v v'):VR ρ (.tuple cs) (.tuple tU)
 |DO (hd:ρ.dim=true) (a:Addr):VR ρ (.tuple #[]) (.pointer (some a))
structure fX(ρ:dO)(cs tU:Array cK):Prop where
 size:cs.size=tU.size
 at_:∀(i:Nat) v v',cs[i]? =some v->tU[i]? =some v'->VR ρ v v'
inductive sf (ρ:dO):List cK->List cK->Prop
 |nil:sf ρ [] []
 |cons {v v':cK} {l l':List cK} (h:VR ρ v v') (t:sf ρ l l'):sf ρ (v::l) (v'::l')
theorem sf.length{ρ:dO}(h:sf ρ M Y):M.length=Y.length:=by
 induction h with
 |nil=>rfl
 |cons _ _ a=>grind
def sf.get{ρ:dO}(h:sf ρ M Y):∀(i:Nat) v a,M[i]? =some v->Y[i]? =some a->VR ρ v a:=by
 induction h with
 |nil=>grind
 |cons h t b=>
  grind
theorem sf.of{ρ:dO}:∀{l a:dP},l.length=a.length->(∀(i:Nat) v b,l[i]? =some v->a[i]? =some b->VR ρ v b)->sf ρ l a
 |[],[],_,_=>.nil
 |[],_::_,h,_=>cL
 |_::_,[],h,_=>cL
 |v::l,b::a,h,k=>.cons (k 0 v b rfl rfl) (sf.of cL λi x c d e=>k (i+1) x c cL cL)
def fX.list{ρ:dO}(h:fX ρ W X):sf ρ W.toList X.toList:=
 sf.of (fB h.size) λi v a b c=>h.at_ i v a cL cL
def sf.array{ρ:dO}(h:sf ρ M Y):fX ρ M.toArray Y.toArray:=
 ⟨fB h.length,λi v a b c=>h.get i v a cL cL⟩
def fX.mj{ρ:dO}(h:sf ρ W.toList X.toList):fX ρ W X:=by have:=h.array;omega
def sf.append{ρ:dO}{b a:dP}(h:sf ρ M Y)(k:sf ρ b a):sf ρ (M++b) (Y++a):=by
 induction h with
 |nil=>grind
 |cons h _ c=>exact .cons h c
theorem sf.drop{ρ:dO}(h:sf ρ M Y)(n:Nat):sf ρ (M.drop n) (Y.drop n):=by
 induction h generalizing n with
 |nil=>simp;exact .nil
 |cons h t a=>
  cases n with
  |zero=>simpa using sf.cons h t
  |succ n=>grind
theorem sf.take{ρ:dO}(h:sf ρ M Y)(n:Nat):sf ρ (M.take n) (Y.take n):=by
 induction h generalizing n with
 |nil=>simp;exact .nil
 |cons h t a=>
  cases n with
  |zero=>simp;exact .nil
  |succ n=>simpa using sf.cons h (a n)
def VR.mono{ρ f:dO}(e:dO.Le ρ f)(h:VR ρ x y):VR f x y:=by
 have m:∀{a p},AR ρ a p->AR f a p:=λh=>by cases h with|mk o s h=>rw[e.g];exact .mk o s (e.r _ _ h)
 induction h with
 |bool b=>exact .bool b
 |int k n=>exact .int k n
 |string s=>exact .string s
 |jI=>exact .jI
 |ptr h=>exact .ptr (m h)
 |gD l c=>exact .gD l c
 |slice l c h=>exact .slice l c (m h)
 |sN=>exact .sN
 |map h=>exact .map (e.r _ _ h)
 |rq=>exact .rq
 |chan h=>exact .chan (e.r _ _ h)
 |func q i _ u _ j v=>exact .func (e.s▸q) i j u v
 |yield h=>exact .yield (e.r _ _ h)
 |nilFunc=>exact .nilFunc
 |nilIface=>exact .nilIface
 |iface t _ w=>exact .iface t w
 |agg i _ j=>exact .agg i j
 |tuple i _ j=>exact .tuple i j
 |DO z a=>exact .DO (e.d▸z) a
theorem fX.mono{ρ c:dO}(d:dO.Le ρ c)(h:fX ρ W X):fX c W X:=⟨h.size,λi x e a b=>(h.at_ i x e a b).mono d⟩
theorem sf.mono{ρ a:dO}(b:dO.Le ρ a)(h:sf ρ M Y):sf a M Y:=by
 induction h with
 |nil=>exact .nil
 |cons h _ c=>exact .cons (h.mono b) c
def AR.mono{ρ a:dO}(b:dO.Le ρ a){d:Addr}(c:AR ρ h d):AR a h d:=by cases c with|mk o s c=>rw[b.g];exact .mk o s (b.r _ _ c)
section
variable{ρ:dO}
theorem AR.add{a b:Addr}(h:AR ρ a b)(n:Nat):AR ρ (a.add n) (b.add n):=by
 cases h with
 |mk o s h=>
  unfold Addr.add;split;exact .mk o s h;have:=AR.mk (ρ:=ρ) (o+n) none h;grind
theorem AR.of(o:Nat)(s:Option Nat)(h:ρ.r m k)(a:ρ.sh m=none):AR ρ ⟨m,o,s⟩ ⟨k,o,s⟩:=by have:=AR.mk (ρ:=ρ) o s h;grind
theorem VR.undef:VR ρ undef undef:=.tuple rfl (λi v a h=>cL)
def fX.nil:fX ρ #[] #[]:=⟨rfl,λi v a h=>cL⟩
def fX.one(h:VR ρ x y):fX ρ #[x] #[y]:=fX.mj (.cons h .nil)
def fX.OD{a:cK}(h:VR ρ x y)(k:VR ρ z a):fX ρ #[x,z] #[y,a]:=fX.mj (.cons h (.cons k .nil))
theorem fX.push(h:fX ρ W X)(k:VR ρ x y):fX ρ (W.push x) (X.push y):=
 fX.mj (fB (h.list.append (.cons k .nil)))
theorem fX.append{b a:eH}(h:fX ρ W X)(k:fX ρ b a):fX ρ (W++b) (X++a):=
 fX.mj (fB (h.list.append k.list))
theorem fX.get?(h:fX ρ W X)(i:Nat):(W[i]? =none/\X[i]? =none)\/∃v c,W[i]? =some v/\X[i]? =some c/\VR ρ v c:=by by_cases b:i<W.size;have a:i<X.size:=h.size▸b;exact .inr ⟨W[i],X[i],nh b,nh a,h.at_ i _ _ (nh b) (nh a)⟩;have a:¬i<X.size:=h.size▸b;grind
theorem fX.getD(h:fX ρ W X)(k:VR ρ x y)(i:Nat):VR ρ (W.getD i x) (X.getD i y):=by have e:∀(a:eH) (x:cK),a.getD i x=(a[i]?).getD x:=λa x=>dq;rw[e,e];obtain⟨a,b⟩|⟨v,d,a,b,c⟩:=h.get? i;grind;grind
def fX.set(h:fX ρ W X)(i:Nat)(k:VR ρ x y):fX ρ (W.setIfInBounds i x) (X.setIfInBounds i y):=by refine⟨fB h.size,λj d e a b=>?_⟩;rw[Array.getElem?_setIfInBounds]at a b;by_cases c:i=j;grind;rw[cS c]at a b;exact h.at_ j d e a b
theorem fX.replicate(n:Nat)(k:VR ρ x y):fX ρ (Array.replicate n x) (Array.replicate n y):=by refine⟨dq,λj a b c d=>?_⟩;grind
theorem fX.extract(h:fX ρ W X)(a b:Nat):fX ρ (W.extract a b) (X.extract a b):=by refine⟨by simp[h.size],λj x e c d=>?_⟩;rw[Array.getElem?_extract]at c d;split at c;split at d;exact h.at_ _ _ _ c d;grind;grind
theorem fX.map{b:Type}(f c:b->cK)(a:Array b)(h:∀x∈a,VR ρ (f x) (c x)):fX ρ (a.map f) (a.map c):=by refine⟨dq,λj x d e g=>?_⟩;grind
theorem VR.cells{v a:cK}(h:VR ρ v a):fX ρ v.cells a.cells:=by
 cases h<;>first
  |exact fX.one (by first|exact .bool _|exact .int _ _|exact .string _|exact .jI|exact .ptr ‹_›|exact .gD _ _|exact .slice _ _ ‹_›|exact .sN|exact .map ‹_›|exact .rq|exact .chan ‹_›|exact .func ‹_› ‹_› ‹_› ‹_› ‹_›|exact .yield ‹_›|exact .nilFunc|exact .nilIface|exact .iface _ ‹_›|exact .tuple ‹_› ‹_›|exact .DO ‹_› _)
  |exact⟨‹_›,‹_›⟩
theorem fX.agg{b a:eH}(h:fX ρ b a):VR ρ (.agg b) (.agg a):=.agg h.size h.at_
def fX.YN(h:fX ρ W X):VR ρ (.tuple W) (.tuple X):=.tuple h.size h.at_
end
end Go.dA
variable{R:Go.dA.dO}
namespace Go.dA
structure uY(ρ:dO)(e e':MapEntry):Prop where
 key:VR ρ e.key e'.key
 val:VR ρ e.val e'.val
 born:e.born=e'.born
structure FH(ρ:dO)(l l':Loop):Prop where
 state:l.state=l'.state
 pending:l.pending=l'.pending
 fn:l.fn=l'.fn
 tmps:fX ρ l.tmps l'.tmps
 params:l.params=l'.params
 assign:l.assign=l'.assign
 body:l.body=l'.body
 defers:ρ.r l.defers l'.defers
 fnS:ρ.S l.fn=true
 okA:ρ.ok l.fn l.assign=true
 okB:ρ.ok l.fn l.body=true
 okP:∀c,l.pending=some c->∀f,ρ.ok f c=true
 hd:ρ.df l.fn=false
 fnH:ρ.hole l.fn=false
def FI(b:Nat×Nat)(a:Nat):Prop:=b.1<=a/\a<b.2
inductive kO (ρ:dO):Obj->Obj->Prop
 |cells {cs tU:Array cK} {t:cR} {fz Xz:Nat×Nat} (h:fX ρ cs tU) (hf:∀off,FI Xz off->FI fz off):kO ρ (.cells cs t fz) (.cells tU t Xz)
 |map {es XW:Array MapEntry} {c:Nat} (h1:es.size=XW.size) (h2:∀(i:Nat) e e',es[i]? =some e->XW[i]? =some e'->uY ρ e e'):kO ρ (.map es c) (.map XW c)
 |loop {l l':Loop} (h:FH ρ l l'):kO ρ (.loop l) (.loop l')
 |vS:kO ρ (.deferred (some [])) (.deferred (some []))
 |taken:kO ρ (.deferred none) (.deferred none)
 |number {a a':Addr} (l:Bool) (h:AR ρ a a'):kO ρ (.number a l) (.number a' l)
theorem uY.mono{a:dO}(b:dO.Le R a){e c:MapEntry}(h:uY R e c):uY a e c:=⟨h.key.mono b,h.val.mono b,h.born⟩
theorem FH.mono{b:dO}(a:dO.Le R b){e c:Loop}(h:FH R e c):FH b e c:=
 ⟨h.state,h.pending,h.fn,h.tmps.mono a,h.params,h.assign,h.body,a.r _ _ h.defers,a.s▸h.fnS,a.o▸h.okA,a.o▸h.okB,a.o▸h.okP,a.w▸h.hd,a.h▸h.fnH⟩
theorem kO.mono{d:dO}(c:dO.Le R d)(h:kO R O Q):kO d O Q:=by
 cases h with
 |cells h f=>exact .cells (h.mono c) f
 |map g j=>exact .map g λi e k a b=>(j i e k a b).mono c
 |loop h=>exact .loop (h.mono c)
 |vS=>exact .vS
 |taken=>exact .taken
 |number l h=>exact .number l (h.mono c)
def uZ:cR:=1000000007
structure Ws(ρ:dO)(n:Nat)(o o':Obj):Prop where
 out:∃cs fz tU t' Xz,o=.cells cs uZ fz/\o'=.cells tU t' Xz/\(∀off,off<cs.size->FI fz off)/\∀(i:Nat) x,cs[i]? =some x->∃x',tU[i+n]? =some x'/\VR ρ x x'
def Kx(a:dO)(m:Option Nat)(o b:Obj):Prop:=(m=none/\kO a o b)\/∃n,m=some n/\Ws a n o b
theorem Ws.mono{a:dO}(b:dO.Le R a)(h:Ws R m O Q):Ws a m O Q:=by have⟨e,f,c,g,d,j,k,l,n⟩:=h.out;exact⟨e,f,c,g,d,j,k,l,λi x o=>by have⟨p,q,r⟩:=n i x o;exact⟨p,q,r.mono b⟩⟩
theorem Kx.mono{a:dO}(b:dO.Le R a){n:Option Nat}(h:Kx R n O Q):Kx a n O Q:=h.imp (λx=>⟨x.1,x.2.mono b⟩) λ⟨n,e,x⟩=>⟨n,e,x.mono b⟩
structure HR(ρ:dO)(v u:cJ):Prop where
 obj:∀b c,ρ.r b c->∃o o',v.heap[b]? =some o/\u.heap[c]? =some o'/\Kx ρ (ρ.sh b) o o'
 low:∀b,v.heap.size<=b->ρ.sh b=none
theorem HR.of(d:∀c,R.sh c=none)(h:∀b c,R.r b c->∃o a,w.heap[b]? =some o/\t.heap[c]? =some a/\kO R o a):HR R w t:=⟨λb c e=>by have⟨o,a,f,g,i⟩:=h b c e;exact⟨o,a,f,g,.inl ⟨d b,i⟩⟩,cL⟩
structure WR(ρ:dO)(v u:cJ):Prop where
 obj:∀b c,ρ.r b c->∃o o',v.heap[b]? =some o/\u.heap[c]? =some o'/\Kx ρ (ρ.sh b) o o'
 low:∀b,v.heap.size<=b->ρ.sh b=none
 tape:∀j q,v.tape (v.drawn+j) q=u.tape (u.drawn+j) q
def WR.hr(h:WR R w t):HR R w t:=⟨h.obj,h.low⟩
def lt_of_heap(h:w.heap[m]? =some O):m<w.heap.size:=cL
def yW(v:cJ)(b:Nat):Prop:=∃c t d,v.heap[b]? =some (.cells c t d)/\∀a,a<c.size->FI d a
def XX(d:dO)(v:cJ)(n m:Nat)(e:Event):Prop:=
 (∃a c b,e=⟨.cell a,c,false⟩/\d.r b a.block/\(∃f t g,v.heap[b]? =some (.cells f t g)/\f≠#[])/\(c=true->¬yW v b))\/
 (∃r c b,e=⟨.obj r,c,false⟩/\d.r b r/\¬yW v b)\/(∃a c,e=⟨.cell a,c,false⟩/\n<=a.block/\a.block<m)\/(∃r c,e=⟨.obj r,c,false⟩/\n<=r/\r<m)\/
 e=⟨.mark .noRoom,false,true⟩
structure fM(ρ Iz:dO)(v u v' u':cJ)(es:Array Event):Prop where
 le:dO.Le ρ Iz
 rel:WR Iz v' u'
 vsize:v.heap.size<=v'.heap.size
 usize:u.heap.size<=u'.heap.size
 fresh:∀b c,Iz.r b c->ρ.r b c\/(v.heap.size<=b/\u.heap.size<=c)
 same:∀c,c<u.heap.size->(∀b,ρ.r b c->yW v b)->u'.heap[c]? =u.heap[c]?
 vT:∀b,yW v b->v'.heap[b]? =v.heap[b]?
 warm:∀b,b<v.heap.size->yW v' b->yW v b
 rows:∀b,b<v.heap.size->(∃cs t fz,v'.heap[b]? =some (.cells cs t fz)/\cs≠#[])->∃cs t fz,v.heap[b]? =some (.cells cs t fz)/\cs≠#[]
 tape:u'.tape=u.tape
 os:u'.os=u.os
 output:u'.output=u.output
 vtape:v'.tape=v.tape
 evs:∀e∈es,XX ρ v u.heap.size u'.heap.size e
def yW.keep(h:yW w m)(k:t.heap[m]? =w.heap[m]?):yW t m:=by grind [yW]
def yW.lt(h:yW w m):m<w.heap.size:=by have⟨_,_,_,h,_⟩:=h;grind
theorem fM.refl(h:WR R w t):fM R R w t w t #[]:=
 ⟨.refl _,h,di _,di _,cL,cL,cL,cL,cL,rfl,rfl,rfl,rfl,cL⟩
theorem fM.trans{i l:dO}{F s n:cJ}{G u:Array Event}(K:WR R w t)(h:fM R i w t e F G)(k:fM i l e F s n u):fM R l w t s n (G++u):=by
 have C:∀b c,i.r b c->c<t.heap.size->R.r b c:=λb c d v=>(h.fresh b c d).elim id cL;have H:∀b c,i.r b c->b<w.heap.size->R.r b c:=λb c d v=>(h.fresh b c d).elim id cL
 refine⟨h.le.trans k.le,k.rel,du h.vsize k.vsize,du h.usize k.usize,λb c d=>?_,λc v g=>?_,λb m=>?_,λb m g=>?_,λb m L=>h.rows b m (k.rows b (ew m h.vsize) L),k.tape.trans h.tape,k.os.trans h.os,k.output.trans h.output,
  k.vtape.trans h.vtape,λI y=>?_⟩
 obtain j|⟨j,B⟩:=k.fresh b c d;grind;exact .inr ⟨du h.vsize j,du h.usize B⟩;rw[k.same c (ew v h.usize) λb d=>?_,h.same c v g];have z:=g b (C b c d v);exact z.keep (h.vT b z);have:=h.vT b m;rw[k.vT b (m.keep this),this];exact h.warm b m (k.warm b (ew m h.vsize) g);obtain y|y:=FC.1 y;obtain⟨a,f,b,rfl,d,D,g⟩|⟨r,f,b,rfl,d,g⟩|⟨a,f,rfl,p,q⟩|⟨r,f,rfl,p,q⟩|rfl:=h.evs I y;exact .inl ⟨a,f,b,rfl,d,D,g⟩;exact .inr (.inl ⟨r,f,b,rfl,d,g⟩);exact .inr (.inr (.inl ⟨a,f,rfl,p,ew q k.usize⟩));exact .inr (.inr (.inr (.inl ⟨r,f,rfl,p,ew q k.usize⟩)));exact .inr (.inr (.inr (.inr rfl)));have A:∀b,¬yW e b->¬yW w b:=λb E g=>E (g.keep (h.vT b g))
 have split:∀b c,i.r b c->(R.r b c/\b<w.heap.size)\/(t.heap.size<=c/\c<n.heap.size):=λb c d=>(h.fresh b c d).elim (λx=>.inl ⟨x,by
  have⟨o,_,J,_⟩:=K.obj b c x;grind⟩) λx=>.inr ⟨x.2,by
  have⟨_,o,_,J,_⟩:=h.rel.obj b c d;exact ew (lt_of_heap J) k.usize⟩
 obtain⟨a,f,b,rfl,d,D,g⟩|⟨r,f,b,rfl,d,g⟩|⟨a,f,rfl,p,q⟩|⟨r,f,rfl,p,q⟩|rfl:=k.evs I y;obtain⟨j,B⟩|j:=split _ _ d;exact .inl ⟨a,f,b,rfl,j,h.rows b B D,cL⟩;exact .inr (.inr (.inl ⟨a,f,rfl,j⟩));obtain⟨j,B⟩|j:=split _ _ d;exact .inr (.inl ⟨r,f,b,rfl,j,A b g⟩);exact .inr (.inr (.inr (.inl ⟨r,f,rfl,j⟩)));exact .inr (.inr (.inl ⟨a,f,rfl,du h.usize p,q⟩));exact .inr (.inr (.inr (.inl ⟨r,f,rfl,du h.usize p,q⟩)));exact .inr (.inr (.inr (.inr rfl)))
abbrev _root_.Go.Program.jj(P:cU)(a:Array Func):cU:={toTables:=P.toTables,funcs:=a}
def _root_.Go.Halt.dead:Halt->Bool
 | .stuck _=>true
 | .unsupported (.initOrder _)=>false
 | .unsupported _=>true
 |_=>false
inductive SR (P:cU) {α β:Type} (A:dO->α->β->Prop):dO->Sem α->Sem β->Prop
 |pure {ρ:dO} {a:α} {b:β} (h:A ρ a b):SR P A ρ (.pure a) (.pure b)
 |load {ρ:dO} {a a':Addr} {k:cK->Sem α} {k':cK->Sem β} (ha:AR ρ a a') (h:∀v v',VR ρ v v'->SR P A ρ (k v) (k' v')):SR P A ρ (.load .plain a k) (.load .plain a' k')
 |store {ρ:dO} {a a':Addr} {v v':cK} {k:Sem α} {k':Sem β} (ha:AR ρ a a') (hv:VR ρ v v') (h:SR P A ρ k k'):SR P A ρ (.store .plain a v k) (.store .plain a' v' k')
 |new {ρ:dO} {o o':Obj} {k:Nat->Sem α} {k':Nat->Sem β} (ho:kO ρ o o') (h:∀n n' hn hm,ρ.sh n=none->SR P A (ρ.ext n n' hn hm) (k n) (k' n')):SR P A ρ (.new o k) (.new o' k')
 |getObj {ρ:dO} {r r':Nat} {k:Obj->Sem α} {k':Obj->Sem β} (hr:ρ.r r r') (h:∀o o',kO ρ o o'->(∀cs t fz,o≠ .cells cs t fz)->SR P A ρ (k o) (k' o')):
  SR P A ρ (.getObj r k) (.getObj r' k')
 |setObj {ρ:dO} {r r':Nat} {o o':Obj} {k:Sem α} {k':Sem β} (hr:ρ.r r r') (ho:kO ρ o o') (hc:∀cs t fz,o≠ .cells cs t fz) (h:SR P A ρ k k'):SR P A ρ (.setObj r o k) (.setObj r' o' k')
 |shape {ρ:dO} {r r':Nat} {k:Option (cR×Nat)->Sem α} {k':Option (cR×Nat)->Sem β} (hr:ρ.r r r') (h:ρ.sh r=none->∀x,SR P A ρ (k x) (k' x)) (hb:ρ.sh r≠none->∀m y,SR P A ρ (k (some (uZ,m))) (k' (some y))):SR P A ρ (.shape r k) (.shape r' k')
 |choose {ρ:dO} {q:Question} {k:Nat->Sem α} {k':Nat->Sem β} (h:∀n,SR P A ρ (k n) (k' n)):SR P A ρ (.choose q k) (.choose q k')
 |program {ρ:dO} {k:cU->Sem α} {k':cU->Sem β} (h:SR P A ρ (k P) (k' (P.jj ρ.fs))):SR P A ρ (.program k) (.program k')
 |noRoom {ρ:dO} {k:Sem α} {k':Sem β} (h:SR P A ρ k k'):SR P A ρ (.mark .noRoom k) (.mark .noRoom k')
 |panic {ρ:dO} {v v':cK} (h:VR ρ v v') (hp:uJ ρ v):SR P A ρ (.halt (.panic v)) (.halt (.panic v'))
 |dead {ρ:dO} {h:Halt} {s:Sem β} (hd:Halt.dead h=true):SR P A ρ (.halt h) s
 |never {ρ:dO} {s:Sem α} {s':Sem β} (h:∀w,∃hh w',s.run P w=.halt hh w'/\Halt.dead hh=true):SR P A ρ s s'
theorem SR.bind{P:cU}{i j r t:Type}{A:dO->i->j->Prop}{B:dO->r->t->Prop}{ρ:dO}{s:Sem i}{l:Sem j}{f:i->Sem r}{u:j->Sem t}(h:SR P A ρ s l) (k:∀d a b,dO.Le ρ d->A d a b->SR P B d (f a) (u b)):SR P B ρ (s.bind f) (l.bind u):=by
 induction h with
 |pure h=>exact k _ _ _ (.refl _) h
 |load m _ c=>exact .load m cL
 |store m y _ c=>exact .store m y (c k)
 |new o _ c=>exact .new o λn z v x C=>c n z v x C λd a b p=>k d a b ((dO.uX _ _ _ v x).trans p)
 |getObj g _ c=>exact .getObj g cL
 |setObj g o D _ c=>exact .setObj g o D (c k)
 |shape g _ _ c H=>exact .shape g cL cL
 |choose _ c=>exact .choose cL
 |program _ c=>exact .program (c k)
 |noRoom _ c=>exact .noRoom (c k)
 |panic h E=>exact .panic h E
 |dead q=>exact .dead q
 | @never ρ s l h=>
  refine .never λw=>?_;have⟨F,G,e,q⟩:=h w;exact⟨F,G,by rw[Sem.run_bind',e];rfl,q⟩
def ml{α i:Type}(A:dO->α->i->Prop)(ρ:dO)(v u:cJ)(r:Result α×Array Event)(j:Result i×Array Event)(e:Array Event):Prop:=
 match r.1 with
 | .ok a g=>∃b f c d,j=(.ok b f,e++d)/\A c a b/\fM ρ c v u g f d
 | .halt (.panic x) g=>∃k f c d,j=(.halt (.panic k) f,e++d)/\(VR c x k/\uJ c x)/\fM ρ c v u g f d
 | .halt h _=>h.dead=true
theorem ml.dead{α b:Type}{A:dO->α->b->Prop}{ρ:dO}{v u w:cJ}{h:Halt}(c:h.dead=true){d:Array Event}{e:Result b×Array Event}{a:Array Event}:ml (α:=α) A ρ v u (.halt h w,d) e a:=by unfold ml;cases h<;>first|exact c|cases c
theorem ml.step{l n:Type}{A:dO->l->n->Prop}{ρ f:dO}{v u o p:cJ}{r:Result l×Array Event}{q:Result n×Array Event}{e1 g:Array Event}(s:WR ρ v u) (m:fM ρ f v u o p e1)(h:ml A f o p r q (g++e1)):ml A ρ v u r q g:=by unfold ml at*;split;rename_i a w c;rw[c]at h;have⟨b,i,d,e,t,j,k⟩:=h;exact⟨b,i,d,e1++e,cL,j,m.trans s k⟩;rename_i x w c;rw[c]at h;have⟨b,i,d,e,t,j,k⟩:=h;exact⟨b,i,d,e1++e,cL,j,m.trans s k⟩;grind
section
variable{ρ:dO}{v u:cJ}
def vU{a:Addr}{at_:Bool}(b:∀x y,v.heap[a.block]?≠some (.view x y))(c:∀x y,v.heap[a.block]?≠some (.pending x y)):∃h,v.farLoad P a at_=.error h/\h.dead=true:=by unfold World.farLoad;split;grind;refine⟨_,rfl,?_⟩;unfold World.noCell;split;grind;rfl;rfl
def uK{a:Addr}{at_:Bool}(b:∀x y,v.heap[a.block]?≠some (.view x y))(c:∀x y,v.heap[a.block]?≠some (.pending x y)):∃h,v.farStore P a x at_=.error h/\h.dead=true:=by unfold World.farStore;split;grind;refine⟨_,rfl,?_⟩;unfold World.noCell;split;grind;rfl;rfl
def WR.noView(h:WR ρ v u)(c:ρ.r m k):∀x y,v.heap[m]?≠some (.view x y):=by intro x y d;have⟨o,f,b,_,a⟩:=h.obj m k c;rw[d]at b;cases b;obtain⟨_,a⟩|⟨_,_,_,_,_,_,_,e,_⟩:=a;cases a;grind
def WR.noPending(h:WR ρ v u)(c:ρ.r m k):∀x y,v.heap[m]?≠some (.pending x y):=by intro x y d;have⟨o,f,b,_,a⟩:=h.obj m k c;rw[d]at b;cases b;obtain⟨_,a⟩|⟨_,_,_,_,_,_,_,e,_⟩:=a;cases a;grind
def WR.cell(j:WR ρ v u){e:Addr}(k:AR ρ h e)(a:v.cell? h=some x):∃f,u.cell? e=some f/\VR ρ x f:=by
 cases k with
 | @mk b c o s l=>
  have⟨A,m,p,g,d⟩:=j.obj b c l;simp only[World.cell?,p]at a;obtain⟨q,d⟩|⟨n,B,C,D,r,E,t,rfl,rfl,w,i⟩:=d;case inr=>
   simp only[World.cell?,g];grind
  rw[q,Option.getD_none,pB];cases d with
  |cells i F=>
   simp only[World.cell?,g];cases s with
   |some s=>grind
   |none=>
    simp only[wZ,iR,fq]at a⊢;obtain⟨z,_⟩|⟨y,G,z,H,I⟩:=i.get? o;grind;grind
  |_=>cases a
def WR.shape(h:WR ρ v u){r a:Nat}(c:ρ.r r a):(ρ.sh r=none/\v.shape? r=u.shape? a)\/ρ.sh r≠none/\∃m y,v.shape? r=some (uZ,m)/\u.shape? a=some y:=by
 have⟨o,k,d,e,b⟩:=h.obj r a c;simp only[World.shape?,d,e];obtain⟨f,b⟩|⟨n,l,p,q,g,s,i,rfl,rfl,j,t⟩:=b;refine .inl ⟨f,?_⟩;cases b with
 |cells h _=>simp[h.size]
 |_=>rfl
 grind
def WR.draw(h:WR ρ v u):WR ρ {v with drawn:=v.drawn+1} {u with drawn:=u.drawn+1}:=
 ⟨h.obj,h.low,λj q=>by have:=h.tape (1+j) q;grind⟩
theorem fM.draw(h:WR ρ v u):fM ρ ρ v u {v with drawn:=v.drawn+1} {u with drawn:=u.drawn+1} #[]:=
 ⟨.refl _,h.draw,di _,di _,cL,cL,cL,λ_ _ h=>h,cL,rfl,rfl,rfl,rfl,cL⟩
def fM.U4{a:dO}{c b:cJ}{d:Array Event}(m:fM ρ a v u c b #[])(h:∀e∈d,XX ρ v u.heap.size b.heap.size e):fM ρ a v u c b d:=
 ⟨m.le,m.rel,m.vsize,m.usize,m.fresh,m.same,m.vT,m.warm,m.rows,m.tape,m.os,m.output,m.vtape,h⟩
theorem heap_setCell(w:cJ)(a:Addr)(x:cK)(b:Nat):(w.setCell a x).heap[b]? =if b=a.block then(w.heap[b]?).map (λ
 | .cells c e d=>.cells (if a.spot.isSome then c else c.setIfInBounds a.off x) e d
 |o=>o)else w.heap[b]? :=by
 simp only[World.setCell,nL];grind
def fM.store(h:WR ρ v u){a z:Addr}(Q:AR ρ a z){x A y:cK}(R:VR ρ x A)(p:v.cell? a=some y)(B:v.frozen? a=false):u.frozen? z=false/\fM ρ ρ v u (v.setCell a x) (u.setCell z A) #[⟨.cell z,true,false⟩]:=by
 cases Q with
 | @mk b c o s C=>
  have⟨Z,S,D,T,G⟩:=h.obj b c C;simp only[World.cell?,D]at p;obtain⟨H,G⟩|⟨n,hn,E,F,r,t',k,rfl,rfl,I,L⟩:=G;case inr=>
   exfalso;cases s with
   |some s=>grind
   |none=>
    simp only[wZ,iR,fq]at p;have d:=I o (iS.1 p).1;simp only[World.frozen?,D]at B;simp[d.1,d.2]at B
  rw[H,Option.getD_none,pB];cases G with
  | @cells E r t F k L M=>
   cases s with
   |some s=>grind
   |none=>
    simp only[wZ,iR,fq]at p;have U:o<E.size:=(iS.1 p).1;have J:¬FI F o:=by intro d;simp only[World.frozen?,D]at B;simp[d.1,d.2]at B
    have N:¬FI k o:=λd=>J (M o d);have l:¬yW v b:=by rintro⟨_,_,_,e,f⟩;grind
    have O:∀g,(v.setCell (dt b o) x).heap[g]? =if g=b then some (.cells (E.setIfInBounds o x) t F)else v.heap[g]? :=by grind [heap_setCell]
    have V:∀i,(u.setCell (dt c o) A).heap[i]? =if i=c then some (.cells (r.setIfInBounds o A) t k)else u.heap[i]? :=by grind [heap_setCell]
    refine⟨?_,.refl _,⟨λg i m=>?_,λi K=>h.low i (by simpa[World.setCell]using K),h.tape⟩,by simp[World.setCell],by simp[World.setCell],λ_ _ h=>.inl h,λi _ hi=>?_,λg j=>?_,λg _ j=>?_,λg _ j=>?_,rfl,rfl,rfl,rfl,?_⟩;simp only[World.frozen?,T];grind [FI];rw[O,V];by_cases q:g=b;subst q;obtain rfl:=ρ.nG _ _ _ C m;rw[cV rfl,cV rfl];exact⟨_,_,rfl,rfl,.inl ⟨H,.cells (L.set o R) M⟩⟩;have w:i≠c:=λe=>(ρ.pY _ _ _ m (e▸C)).elim q λx=>x.2 H;rw[cS q,cS w];exact h.obj g i m;grind;grind;by_cases q:g=b;subst q;have⟨_,_,_,e,f⟩:=j;grind;have⟨W,X,Y,e,f⟩:=j;rw[O,cS q]at e;exact⟨W,X,Y,e,f⟩;grind;intro e P;simp at P;subst P;exact .inl ⟨(dt c o),true,b,rfl,C,⟨E,t,F,D,λe=>cL⟩,λ_=>l⟩
  |_=>cases p
def tV(w:cJ)(o:Obj)(b:Nat):({w with heap:=w.heap.push o}:cJ).heap[b]? =if b=w.heap.size then some o else w.heap[b]? :=by grind
def WR.XY(h:WR ρ v u)(a:ρ.r m k):m<v.heap.size:=let⟨_,_,b,_,_⟩:=h.obj m k a;lt_of_heap b
def WR.V8(h:WR ρ v u)(a:ρ.r m k):k<u.heap.size:=let⟨_,_,_,b,_⟩:=h.obj m k a;lt_of_heap b
def WR.U5(h:WR ρ v u):∀c,¬ρ.r v.heap.size c:=λ_ a=>Nat.lt_irrefl _ (h.XY a)
def WR.U6(h:WR ρ v u):∀b,¬ρ.r b u.heap.size:=λ_ a=>Nat.lt_irrefl _ (h.V8 a)
def fM.new(h:WR ρ v u){o g:Obj}(j:kO ρ o g):fM ρ (ρ.ext v.heap.size u.heap.size h.U5 h.U6) v u {v with heap:=v.heap.push o} {u with heap:=u.heap.push g} #[]:=by refine⟨dO.uX _ _ _ _ _,⟨λb c a=>?_,λc k=>h.low c cL,h.tape⟩,dq,dq,λb c a=>?_,λc k _=>?_,λb f=>?_,λb f i=>?_,λb f i=>?_,rfl,rfl,rfl,rfl,λe t=>cL⟩;rw[tV,tV];obtain a|⟨rfl,rfl⟩:=a;rw[cS (Nat.ne_of_lt (h.XY a)),cS (Nat.ne_of_lt (h.V8 a))];have⟨x,l,m,n,p⟩:=h.obj b c a;exact⟨x,l,m,n,p.mono (dO.uX _ _ _ _ _)⟩;rw[cV rfl,cV rfl];exact⟨_,_,rfl,rfl,.inl ⟨h.low _ (di _),j.mono (dO.uX _ _ _ _ _)⟩⟩;obtain a|⟨rfl,rfl⟩:=a;grind;simp;grind;rw[tV,cS (Nat.ne_of_lt f.lt)];have⟨q,r,s,e,d⟩:=i;rw[tV,cS (Nat.ne_of_lt f)]at e;exact⟨q,r,s,e,d⟩;grind
def heap_set(w:cJ)(r:Nat)(o:Obj)(b:Nat):({w with heap:=w.heap.setIfInBounds r o}:cJ).heap[b]? =if b=r/\r<w.heap.size then some o else w.heap[b]? :=by grind
def fM.setObj(h:WR ρ v u){r f:Nat}(g:ρ.r r f){o s x:Obj}(B:kO ρ o s)(J:v.heap[r]? =some x)(C:∀m t n,x≠ .cells m t n)(D:∀m t n,o≠ .cells m t n):fM ρ ρ v u {v with heap:=v.heap.setIfInBounds r o} {u with heap:=u.heap.setIfInBounds f s} #[⟨.obj f,true,false⟩]:=by
 have E:=h.XY g;have F:=h.V8 g;have a:¬yW v r:=by rintro⟨m,t,n,e,_⟩;grind
 have q:ρ.sh r=none:=by have⟨K,G,L,_,H⟩:=h.obj r f g;obtain⟨q,_⟩|⟨_,_,_,_,_,_,_,rfl,_⟩:=H;omega;grind
 refine⟨.refl _,⟨λb c d=>?_,λc I=>h.low c cL,h.tape⟩,dq,dq,λ_ _ h=>.inl h,λc I p=>?_,λb i=>?_,λb i p=>?_,λb i p=>?_,rfl,rfl,rfl,rfl,λe w=>?_⟩;rw[heap_set,heap_set];by_cases i:b=r;subst i;obtain rfl:=ρ.nG _ _ _ g d;rw[cV ⟨rfl,E⟩,cV ⟨rfl,F⟩];exact⟨_,_,rfl,rfl,.inl ⟨q,B⟩⟩;have j:c≠f:=λe=>(ρ.pY _ _ _ d (e▸g)).elim i λx=>x.2 q;rw[cS (λe=>i e.1),cS (λe=>j e.1)];exact h.obj b c d;grind;grind;by_cases k:b=r;subst k;have⟨y,z,A,e,_⟩:=p;grind;have⟨y,z,A,e,l⟩:=p;rw[heap_set,cS (λe=>k e.1)]at e;exact⟨y,z,A,e,l⟩;grind;simp at w;subst w;exact .inr (.inl ⟨f,true,r,rfl,g,a⟩)
end
theorem kO.isChan{ρ:dO}(h:kO ρ O Q)(c:∀a t b,O≠ .cells a t b):Q.isChan=false/\∀a t b,Q≠ .cells a t b:=by
 cases h with
 |cells _ _=>grind
 |_=>exact⟨rfl,cL⟩
def Kx.plain{ρ:dO}{n:Option Nat}(h:Kx ρ n O Q)(c:∀a t b,O≠ .cells a t b):kO ρ O Q:=by obtain⟨_,h⟩|⟨_,_,_,_,_,_,_,e,_⟩:=h;omega;grind
def SR.run{α β:Type}{A:dO->α->β->Prop}{ρ:dO}{s:Sem α}{W:Sem β}(h:SR P A ρ s W):∀{v u:cJ},WR ρ v u->∀g d:Array Event,ml A ρ v u (s.runT P v g) (W.runT (P.jj ρ.fs) u d) d:=by
 induction h with
 | @pure ρ a b h=>exactλ{v u} f g d=>⟨b,u,ρ,#[],by rfl,h,fM.refl f⟩
 | @load ρ a X k B I _ n=>
  intro v u f g d;simp only[Sem.runT];cases J:v.cell? a with
  |none=>
   cases I with
   | @mk b c o s l=>
    have⟨hh,e,S⟩:=vU (P:=P) (a:=⟨b,o,s⟩) (at_:=(Mode.plain==Mode.atomic)) (f.noView l) (f.noPending l);grind [ml.dead]
  |some x=>
   have⟨D,Y,Z⟩:=f.cell I J;simp only[Y];refine ml.step (e1:=#[⟨.cell X,false,false⟩]) f ((fM.refl f).U4 λe E=>?_) ?_;simp at E;subst E;cases I with
   | @mk b c o s l=>
    refine .inl ⟨_,false,b,rfl,l,?_,cL⟩;simp only[World.cell?]at J;grind
   grind [Array.append_singleton]
 | @store ρ a X x D k B I Z _ n=>
  intro v u f g d;by_cases F:(∃i,x=.agg i)\/∃i,x=.tuple i;obtain⟨i,rfl⟩|⟨i,rfl⟩:=F<;>exact ml.dead rfl;have K:¬((∃i,D=.agg i)\/∃i,D=.tuple i):=by rintro(⟨i,rfl⟩|⟨i,rfl⟩)<;>cases Z;grind;grind
  have e1:∀{G:Type} (P:cU) (k:Sem G) (x:cK),¬((∃i,x=.agg i)\/∃i,x=.tuple i)->∀(a:Addr) (v:cJ) (g:Array Event),(Sem.store .plain a x k).runT P v g=(match v.cell? a with
   |some _=>if v.frozen? a then(.halt (.unsupported (.unsafePointer "a write to bytes that a string shares")) v,g)else k.runT P (v.setCell a x) (g.push ⟨.cell a,true,false⟩)
   |none=>match v.farStore P a x false with
    | .ok (w,z)=>k.runT P w (g++z.toArray.map (⟨.cell ·,true,false⟩))
    | .error h=>(.halt h v,g)):=by
   intro G P k x J a v g;cases x<;>first|rfl|grind|grind
  rw[e1 P k x F,e1 _ B D K];cases hy:v.cell? a with
  |none=>
   cases I with
   | @mk b c o s l=>
    have⟨hh,e,S⟩:=uK (P:=P) (a:=⟨b,o,s⟩) (x:=x) (at_:=false) (f.noView l) (f.noPending l);grind [ml.dead]
  |some y=>
   have⟨y',aa,_⟩:=f.cell I hy;simp only[aa];by_cases hz:v.frozen? a=true;simp only[hz,em];rfl;have T:v.frozen? a=false:=cL;have⟨hu,H⟩:=fM.store f I Z hy T;simp only[T,hu];refine ml.step f H ?_;have:=n H.rel (g.push ⟨.cell a,true,false⟩) (d++#[⟨.cell X,true,false⟩]);simp_all
 | @new ρ o Q k B ho _ n=>
  intro v u f g d;have H:=fM.new f ho;refine ml.step f H ?_;have:=n v.lG u.lG f.U5 f.U6 (f.low _ (di _)) H.rel g (d++#[]);simpa[Sem.runT]using this
 | @getObj ρ r C k B l _ n=>
  intro v u f g d;have⟨o,Q,R,h2,L⟩:=f.obj r C l;by_cases hc:∃i t p,o=.cells i t p;obtain⟨i,t,p,rfl⟩:=hc;simp only[Sem.runT,R];rfl;have j:∀i t p,o≠ .cells i t p:=cL;replace L:kO ρ o Q:=L.plain j;have⟨M,N⟩:=L.isChan j;have e1:∀{G:Type} (P:cU) (k:Obj->Sem G) (w:cJ) (r:Nat) (o:Obj) (g:Array Event),w.heap[r]? =some o->(∀i t p,o≠ .cells i t p)->(Sem.getObj r k).runT P w g=(k o).runT P w (g.push ⟨.obj r,false,o.isChan⟩):=by intro G P k w r o g h O;cases o<;>first|exact absurd rfl (O _ _ _)|simp only[Sem.runT,h]
  rw[e1 P k v r o g R j,e1 _ B u C Q d h2 N,M];refine ml.step (e1:=#[⟨.obj C,false,false⟩]) f ((fM.refl f).U4 λe E=>?_) ?_;simp at E;subst E;refine .inr (.inl ⟨C,false,r,rfl,l,?_⟩);rintro⟨i,t,p,e,_⟩;grind;simp_all
 | @setObj ρ r C x D k B l J U _ n=>
  intro v u f g d;have⟨o,Q,R,h2,L⟩:=f.obj r C l;by_cases hc:∃i t p,o=.cells i t p;obtain⟨i,t,p,rfl⟩:=hc;simp only[Sem.runT,R];rfl;have j:∀i t p,o≠ .cells i t p:=cL;replace L:kO ρ o Q:=L.plain j;have⟨_,N⟩:=L.isChan j;have⟨M,_⟩:=J.isChan U;have V:x.isChan=false:=by cases J<;>rfl
  have e1:∀{G:Type} (P:cU) (k:Sem G) (w:cJ) (r:Nat) (x o:Obj) (g:Array Event),w.heap[r]? =some o->(∀i t p,o≠ .cells i t p)->(Sem.setObj r x k).runT P w g=k.runT P {w with heap:=w.heap.setIfInBounds r x} (g.push ⟨.obj r,true,x.isChan⟩):=by intro G P k w r x o g h O;cases o<;>first|exact absurd rfl (O _ _ _)|simp only[Sem.runT,h]
  rw[e1 P k v r x o g R j,e1 _ B u C D Q d h2 N,M,V];have H:=fM.setObj f l J R j U;refine ml.step f H ?_;have:=n H.rel (g.push ⟨.obj r,true,false⟩) (d++#[⟨.obj C,true,false⟩]);simp_all
 | @shape ρ r C k B l _ _ n ib=>
  intro v u f g d;simp only[Sem.runT];obtain⟨hs,e⟩|⟨hs,m,y,e1,e2⟩:=f.shape l;grind;grind
 | @choose ρ q k B _ n=>
  intro v u f g d;simp only[Sem.runT];by_cases hq:q.forced=true;grind;have ab:q.forced=false:=cL;simp only[ab,iR,fq];have ht:=f.tape 0 q;simp only[pB]at ht;rw[ht];refine ml.step f (fM.draw f) ?_;have:=n (q.cut (u.tape u.drawn q)) f.draw g (d++#[]);grind
 |program _ n=>exactλf g d=>n f g d
 | @noRoom ρ k B _ n=>
  intro v u f g d;refine ml.step (e1:=#[⟨.mark .noRoom,false,true⟩]) f ((fM.refl f).U4 λe E=>?_) ?_;simp at E;exact .inr (.inr (.inr (.inr E)));have:=n f (g.push ⟨.mark .noRoom,false,true⟩) (d++#[⟨.mark .noRoom,false,true⟩]);simpa[Sem.runT]using this
 | @panic ρ x D h hp=>exactλ{v u} f g d=>⟨D,u,ρ,#[],by rfl,⟨h,hp⟩,fM.refl f⟩
 |dead S=>exactλ{v u} f g d=>ml.dead S
 | @never ρ s W h=>
  intro v u f g d;have⟨hh,w',e,S⟩:=h v;rw[kL,e];exact ml.dead S
inductive SX (P:cU) {α β:Type} (A:dO->α->β->Prop):dO->Sem α->Sem β->Prop
 |of {ρ:dO} {s:Sem α} {s':Sem β} (h:SR P A ρ s s'):SX P A ρ s s'
 |skip {ρ:dO} {q:Question} {r r':Nat} {o:Nat->Obj} {o':Obj} {a:α} {b:β} (hr:ρ.r r r') (ho:∀n,kO ρ (o n) o') (hc:∀n cs t fz,o n≠ .cells cs t fz) (h:A ρ a b):
  SX P A ρ (.choose q λn=>.setObj r (o n) (.pure a)) (.setObj r' o' (.pure b))
 |bind {ρ:dO} {γ δ:Type} {B:dO->γ->δ->Prop} {s:Sem γ} {s':Sem δ} {f:γ->Sem α} {f':δ->Sem β} (h:SR P B ρ s s') (k:∀Iz a b,dO.Le ρ Iz->B Iz a b->SX P A Iz (f a) (f' b)):SX P A ρ (s.bind f) (s'.bind f')
def DR(ρ a:dO)(v u b c:cJ)(e:Array Event):Prop:=∃d,fM ρ a v u {b with drawn:=d} c e
def fM.hr{ρ a:dO}{v u b c:cJ}{d:Array Event}(m:fM ρ a v u b c d):DR ρ a v u b c d:=⟨b.drawn,m⟩
theorem HR.drawn{ρ:dO}{v u:cJ}(h:HR ρ {v with drawn:=d} u):HR ρ v u:=⟨h.obj,h.low⟩
def IH{i j:Type}(A:dO->i->j->Prop)(ρ:dO)(v u:cJ)(r:Result i×Array Event)(k:Result j×Array Event)(e:Array Event):Prop:=
 match r.1 with
 | .ok a g=>∃b f c d,k=(.ok b f,e++d)/\A c a b/\DR ρ c v u g f d
 | .halt (.panic x) g=>∃l f c d,k=(.halt (.panic l) f,e++d)/\(VR c x l/\uJ c x)/\fM ρ c v u g f d
 | .halt h _=>h.dead=true
def ml.YO{f g:Type}{A:dO->f->g->Prop}{ρ:dO}{v u:cJ}{r:Result f×Array Event}{i:Result g×Array Event}{a:Array Event}(h:ml A ρ v u r i a):IH A ρ v u r i a:=by unfold ml at h;unfold IH;split<;>rename_i c<;>rw[c]at h;have⟨b,j,d,e,k,l,m⟩:=h;exact⟨b,j,d,e,k,l,m.hr⟩;omega;grind
theorem SX.run{W X:Type}{A:dO->W->X->Prop}{ρ:dO}{s:Sem W}{M:Sem X}(h:SX P A ρ s M):∀{v u:cJ},WR ρ v u->∀g c:Array Event,IH A ρ v u (s.runT P v g) (M.runT (P.jj ρ.fs) u c) c:=by
 induction h with
 |of h=>exactλj g c=>(h.run j g c).YO
 | @skip ρ q r Y o o' a b C ho hc h=>
  intro v u j g c;have Z:∀n,ml A ρ v u ((Sem.setObj r (o n) (.pure a)).runT P v g) ((Sem.setObj Y o' (.pure b)).runT (P.jj ρ.fs) u c) c:=λn=>(SR.setObj C (ho n) (hc n) (.pure h)).run j g c;simp only[Sem.runT];by_cases hq:q.forced=true;simp only[hq,em];exact(Z 0).YO;have N:q.forced=false:=cL;simp only[N,iR,fq];have⟨H,aa,G,I,J⟩:=j.obj r Y C;have O:=Z (q.cut (v.tape v.drawn q));by_cases hk:∃D t E,H=.cells D t E;obtain⟨D,t,E,rfl⟩:=hk;simp only[G];rfl;have Q:∀D t E,H≠ .cells D t E:=λD t E e=>hk ⟨D,t,E,e⟩;have K:∀w:cJ,w.heap[r]? =some H->∀x:Obj,(Sem.setObj r x (Sem.pure a)).runT P w g=(.ok a {w with heap:=w.heap.setIfInBounds r x},g.push ⟨.obj r,true,x.isChan⟩):=by intro w h x;cases H<;>first|exact absurd rfl (Q _ _ _)|simp only[Sem.runT,h]
  rw[K v G]at O;have L:=K {v with drawn:=v.drawn+1} G (o (q.cut (v.tape v.drawn q)));unfold ml at O;have⟨b',u',R,i,g1,g2,g3⟩:=O;have e3:∀{γ:Type} (x y:γ),x=y->x=y:=λ_ _ h=>h;unfold IH;simp only[Sem.runT]at L;rw[L];exact⟨b',u',R,i,g1,g2,v.drawn,g3⟩
 | @bind ρ γ δ B s M f f' h k ih=>
  intro v u j g c;have C:=h.run j g c;rw[Sem.runT_bind',Sem.runT_bind'];unfold ml at C;generalize s.runT P v g=r at C⊢;have⟨r,S⟩:=r;cases r with
  |ok a v1=>
   have⟨b,u1,T,i,K,L,m⟩:=C;rw[K];have F:=ih T a b m.le L m.rel S (c++i);rw[<-m.le.f]at F;dsimp only;unfold IH at F⊢;split;rename_i x w l;rw[l]at F;have⟨U,V,p,z,G,I,d,J⟩:=F;exact⟨U,V,p,i++z,cL,I,d,m.trans j J⟩;rename_i x w l;rw[l]at F;have⟨U,V,p,z,G,I,J⟩:=F;exact⟨U,V,p,i++z,cL,I,m.trans j J⟩;grind
  |halt hh v1=>
   unfold IH;grind
def fy:Nat->cK->Bool
 |_,.bool _|_,.int _ _|_,.string _|_,.pointer none|_,.slice none _ _|_,.map none|_,.chan none|_,.nilFunc|_,.nilIface=>true
 |d+1,.agg a|d+1,.tuple a=>a.all (fy d)
 |d+1,.iface _ v=>fy d v
 |_,_=>false
theorem qK{ρ:dO}:∀{d:Nat} {v:cK},fy d v=true->VR ρ v v
 |d,.bool _,_=>.bool _
 |d,.int _ _,_=>.int _ _
 |d,.float _ _,h=>by grind [fy]
 |d,.complex _ _ _,h=>by grind [fy]
 |d,.string _,_=>.string _
 |d,.pointer none,_=>.jI
 |d,.slice none _ _,_=>.gD _ _
 |d,.map none,_=>.sN
 |d,.chan none,_=>.rq
 |d,.nilFunc,_=>.nilFunc
 |d,.nilIface,_=>.nilIface
 |d+1,.agg c,h=>by simp only[fy,yV]at h;exact .agg rfl λi v e a b=>by rw[a]at b;cases b;exact qK (h v (xZ a))
 |d+1,.tuple c,h=>by simp only[fy,yV]at h;exact .tuple rfl λi v e a b=>by rw[a]at b;cases b;exact qK (h v (xZ a))
 |0,.agg _,h=>by simp[fy]at h
 |0,.tuple _,h=>by simp[fy]at h
 |d,.pointer (some _),h=>by grind [fy]
 |d,.slice (some _) _ _,h=>by grind [fy]
 |d,.map (some _),h=>by grind [fy]
 |d,.chan (some _),h=>by grind [fy]
 |d,.func _ _ _,h=>by grind [fy]
 |0,.iface _ _,h=>by simp[fy]at h
 |d+1,.iface _ v,h=>.iface _ (qK (d:=d) (by grind [fy]))
def fQ(P:cU):Nat->cR->Bool
 |0,_=>false
 |d+1,t=>match P.underlying t with
  |some .bool|some (.int _)|some .string|some (.slice _)=>true
  |some (.struct a)=>!P.stoodInHeld t&&a.all λf=>fQ P d f.type
  |some (.array _ e)=>fQ P d e
  |_=>false
def kh(S:dZ->Bool):dU->Bool
 | .tmp _=>true
 | .const v=>fy 3 v
 | .global _=>false
 | .func f=>S f
def Cs:Builtin->Bool
 | .len| .cap| .append| .max| .min=>true
 |_=>false
def intType(P:cU)(t:cR):Bool:=match P.underlying t with|some (.int _)=>true|_=>false
def FJ(P:cU)(S:dZ->Bool)(a e:Bool):Op->Bool
 | .move _| .assign _| .pick _ _ _| .alloc _| .box _ _| .build _ _| .buildSlice _ _ _| .load _ _| .store _ _ _| .unOp _ _ _| .makeSlice _ _ _| .slice _ _ _ _ _
 | .index _ _ _| .indexAddr _ _ _| .extract _ _| .field _ _ _| .makeMap _ _| .nilCheck _=>true
 | .lookup t _ _ _| .mapUpdate t _ _ _=>match P.underlying t with|some (.map k _)=>!a&&fQ P 5 k|_=>false
 | .makeFunc (.func f) _ _=>S f
 | .fieldAddr s _ i=>match P.underlying s with
  |some (.struct g)=>match g[i]? with
   |some f=>match P.info? f.type with|some j=>j.size !=0|none=>false
   |none=>false
  |_=>false
 | .binOp h t _ _ _=>match h with
  | .eql| .neq=>fQ P 5 t
  |_=>intType P t
 | .convert s d _=>intType P s&&intType P d
 | .call c=>match c.callee with
  | .value _=>true
  | .builtin b=>Cs b&&(match b with| .append=>(match c.argTypes[1]? with|some t=>!intType P t|none=>true)|_=>true)
  | .invoke _ _=>false
 | .defer c=>match c.callee with
  | .value _=>e
  |_=>false
 | .panic x=>match x with
  | .const (.iface _ (.int _ _))=>e
  |_=>false
 |_=>false
def pZ(P:cU)(S:dZ->Bool)(a b:Bool)(o:Oper):Bool:=o.op.operands.all (kh S)&&FJ P S a b o.op
def iE(P:cU)(S:dZ->Bool)(d e:Bool):Code->Bool
 | .skip| .exit _| .label _| .goto _| .ret| .refuse _=>true
 | .region _ g _=>g.all (pZ P S d e)
 | .seq a b=>iE P S d e a&&iE P S d e b
 | .cond c a b=>kh S c&&iE P S d e a&&iE P S d e b
 | .block _ c| .loop c| .scope c=>iE P S d e c
 | .rangeFunc f _ a b=>!e&&kh S f&&iE P S d e a&&iE P S d e b
structure Fit(P:cU)(S:dZ->Bool)(dim:Bool):Prop where
 zero:∀t i z,P.info? t=some i->i.zero=some z->fy 3 z=true
 fn:∀f,S f=true->∃fn c,P.funcs[f]? =some fn/\(fn.name== "runtime.NumGoroutine")=false/\fn.body=some c
 globals:P.globals.size=0
 depth:5<=P.depth
 bad:P.info? uZ=none
abbrev SV(P:cU)(ρ:dO)(s c:Sem cK):Prop:=SR P (λρ a b=>VR ρ a b) ρ s c
abbrev SE(P:cU)(ρ:dO){c:Type}(s d:Sem c):Prop:=SR P (λ_ a b=>a=b) ρ s d
section
variable{P:cU}{ρ:dO}
theorem SR.ej{d e g i:Type}{A:dO->d->e->Prop}{B:dO->g->i->Prop}{ρ:dO}{s:Sem d}{j:Sem e}{f:d->Sem g}{f':e->Sem i}(h:SR P A ρ s j) (k:∀c a b,dO.Le ρ c->A c a b->SR P B c (f a) (f' b)):SR P B ρ (s>>=f) (j>>=f'):=SR.bind h k
theorem SX.ej{d e g i:Type}{A:dO->d->e->Prop}{B:dO->g->i->Prop}{ρ:dO}{s:Sem d}{j:Sem e}{f:d->Sem g}{f':e->Sem i}(h:SR P A ρ s j) (k:∀c a b,dO.Le ρ c->A c a b->SX P B c (f a) (f' b)):SX P B ρ (s>>=f) (j>>=f'):=.bind h k
def SX.map{d e j l:Type}{A:dO->d->e->Prop}{B:dO->j->l->Prop}{g:d->j}{m:e->l}{ρ:dO}{s:Sem d}{n:Sem e}(h:SX P A ρ s n)(k:∀c a b,A c a b->B c (g a) (m b)):
 SX P B ρ (s>>=λa=>Pure.pure (g a)) (n>>=λb=>Pure.pure (m b)):=by
 induction h with
 |of h=>exact .of (SR.ej h λ_ _ _ _ o=>.pure (k _ _ _ o))
 |skip p q r h=>exact .skip p q r (k _ _ _ h)
 |bind h _ t=>
  show SX P B _ (Sem.bind (Sem.bind _ _) _) (Sem.bind (Sem.bind _ _) _);rw[Sem.bind_assoc',Sem.bind_assoc'];exact .bind h λc a b f i=>t c a b f i
theorem SR.ff{c d:Type}{A:dO->c->d->Prop}{a:c}{b:d}(h:A ρ a b):SR P A ρ (Pure.pure a) (Pure.pure b):=.pure h
theorem SR.stuck{α b:Type}{A:dO->α->b->Prop}{a:String}{s:Sem b}:SR P A ρ (Go.stuck (α:=α) a) s:=.dead rfl
theorem SR.gM{α a:Type}{A:dO->α->a->Prop}{u:Unsupported}{s:Sem a}(b:Halt.dead (.unsupported u)=true:=by rfl):SR P A ρ (Go.unsupported (α:=α) u) s:=.dead b
def SR.prog:SR P (λρ a b=>a=P/\b=P.jj ρ.fs) ρ Go.program Go.program:=.program (.pure ⟨rfl,rfl⟩)
def SR.jJ{j l:Type}{A B:dO->j->l->Prop}{s:Sem j}{m:Sem l}(h:SR P A ρ s m)(k:∀d a b,dO.Le ρ d->A d a b->B d a b):SR P B ρ s m:=by
 induction h with
 |pure h=>exact .pure (k _ _ _ (.refl _) h)
 |load f _ c=>exact .load f cL
 |store f q _ c=>exact .store f q (c k)
 |new g _ c=>exact .new g λn r o p t=>c n r o p t λd a b i=>k d a b ((dO.uX _ _ _ o p).trans i)
 |getObj e _ c=>exact .getObj e cL
 |setObj e g u _ c=>exact .setObj e g u (c k)
 |shape e _ _ c x=>exact .shape e cL cL
 |choose _ c=>exact .choose cL
 |program _ c=>exact .program (c k)
 |noRoom _ c=>exact .noRoom (c k)
 |panic h v=>exact .panic h v
 |dead w=>exact .dead w
 |never h=>exact .never h
def gx(a:Array Func):(P.jj a).underlying=P.underlying:=rfl
def kV(a:Array Func):(P.jj a).depth=P.depth:=rfl
def jo(a:Array Func):(P.jj a).bytesOf=P.bytesOf:=rfl
def jp(a:Array Func):(P.jj a).cellsOf=P.cellsOf:=rfl
theorem fD(a:Array Func):∀(d:Nat) (t:cR),(P.jj a).eqGuardType d t=P.eqGuardType d t
 |0,t=>by unfold Program.eqGuardType;rfl
 |d+1,t=>by unfold Program.eqGuardType;simp only[gx,fD a d]
theorem sO(a:Array Func):∀(d:Nat),cellOfByte (P.jj a) d=cellOfByte P d
 |0=>by grind [cellOfByte]
 |d+1=>by funext t o;unfold cellOfByte;rw[sO a d];rfl
theorem fR(a:Array Func):∀(d:Nat),byteOfCell (P.jj a) d=byteOfCell P d
 |0=>by grind [byteOfCell]
 |d+1=>by funext t o;unfold byteOfCell;rw[fR a d];rfl
def gy(a:Array Func):cellAtBytes (P.jj a)=cellAtBytes P:=by funext d e c o b;unfold cellAtBytes;rw[fR,sO];rfl
theorem Ct(a:Array Func):∀(d:Nat),(P.jj a).alikeButTags d=P.alikeButTags d
 |0=>by funext t o;unfold Program.alikeButTags;rfl
 |d+1=>by funext t o;unfold Program.alikeButTags;rw[Ct a d]
def BY(a:Array Func):(P.jj a).stoodInAs=P.stoodInAs:=by funext t;unfold Program.stoodInAs;rw[show(P.jj a).depth=P.depth from rfl,Ct];rfl
def fU(a:Array Func):(P.jj a).stoodInHeld=P.stoodInHeld:=by funext t;unfold Program.stoodInHeld;rw[BY]
def SR.info(t:cR):SR P (λ_ a b=>a=b/\P.info? t=some a) ρ (typeInfo t) (typeInfo t):=by
 unfold typeInfo;refine SR.prog.ej λc a b _ h=>?_;obtain⟨rfl,rfl⟩:=h;try simp only[gx,kV,jp,jo,fD,fR,gy,fU]
 grind [ff,stuck]
def SR.under(t:cR):SR P (λ_ a b=>a=b/\P.underlying t=some a) ρ (Go.underlying t) (Go.underlying t):=by
 unfold Go.underlying;refine SR.prog.ej λc a b _ h=>?_;obtain⟨rfl,rfl⟩:=h;try simp only[gx,kV,jp,jo,fD,fR,gy,fU]
 grind [ff,stuck]
theorem SR.size(t:cR):SR P (λ_ a b=>a=b/\∃i,P.info? t=some i/\a=i.size) ρ (Go.sizeOf t) (Go.sizeOf t):=by unfold Go.sizeOf;refine(SR.info t).ej λc a b _ h=>?_;grind [ff]
theorem SR.isAgg(t:cR):SE P ρ (Go.isAgg t) (Go.isAgg t):=by unfold Go.isAgg;refine(SR.under t).ej λc a b _ h=>?_;grind [ff]
theorem SR.zero{S:dZ->Bool}(F:Fit P S D)(t:cR):SV P ρ (zeroValue t) (zeroValue t):=by unfold zeroValue;refine(SR.info t).ej λc a b _ h=>?_;obtain⟨rfl,h⟩:=h;split;rename_i z d;exact .ff (qK (F.zero t a z h d));exact .gM
theorem SR.goPanic{α a:Type}{A:dO->α->a->Prop}(h:VR ρ x y)(b:uJ ρ x):SR P A ρ (Go.goPanic (α:=α) x) (Go.goPanic (α:=a) y):=.panic h b
theorem SR.kA{α f:Type}{A:dO->α->f->Prop}(e:RuntimeError)(g:(∃x y s c,e=.bounds x y s c)\/(∃m,e=.error m)\/(∃m,e=.plain m)\/e=.nilDeref):SR P A ρ (runtimePanic (α:=α) e) (runtimePanic (α:=f) e):=by
 unfold runtimePanic;refine SR.prog.ej λi a b _ h=>?_;obtain⟨rfl,rfl⟩:=h;try simp only[gx,kV,jp,jo,fD,fR,gy,fU]
 obtain⟨x,y,s,c,rfl⟩|⟨m,rfl⟩|⟨m,rfl⟩|rfl:=g;exact .panic (.iface _ (qK (d:=1) (by simp[fy]))) (.inr λ_ _ _ h=>cL);exact .panic (.iface _ (.string _)) (.inr λ_ _ _ h=>by cases h);exact .panic (.iface _ (.string _)) (.inr λ_ _ _ h=>by cases h);exact .panic (.iface _ (.string _)) (.inr λ_ _ _ h=>by cases h)
theorem SR.boundsPanic{α e:Type}{A:dO->α->e->Prop}(k:IntKind)(x y:Int)(c:BoundsCode):SR P A ρ (Go.boundsPanic (α:=α) k x y c) (Go.boundsPanic (α:=e) k x y c):=by unfold Go.boundsPanic;dsimp only;split;refine SR.ej (A:=λ_ a b=>a=b) ?_ λd a b _ h=>?_;refine SR.ej (A:=λ_ a b=>a=b) (.choose λn=>.pure rfl) λd a b _ h=>?_;subst h;exact .ff rfl;grind [SR.kA];grind [SR.ej,ff,SR.kA]
def SR.ld{a:Addr}(b:AR ρ h a):SV P ρ (Go.load h) (Go.load a):=.load b λ_ _ c=>.pure c
def SR.st{a b:Addr}{v c:cK}(h:AR ρ a b)(d:VR ρ v c):SE P ρ (Go.store a v) (Go.store b c):=.store h d (.pure rfl)
theorem SR.loadCellsFrom{f:Addr}:∀(n i:Nat) {ρ:dO} {c a:eH},AR ρ h f->fX ρ c a->SR P (λρ h b=>fX ρ h b) ρ (Go.loadCellsFrom h i n c) (Go.loadCellsFrom f i n a)
 |0,_,_,_,_,_,e=>.ff e
 |n+1,i,_,_,_,g,e=>(SR.ld (g.add i)).ej λ_ _ _ d j=>SR.loadCellsFrom n (i+1) (g.mono d) ((e.mono d).push j)
theorem SR.loadCells{a:Addr}(c:AR ρ h a)(n:Nat):SR P (λρ h b=>fX ρ h b) ρ (Go.loadCells h n) (Go.loadCells a n):=SR.loadCellsFrom n 0 c .nil
theorem SR.storeCells{e:Addr}:∀{d a:dP} (i:Nat) {ρ:dO},AR ρ h e->sf ρ d a->SE P ρ (Go.storeCells h d i) (Go.storeCells e a i)
 |[],_,i,_,_,b=>by cases b;exact .ff rfl
 |v::d,_,i,ρ,f,b=>by
  cases b with
  |cons b t=>
   unfold Go.storeCells;exact(SR.st (f.add i) b).ej λg _ _ c _=>SR.storeCells (i+1) (f.mono c) (t.mono c)
theorem SR.loadVar{f:Addr}(t:cR)(g:AR ρ h f):SV P ρ (Go.loadVar t h) (Go.loadVar t f):=by unfold Go.loadVar;refine(SR.isAgg t).ej λi x m b j=>?_;subst j;split;refine(SR.size t).ej λd n o a k=>?_;obtain⟨rfl,_⟩:=k;exact(SR.loadCells ((g.mono b).mono a) n).ej λe c p _ l=>.ff l.agg;exact SR.ld (g.mono b)
theorem SR.storeVar{d:Addr}(t:cR)(f:AR ρ h d)(g:VR ρ x y):SE P ρ (Go.storeVar t h x) (Go.storeVar t d y):=by unfold Go.storeVar;refine(SR.size t).ej λi n k a j=>?_;obtain⟨rfl,_⟩:=j;have e:=(g.mono a).cells;by_cases b:x.cells.size=n;have c:y.cells.size=n:=e.size▸b;simp only[b,c,ne_eq,not_true_eq_false,fq];exact(SR.storeCells 0 (f.mono a) e.list).jJ cL;simp only[ne_eq,b,not_false_eq_true,em];exact .stuck
theorem SR.newRow(t:cR)(h:fX ρ W X):SR P (λρ a b=>AR ρ a b) ρ (Go.newRow t W) (Go.newRow t X):=by unfold Go.newRow;exact SR.ej (A:=λρ a b=>ρ.r a b/\ρ.sh a=none) (.new (.cells h cL) λn g i j d=>.pure ⟨dO.tT _ _ _ _ _,d⟩) λe a b f c=>.ff (.of _ _ c.1 c.2)
theorem SR.newVar(t:cR)(h:VR ρ x y):SR P (λρ a b=>AR ρ a b) ρ (Go.newVar t x) (Go.newVar t y):=SR.newRow t h.cells
theorem SR.part(t:cR)(h:fX ρ W X)(b:Nat):SV P ρ (Go.part t W b) (Go.part t X b):=by unfold Go.part;refine(SR.isAgg t).ej λe x k c f=>?_;subst f;split;refine(SR.size t).ej λd n l a g=>?_;obtain⟨rfl,_⟩:=g;exact .ff (((h.mono c).mono a).extract _ _).agg;obtain⟨i,j⟩|⟨v,m,i,j,o⟩:=(h.mono c).get? b;grind [stuck];grind [ff]
theorem SR.intOf(h:VR ρ x y):SR P (λ_ a b=>a=b/\x=.int a.1 a.2/\y=.int a.1 a.2) ρ (asIntOf x) (asIntOf y):=by cases h<;>first|exact .ff cL|exact .gM|exact .stuck
theorem SR.asInt(h:VR ρ x y):SE P ρ (Go.asInt x) (Go.asInt y):=by unfold Go.asInt;refine(SR.intOf h).ej λ_ a b _ h=>?_;grind [ff]
theorem SR.asBool(h:VR ρ x y):SE P ρ (Go.asBool x) (Go.asBool y):=by cases h<;>first|exact .ff rfl|exact .stuck
theorem SR.asAddr(h:VR ρ x y):SR P (λρ a b=>AR ρ a b) ρ (Go.asAddr x) (Go.asAddr y):=by cases h<;>first|exact .ff ‹_›|exact SR.kA _ (.inr (.inr (.inr rfl)))|exact .stuck
def SR.sure(h:VR ρ x y):SR P (λρ a b=>AR ρ a b) ρ (Instr.sureAddr x) (Instr.sureAddr y):=by cases h<;>first|exact .ff ‹_›|exact .stuck
theorem SR.asAgg(h:VR ρ x y):SR P (λρ a b=>fX ρ a b) ρ (Go.asAgg x) (Go.asAgg y):=by cases h<;>first|exact .ff ⟨‹_›,‹_›⟩|exact .stuck
end
end Go.dA
namespace Go.Proofs
open Go
noncomputable def V.zt:Code:=
 (Code.region 0 #[{dst:=some 9,op:=Op.move (.const (.bool true)),type:=4,pos:= "",after:=#[],guard:=none},{dst:=some 1,op:=Op.makeFunc (.func 227) #[] #[.tmp 0,.tmp 1,.tmp 2,.tmp 3,.tmp 4,.tmp 5,.tmp 6,.tmp 7,.tmp 8,.tmp 9],type:=0,pos:= "",after:=#[],guard:=none}] false).seq
 ((Code.region 1 #[{dst:=some 2,op:=Op.move (.const (.bool true)),type:=4,pos:= "",after:=#[],guard:=none},{dst:=some 2,op:=Op.move (.const (.bool false)),type:=4,pos:= "",after:=#[],guard:=none}] true).seq
 ((Code.cond (.tmp 2) ((Code.region 2 #[{dst:=some 3,op:=Op.box 200 (.tmp 1),type:=0,pos:= "",after:=#[],guard:=none}] false).seq (Code.region 3 #[{dst:=none,op:=Op.panic (.const (.iface 3 (.int .i64 7))),type:=0,pos:= "",after:=#[],guard:=none}] false)) .skip).seq
 ((Code.region 4 #[{dst:=some 3,op:=Op.build 245 #[(0,.tmp 0)],type:=245,pos:= "",after:=#[],guard:=none}] false).seq
 ((Code.region 5 #[{dst:=some 4,op:=Op.box 245 (.tmp 3),type:=0,pos:= "",after:=#[],guard:=none}] false).seq
 ((Code.region 6 #[{dst:=some 5,op:=Op.call {callee:=.value (.func 216),args:=#[.tmp 4],argTypes:=#[243]},type:=0,pos:= "",after:=#[],guard:=none}] false).seq
 ((Code.region 7 #[{dst:=some 6,op:=Op.fieldAddr 245 (.tmp 4) 3,type:=0,pos:= "",after:=#[],guard:=none}] false).seq
 ((Code.region 8 #[{dst:=some 7,op:=Op.load 199 (.tmp 6),type:=199,pos:= "",after:=#[],guard:=none}] false).seq
 Code.ret)))))))
noncomputable def V.f163:Func:={Tryz.f163 with ntmps:=9,results:=#[.tmp 7],body:=some V.zt}
section
variable(P:cU)(fs:Array Func)
abbrev V.sub:cU:=P.jj fs
theorem V.OE(t:cR):(V.sub P fs).info? t=P.info? t:=rfl
theorem V.Ky(t:cR):(V.sub P fs).underlying t=P.underlying t:=rfl
theorem V.rr(t:cR)(w:cJ):Sem.run (V.sub P fs) (typeInfo t) w=Sem.run P (typeInfo t) w:=by
 simp only[typeInfo,Sem.run_bind,run_program,Result.andThen_ok];cases P.info? t with
 |none=>simp only[run_stuck]
 |some i=>simp only[Sem.run_pure]
theorem V.pC(t:cR)(w:cJ):Sem.run (V.sub P fs) (underlying t) w=Sem.run P (underlying t) w:=by
 simp only[underlying,Sem.run_bind,run_program,Result.andThen_ok,V.Ky];cases P.underlying t with
 |none=>simp only[run_stuck]
 |some i=>simp only[Sem.run_pure]
theorem V.II(t:cR)(w:cJ):Sem.run (V.sub P fs) (sizeOf t) w=Sem.run P (sizeOf t) w:=by simp only[sizeOf,Sem.run_bind,V.rr,Sem.run_pure]
theorem V.BZ(t:cR)(w:cJ):Sem.run (V.sub P fs) (zeroValue t) w=Sem.run P (zeroValue t) w:=by
 simp only[zeroValue,Sem.run_bind,V.rr];cases Sem.run P (typeInfo t) w with
 |ok d w=>simp only[Result.andThen_ok];cases d.zero with
  |none=>simp only[run_unsupported]
  |some z=>simp only[Sem.run_pure]
 |halt h w=>simp only[Result.andThen_halt]
theorem V.Mf(t:cR)(w:cJ):Sem.run (V.sub P fs) (isAgg t) w=Sem.run P (isAgg t) w:=by
 simp only[isAgg,Sem.run_bind,V.pC];cases Sem.run P (underlying t) w with
 |ok d w=>
  simp only[Result.andThen_ok];split<;>simp only[Sem.run_pure]
 |halt h w=>simp only[Result.andThen_halt]
end
def V.Mg(P:cU)(fs:Array Func):(V.sub P fs).depth=P.depth:=rfl
def V.yX(P:cU)(fs:Array Func)(n:Nat)(t:cR):(V.sub P fs).eqGuardType n t=P.eqGuardType n t:=Go.dA.fD fs n t
def V.yY(P:cU)(fs:Array Func)(t:cR):(V.sub P fs).stoodInHeld t=P.stoodInHeld t:=congrFun (Go.dA.fU fs) t
noncomputable def V.prog:cU:=V.sub Tryz.prog (Tryz.funcs.setIfInBounds 163 V.f163)
def V.IJ(P:cU)(fs:Array Func):(V.sub P fs).toTables=P.toTables:=rfl
@[simp] def V.Cu:V.prog.toTables=Tryz.prog.toTables:=V.IJ _ _
@[simp] def V.uL (t:cR):V.prog.underlying t=Tryz.prog.underlying t:=V.Ky _ _ _
@[simp] def V.Kz (t:cR):V.prog.info? t=Tryz.prog.info? t:=V.OE _ _ _
@[simp] def V.FK (t:cR) (w:cJ):Sem.run V.prog (typeInfo t) w=Sem.run Tryz.prog (typeInfo t) w:=V.rr _ _ _ _
@[simp] def V.sizeOf_eq (t:cR) (w:cJ):Sem.run V.prog (sizeOf t) w=Sem.run Tryz.prog (sizeOf t) w:=V.II _ _ _ _
@[simp] def V.xd (t:cR) (w:cJ):Sem.run V.prog (underlying t) w=Sem.run Tryz.prog (underlying t) w:=V.pC _ _ _ _
@[simp] def V.Wt (t:cR) (w:cJ):Sem.run V.prog (isAgg t) w=Sem.run Tryz.prog (isAgg t) w:=V.Mf _ _ _ _
@[simp] def V.RV (t:cR) (w:cJ):Sem.run V.prog (zeroValue t) w=Sem.run Tryz.prog (zeroValue t) w:=V.BZ _ _ _ _
@[simp] def V.Wu:V.prog.depth=Tryz.prog.depth:=V.Mg _ _
@[simp] def V.OF (n:Nat) (t:cR):V.prog.eqGuardType n t=Tryz.prog.eqGuardType n t:=V.yX _ _ _ _
@[simp] def V.OG (t:cR):V.prog.stoodInHeld t=Tryz.prog.stoodInHeld t:=V.yY _ _ _
@[simp] def V.func128:V.prog.funcs[128]? =some Tryz.f128:=eE
@[simp] def V.call128 (a:eH) (w:cJ):Sem.run V.prog (callFunc 128 a) w=Result.ok (Next.enter 128 a) w:=eE
@[simp] def V.func129:V.prog.funcs[129]? =some Tryz.f129:=eE
@[simp] def V.func163:V.prog.funcs[163]? =some V.f163:=eE
@[simp] def V.func164:V.prog.funcs[164]? =some Tryz.f164:=eE
@[simp] def V.call167 (a:eH) (w:cJ):Sem.run V.prog (callFunc 167 a) w=Result.ok (Next.enter 167 a) w:=eE
@[simp] def V.call168 (a:eH) (w:cJ):Sem.run V.prog (callFunc 168 a) w=Result.ok (Next.enter 168 a) w:=eE
@[simp] def V.func190:V.prog.funcs[190]? =some Tryz.f190:=eE
@[simp] def V.func193:V.prog.funcs[193]? =some Tryz.f193:=eE
@[simp] def V.func194:V.prog.funcs[194]? =some Tryz.f194:=eE
@[simp] def V.call194 (a:eH) (w:cJ):Sem.run V.prog (callFunc 194 a) w=Result.ok (Next.enter 194 a) w:=eE
@[simp] def V.call196 (a:eH) (w:cJ):Sem.run V.prog (callFunc 196 a) w=Result.ok (Next.enter 196 a) w:=eE
@[simp] def V.call215 (a:eH) (w:cJ):Sem.run V.prog (callFunc 215 a) w=Result.ok (Next.enter 215 a) w:=eE
@[simp] def V.call216 (a:eH) (w:cJ):Sem.run V.prog (callFunc 216 a) w=Result.ok (Next.enter 216 a) w:=eE
@[simp] def V.func227:V.prog.funcs[227]? =some Tryz.f227:=eE
@[simp] def V.call227 (a:eH) (w:cJ):Sem.run V.prog (callFunc 227 a) w=Result.ok (Next.enter 227 a) w:=eE
@[simp] def V.func228:V.prog.funcs[228]? =some Tryz.f228:=eE
@[simp] def V.func229:V.prog.funcs[229]? =some Tryz.f229:=eE
end Go.Proofs
namespace Go.Proofs
abbrev Tryz.link:Go.Conc.Lib.WgLink:={add:=187,done:=189,wait:=192,relMerge:=202,disable:=203,enable:=204,inBubble:=205,associate:=206,fatal:=207,uOr:=208,uAdd:=209,raceRead:=210,uLoad:=211,uStore:=212,disassociate:=213,semrelease:=214,acquire:=217,isAssociated:=218,uCas:=219,raceWrite:=220,semacquire:=221,orU64:=223,addU64:=224,loadU64:=225,storeU64:=226,casU64:=230,tWgP:=255,tUP:=257,tAssoc:=258,tWg:=241,tAU:=238,tU64:=119,tUint:=132,tU32:=239,tPU32:=262,tPAU:=270,tPU64:=272,tNoCopy:=234,tANoCopy:=235,tAlign64:=236}
def Tryz.yi:Go.Conc.Lib.WgLib Tryz.prog Tryz.link:=
 ⟨Tryz.func187,Tryz.func189,Tryz.func192,Tryz.func202,Tryz.func203,Tryz.func204,Tryz.func205,Tryz.func206,Tryz.func207,Tryz.func208,Tryz.func209,Tryz.func210,Tryz.func211,Tryz.func212,Tryz.func213,Tryz.func214,Tryz.func217,Tryz.func218,Tryz.func219,Tryz.func220,Tryz.func221,Tryz.func223,Tryz.func224,Tryz.func225,Tryz.func226,Tryz.func230,Tryz.underlying255,Tryz.runUnderlying255,Tryz.sizeOf255,Tryz.isAgg255,Tryz.zeroValue255,Tryz.underlying257,Tryz.runUnderlying257,Tryz.sizeOf257,Tryz.isAgg257,Tryz.zeroValue257,Tryz.underlying258,Tryz.runUnderlying258,Tryz.sizeOf258,Tryz.isAgg258,Tryz.zeroValue258,Tryz.underlying241,Tryz.runUnderlying241,Tryz.sizeOf241,Tryz.isAgg241,Tryz.zeroValue241,Tryz.underlying238,Tryz.runUnderlying238,Tryz.sizeOf238,Tryz.isAgg238,Tryz.zeroValue238,Tryz.underlying119,Tryz.runUnderlying119,Tryz.sizeOf119,Tryz.isAgg119,Tryz.zeroValue119,Tryz.underlying132,Tryz.runUnderlying132,Tryz.sizeOf132,Tryz.isAgg132,Tryz.zeroValue132,Tryz.underlying239,Tryz.runUnderlying239,Tryz.sizeOf239,Tryz.isAgg239,Tryz.zeroValue239,Tryz.underlying262,Tryz.runUnderlying262,Tryz.sizeOf262,Tryz.isAgg262,Tryz.zeroValue262,Tryz.underlying270,Tryz.runUnderlying270,Tryz.sizeOf270,Tryz.isAgg270,Tryz.zeroValue270,Tryz.underlying272,Tryz.runUnderlying272,Tryz.sizeOf272,Tryz.isAgg272,Tryz.zeroValue272,Tryz.underlying0,Tryz.runUnderlying0,Tryz.sizeOf0,Tryz.isAgg0,Tryz.zeroValue0,Tryz.underlying3,Tryz.runUnderlying3,Tryz.sizeOf3,Tryz.isAgg3,Tryz.zeroValue3,Tryz.underlying4,Tryz.runUnderlying4,Tryz.sizeOf4,Tryz.isAgg4,Tryz.zeroValue4,Tryz.underlying9,Tryz.runUnderlying9,Tryz.sizeOf9,Tryz.isAgg9,Tryz.zeroValue9,Tryz.underlying20,Tryz.runUnderlying20,Tryz.sizeOf20,Tryz.isAgg20,Tryz.zeroValue20,Tryz.underlying21,Tryz.runUnderlying21,Tryz.sizeOf21,Tryz.isAgg21,Tryz.zeroValue21,eE,eE⟩
end Go.Proofs
namespace Go.dA
section
variable{P:cU}{ρ:dO}
theorem SR.Cv{d g:Type}{f:d->Sem g}:∀(l:List d) {ρ:dO},(∀x∈l,∀c,SE P c (f x) (f x))->SE P ρ (l.mapM f) (l.mapM f)
 |[],_,_=>by rw[List.mapM_nil];exact .ff rfl
 |x::l,ρ,h=>by rw[List.mapM_cons];refine(h x dq ρ).ej λ_ a b _ e=>?_;subst e;refine(SR.Cv l cL).ej λ_ a b _ e=>?_;subst e;exact .ff rfl
theorem SR.mapM{g i:Type}{f:g->Sem i}(c:Array g)(h:∀x∈c,∀d,SE P d (f x) (f x)):SE P ρ (c.mapM f) (c.mapM f):=by rw[Ks];refine SR.ej (f:=λl=>Pure.pure l.toArray) (f':=λl=>Pure.pure l.toArray) (SR.Cv c.toList λx j=>h x cL) λ_ a b _ e=>?_;grind [ff]
theorem SR.forIn_list{k g:Type}{f m:k->g->Sem (ForInStep g)}:∀(l:List k) (b:g) {ρ:dO},(∀x∈l,∀r c,dO.Le ρ c->SE P c (f x r) (m x r))->SE P ρ (forIn l b f) (forIn l b m)
 |[],b,_,_=>by simp only[List.forIn_nil];exact .ff rfl
 |x::l,b,ρ,h=>by
  simp only[List.forIn_cons];refine(h x dq b ρ (.refl _)).ej λi a o j e=>?_;subst e;cases a with
  |done b=>exact .ff rfl
  |yield b=>exact SR.forIn_list l b λy n r c d=>h y (by simp[n]) r c (j.trans d)
theorem SR.alloc{S:dZ->Bool}(F:Fit P S D)(t:cR)(v:cK):SV P ρ (Instr.alloc t true v) (Instr.alloc t true v):=by unfold Instr.alloc;exact(SR.zero F t).ej λc z g d e=>SR.ej (SR.newVar t e) λb a h _ f=>.ff (.ptr f)
theorem SR.box(t:cR)(h:VR ρ x y):SV P ρ (Instr.box t x) (Instr.box t y):=by unfold Instr.box;exact SR.ej (SR.newVar t h) λb a d _ c=>.ff (.ptr c)
inductive qb (ρ:dO):List (Nat×cK)->List (Nat×cK)->Prop
 |nil:qb ρ [] []
 |cons {i:Nat} {v v':cK} {l l':List (Nat×cK)} (h:VR ρ v v') (t:qb ρ l l'):qb ρ ((i,v)::l) ((i,v')::l')
theorem qb.mono{ρ a:dO}(b:dO.Le ρ a){l c:List (Nat×cK)}(h:qb ρ l c):qb a l c:=by
 induction h with
 |nil=>exact .nil
 |cons h _ d=>exact .cons (h.mono b) d
theorem xe{ev ev':dU->cK}:∀{l:List (Nat×dU)},(∀x∈l,VR ρ (ev x.2) (ev' x.2))->qb ρ (l.map λ(i,x)=>(i,ev x)) (l.map λ(i,x)=>(i,ev' x))
 |[],_=>.nil
 |(i,x)::l,h=>.cons (h (i,x) dq) (xe cL)
def OH(h:sf ρ M Y)(c:Nat):∀(n:Nat) {a b:eH},fX ρ a b->
 fX ρ ((M.zipIdx n).foldl (λa (x:cK×Nat)=>a.setIfInBounds (c+x.2) x.1) a) ((Y.zipIdx n).foldl (λa (x:cK×Nat)=>a.setIfInBounds (c+x.2) x.1) b):=by
 induction h with
 |nil=>simp
 |cons h _ d=>
  intro n a b e;simp only[List.zipIdx_cons,jP];exact d (n+1) (e.set _ h)
def IK(place:Nat->Option (Nat×Nat)){l b:List (Nat×cK)}(h:qb ρ l b):∀{c a:eH},fX ρ c a->(Instr.fill place c l=none/\Instr.fill place a b=none)\/∃r f,Instr.fill place c l=some r/\Instr.fill place a b=some f/\fX ρ r f:=by
 induction h with
 |nil=>exactλd=>.inr ⟨_,_,rfl,rfl,d⟩
 | @cons i v m l b h _ g=>
  intro c a d;simp only[Instr.fill];cases place i with
  |none=>simp
  |some p=>
   have⟨e,size⟩:=p;have j:=h.cells.size;have k:=d.size;simp only[<-j,<-k];split;simp;refine g ?_;have:=OH h.cells.list e 0 d;rw[<-Ou,<-Ou,Array.toList_zipIdx,Array.toList_zipIdx];omega
theorem SR.build{S:dZ->Bool}(F:Fit P S D)(t:cR){q g:Array (Nat×cK)}(h:qb ρ q.toList g.toList):SV P ρ (Instr.build t q) (Instr.build t g):=by unfold Instr.build;refine(SR.zero F t).ej λm z y n u=>?_;have v:=h.mono n;refine(SR.under t).ej λo a b d e=>?_;obtain⟨rfl,_⟩:=e;have s:=v.mono d;have j:=(u.mono d).cells;split;refine SR.ej (SR.mapM _ λx _ m=>?_) λf a b c e=>?_;refine(SR.size _).ej λ_ a b _ e=>?_;grind [ff];subst e;obtain⟨k,l⟩|⟨r,w,k,l,p⟩:=IK (a[·]?) (s.mono c) (j.mono c);grind [stuck];simp only[k,l];exact .ff p.agg;rename_i e _;refine(SR.size e).ej λf a b c e=>?_;obtain⟨rfl,_⟩:=e;obtain⟨k,l⟩|⟨r,w,k,l,p⟩:=IK (λi=>some (i*a,a)) (s.mono c) (j.mono c);grind [stuck];simp only[k,l];exact .ff p.agg;exact .stuck
def DT(h:fX ρ W X)(n:Nat):fX ρ ((Array.range n).map (W[·%W.size]!)) ((Array.range n).map (X[·%X.size]!)):=by refine fX.map _ _ _ λi _=>?_;have e:∀(a:eH) (i:Nat),a[i]! =(a[i]?).getD default:=cL;rw[e,e,<-h.size];obtain⟨b,c⟩|⟨v,d,b,c,f⟩:=h.get? (i%W.size);rw[b,c];exact .bool _;grind
theorem SR.buildSlice{S:dZ->Bool}(F:Fit P S D)(t:cR)(n:Nat){o j:Array (Nat×cK)}(h:qb ρ o.toList j.toList):SV P ρ (Instr.buildSlice t n o) (Instr.buildSlice t n j):=by
 unfold Instr.buildSlice;refine(SR.under t).ej λp a b f e=>?_;obtain⟨rfl,_⟩:=e;have w:=h.mono f;split;rename_i e _;refine(SR.size e).ej λk a b g e=>?_;obtain⟨rfl,_⟩:=e;have y:=w.mono g;dsimp only;split;exact .gM;have tail:∀c z l,dO.Le k c->fX c z l->SV P c
  (match Instr.fill (λi=>some (i*a,a)) (Array.map (λx=>z[x%z.size]!) (Array.range (n*a))) o.toList with
    |some cells=>do Pure.pure (Value.slice (some (<-Go.newRow e cells)) n n)
    |_=>Go.stuck "buildSlice: a part of the wrong size")
  (match Instr.fill (λi=>some (i*a,a)) (Array.map (λx=>l[x%l.size]!) (Array.range (n*a))) j.toList with
    |some cells=>do Pure.pure (Value.slice (some (<-Go.newRow e cells)) n n)
    |_=>Go.stuck "buildSlice: a part of the wrong size"):=by
  intro c z l d m;obtain⟨u,v⟩|⟨r,G,u,v,B⟩:=IK (λi=>some (i*a,a)) (y.mono d) (DT m (n*a));grind [stuck];simp only[u,v];exact SR.ej (SR.newRow _ B) λq x H _ C=>.ff (.slice _ _ C)
 split;exact SR.ej (A:=λρ a b=>fX ρ a b) (.ff .nil) cL;exact(SR.zero F _).ej λE z l s m=>SR.ej (A:=λρ a b=>fX ρ a b) (.ff m.cells) λc z l d m=>tail _ _ _ (s.trans d) m;exact .stuck
theorem SR.loadAt(t:cR)(h:VR ρ x y):SV P ρ (Instr.loadAt t x) (Instr.loadAt t y):=by unfold Instr.loadAt;exact(SR.sure h).ej λ_ a c _ b=>SR.loadVar t b
theorem SR.storeAt(t:cR){c:cK}(h:VR ρ y z)(d:VR ρ x c):SE P ρ (Instr.storeAt t y x) (Instr.storeAt t z c):=by unfold Instr.storeAt;exact(SR.sure h).ej λ_ a f b e=>SR.storeVar t e (d.mono b)
theorem SR.fieldAt(s:cR)(i:Nat)(g:FJ P (λ_=>false) false false (.fieldAddr s (.tmp 0) i)=true)(h:VR ρ x y):SV P ρ (Instr.fieldAt s x i) (Instr.fieldAt s y i):=by unfold Instr.fieldAt;refine(SR.under s).ej λm a b c e=>?_;obtain⟨rfl,r⟩:=e;have t:=h.mono c;simp only[FJ,r]at g;split;rename_i k;split;rename_i f u;simp only[u]at g;refine(SR.sure t).ej λo a v l p=>SR.ej (A:=λρ a b=>AR ρ a b) ?_ λ_ a v _ p=>.ff (.ptr p);unfold fieldPlace;refine(SR.size _).ej λq n z d e=>?_;obtain⟨rfl,j,w,rfl⟩:=e;simp only[w,bne_iff_ne,ne_eq]at g;rw[cS g,cS g];exact .ff ((p.mono d).add _);grind;grind
theorem SR.indexAt(t:cR){E:cK}(F:VR ρ x y)(G:VR ρ z E):SV P ρ (Instr.indexAt t x z) (Instr.indexAt t y E):=by
 unfold Instr.indexAt;refine(SR.intOf G).ej λu a b m e=>?_;obtain⟨rfl,_,_⟩:=e;have v:=F.mono m;have⟨k,z⟩:=a;dsimp only;refine(SR.under t).ej λw a b o e=>?_;obtain⟨rfl,_⟩:=e;have r:=v.mono o;cases a with
 |array i g=>
  refine(SR.sure r).ej λB p C s D=>SR.ej (A:=λ_ a b=>a=(some p,i,g)/\b=(some C,i,g)) (.ff ⟨rfl,rfl⟩) λj a b d e=>?_;obtain⟨rfl,rfl⟩:=e;dsimp only;refine(SR.under t).ej λl a b f e=>?_;obtain⟨rfl,_⟩:=e;split;refine(SR.size _).ej λq n H h e=>?_;obtain⟨rfl,_⟩:=e;exact .ff (.ptr ((((D.mono d).mono f).mono h).add _))
  ·repeat' split
   all_goals first|exact .gM|exact SR.boundsPanic _ _ _ _
 |slice g=>
  cases r with
  |gD i c=>
   refine SR.ej (A:=λ_ a b=>a=(none,i,g)/\b=(none,i,g)) (.ff ⟨rfl,rfl⟩) λj a b d e=>?_;obtain⟨rfl,rfl⟩:=e;dsimp only;refine(SR.under t).ej λl a b f e=>?_;grind [SR.boundsPanic]
  | @slice p C i c D=>
   refine SR.ej (A:=λ_ a b=>a=(some p,i,g)/\b=(some C,i,g)) (.ff ⟨rfl,rfl⟩) λj a b d e=>?_;obtain⟨rfl,rfl⟩:=e;dsimp only;refine(SR.under t).ej λl a b f e=>?_;obtain⟨rfl,_⟩:=e;split;refine(SR.size _).ej λq n H h e=>?_;obtain⟨rfl,_⟩:=e;exact .ff (.ptr (((D.mono d).mono f).mono h|>.add _));grind [gM,SR.boundsPanic]
  |_=>exact .dead rfl
 |_=>exact .dead rfl
def SR.bound(h:VR ρ x y)(g:Nat)(c:BoundsCode):SE P ρ (Instr.sliceBound x g c) (Instr.sliceBound y g c):=by unfold Instr.sliceBound;refine(SR.intOf h).ej λf a b d e=>?_;grind [ff,SR.boundsPanic]
inductive sP (ρ:dO):Option cK->Option cK->Prop
 |none:sP ρ none none
 |some {v v':cK} (h:VR ρ v v'):sP ρ (some v) (some v')
theorem sP.mono{ρ a:dO}(b:dO.Le ρ a){o c:Option cK}(h:sP ρ o c):sP a o c:=by
 cases h with
 |none=>exact .none
 |some h=>exact .some (h.mono b)
def XZ(h m:Nat)(c:BoundsCode)(g d:Option cK):sP ρ g d->SE P ρ (match g with|some v=>do let l<-Instr.sliceBound v h c;Pure.pure (l,h,m)|none=>do let l<-Pure.pure 0;Pure.pure (l,h,m))
 (match d with|some v=>do let l<-Instr.sliceBound v h c;Pure.pure (l,h,m)|none=>do let l<-Pure.pure 0;Pure.pure (l,h,m)):=by
 intro f;cases f with
 |none=>exact SR.ej (A:=λ_ a b=>a=b) (.ff rfl) λ_ a b _ e=>by subst e;exact .ff rfl
 |some f=>exact SR.ej (SR.bound f _ _) λ_ a b _ e=>by subst e;exact .ff rfl
def SR.bounds(l:Bool)(n o:Nat){t i w p x q:Option cK}(z:sP ρ t i)(y:sP ρ w p)(u:sP ρ x q):SE P ρ (Instr.sliceBounds l n o t w x) (Instr.sliceBounds l n o i p q):=by
 unfold Instr.sliceBounds;have j:=λr (v:dO.Le ρ r) h m c=>XZ h m c (ρ:=r) t i (z.mono v) (P:=P);cases u with
 |none=>
  dsimp only;refine SR.ej (A:=λ_ a b=>a=b) (.ff rfl) λk m s d e=>?_;subst e;cases y with
  |none=>
   dsimp only;refine SR.ej (A:=λ_ a b=>a=b) (.ff rfl) λg m s f e=>?_;subst e;exact j _ (d.trans f) _ _ _
  |some h=>
   dsimp only;refine SR.ej (SR.bound (h.mono d) _ _) λg m s f e=>?_;subst e;exact j _ (d.trans f) _ _ _
 |some u=>
  dsimp only;refine SR.ej (SR.bound u _ _) λk m s d e=>?_;subst e;cases y with
  |none=>exact .dead rfl
  |some h=>
   dsimp only;refine SR.ej (SR.bound (h.mono d) _ _) λg m s f e=>?_;subst e;exact j _ (d.trans f) _ _ _
theorem SR.slice(t:cR){x B:cK}{C q D r u k:Option cK}(F:VR ρ x B)(G:sP ρ C q)(H:sP ρ D r)(E:sP ρ u k):SV P ρ (Instr.slice t x C D u) (Instr.slice t B q r k):=by
 unfold Instr.slice;refine(SR.under t).ej λv a b f e=>?_;obtain⟨rfl,_⟩:=e;have l:=F.mono f;have m:=G.mono f;have o:=H.mono f;have s:=E.mono f;have I:u.isSome=k.isSome:=by cases E<;>rfl
 cases a with
 |string=>
  cases l<;>first
   |exact .stuck
   |(dsimp only;rw[<-I];split;exact .stuck;refine(SR.bounds _ _ _ m o .none).ej λg a b _ e=>?_;subst e;exact .ff (.string _))
 |slice h=>
  cases l<;>first
   |exact .stuck
   |(dsimp only;refine(SR.bounds _ _ _ m o s).ej λg a b d e=>?_;subst e;refine(SR.size h).ej λp n J c e=>?_;obtain⟨rfl,_⟩:=e;refine .ff ?_;split;first|exact .gD _ _|exact .slice _ _ ((AR.mono d ‹_›).mono c)
     first|exact .gD _ _|exact .slice _ _ (((AR.mono d ‹_›).mono c).add _))
 |pointer w=>
  refine(SR.asAddr l).ej λg a L d K=>(SR.under w).ej λp a b c e=>?_;obtain⟨rfl,_⟩:=e;cases a with
  |array n h=>
   refine(SR.bounds _ _ _ ((m.mono d).mono c) ((o.mono d).mono c) ((s.mono d).mono c)).ej λy a b i e=>?_;subst e;refine(SR.size h).ej λz n J j e=>?_;obtain⟨rfl,_⟩:=e;have A:=((K.mono c).mono i).mono j;refine .ff (.slice _ _ ?_);split;omega;exact A.add _
  |_=>exact .stuck
 |_=>exact .stuck
theorem SR.sliceAt(t:cR){w h z i A j:Option cK}(B:VR ρ x y)(C:sP ρ w h)(D:sP ρ z i)(E:sP ρ A j):SV P ρ (Instr.sliceAt t x w z A) (Instr.sliceAt t y h i j):=by
 unfold Instr.sliceAt;refine(SR.under t).ej λq a b c e=>?_;obtain⟨rfl,_⟩:=e;have k:=B.mono c;have l:=C.mono c;have m:=D.mono c;have o:=E.mono c;cases a with
 |array n p=>
  refine(SR.sure k).ej λr a G d F=>(SR.bounds _ _ _ (l.mono d) (m.mono d) (o.mono d)).ej λs a b f e=>?_;subst e;refine(SR.size p).ej λu n H g e=>?_;obtain⟨rfl,_⟩:=e;have v:=(F.mono f).mono g;refine .ff (.slice _ _ ?_);split;omega;exact v.add _
 |_=>exact SR.slice t k l m o
theorem SR.index(t:cR){o:cK}(p:VR ρ x y)(q:VR ρ z o):SV P ρ (Instr.index t x z) (Instr.index t y o):=by
 unfold Instr.index;refine(SR.intOf q).ej λi a b c e=>?_;obtain⟨rfl,_,_⟩:=e;have j:=p.mono c;have⟨k,z⟩:=a;refine(SR.under t).ej λl a b d e=>?_;obtain⟨rfl,_⟩:=e;have h:=j.mono d;cases a with
 |array r g=>
  cases h<;>first
   |exact .stuck
   |(dsimp only;split;refine(SR.size g).ej λm n s f e=>?_;obtain⟨rfl,_⟩:=e;exact SR.part g (fX.mono f ⟨‹_›,‹_›⟩) _;exact SR.boundsPanic _ _ _ _)
 |string=>
  cases h<;>first
   |exact .stuck
   |(dsimp only;split;exact .ff (.int _ _);exact SR.boundsPanic _ _ _ _)
 |_=>exact .stuck
theorem SR.field(t:cR)(k:VR ρ x y)(i:Nat):SV P ρ (Instr.field t x i) (Instr.field t y i):=by
 unfold Instr.field;refine(SR.under t).ej λg a b c e=>?_;obtain⟨rfl,_⟩:=e;have h:=k.mono c;cases a with
 |struct d=>
  dsimp only;split;exact(SR.asAgg h).ej λj a m f l=>SR.part _ l _;exact .stuck
 |_=>exact .stuck
theorem SR.extract(b:VR ρ x y)(i:Nat):SV P ρ (Instr.extract x i) (Instr.extract y i):=by
 unfold Instr.extract;cases b with
 |tuple c d=>
  grind [fX.get?,stuck,ff]
 |DO e a=>simp;exact .stuck
 |_=>exact .stuck
theorem SR.unary(a:UnOp)(b:VR ρ x y):SV P ρ (Op.unary a x) (Op.unary a y):=by
 unfold Op.unary;cases a<;>cases b<;>first
  |exact .stuck
  |exact .gM
  |exact .ff (.int _ _)
  |exact .ff (.bool _)
end
section
variable{P:cU}{ρ:dO}
def AR.eq{c b d:Addr}(a:AR ρ h c)(k:AR ρ b d)(e:h=b):c=d:=by
 subst e;cases a with
 |mk f g a=>
  cases k with
  |mk i j k=>rw[ρ.nG _ _ _ a k]
theorem AR.r{a:Addr}(b:AR ρ h a):ρ.r h.block a.block:=by cases b with|mk o s b=>grind
theorem AR.off{a:Addr}(b:AR ρ h a):h.off+(ρ.sh h.block).getD 0=a.off/\h.spot=a.spot:=by cases b with|mk o s b=>grind
def SR.XA(h:ρ.r m k):SR P (λρ a b=>(ρ.sh m=none/\a=b)\/∃c y,a=some (uZ,c)/\b=some y) ρ (Go.shape m) (Go.shape k):=.shape h (λd x=>.pure (.inl ⟨d,rfl⟩)) λ_ c y=>.pure (.inr ⟨c,y,rfl,rfl⟩)
theorem SR.viewAt(h:ρ.r m k):SE P ρ (Go.viewAt m) (Go.viewAt k):=by
 unfold Go.viewAt;refine(SR.XA h).ej λc a b d e=>?_;obtain⟨_,rfl⟩|⟨j,y,rfl,rfl⟩:=e;case inr=>exact .ff rfl
 try dsimp only
 split;exact .ff rfl;refine SR.ej (A:=λρ a b=>kO ρ a b) (.getObj (d.r _ _ h) λo i f _=>.pure f) λg o i _ f=>?_;cases f<;>exact .ff rfl
theorem SR.numberAt(h:ρ.r m k):SR P (λρ a b=>(a=none/\b=none)\/∃x y l,a=some (x,l)/\b=some (y,l)/\AR ρ x y) ρ (Go.numberAt m) (Go.numberAt k):=by
 unfold Go.numberAt;refine(SR.XA h).ej λc a b d e=>?_;obtain⟨_,rfl⟩|⟨j,y,rfl,rfl⟩:=e;case inr=>grind [ff]
 try dsimp only
 split;grind [ff];refine SR.ej (A:=λρ a b=>kO ρ a b) (.getObj (d.r _ _ h) λo i f _=>.pure f) λg o i _ f=>?_;cases f with
 |number l h=>grind [ff]
 |_=>exact .ff (.inl ⟨rfl,rfl⟩)
def SR.behind{d:Addr}(f:AR ρ h d):SR P (λρ h b=>AR ρ h.1 b.1/\h.2=b.2) ρ (behindNumber h) (behindNumber d):=by unfold behindNumber;refine(SR.numberAt f.r).ej λa x y c e=>?_;obtain⟨rfl,rfl⟩|⟨x,y,l,rfl,rfl,g⟩:=e;exact .ff ⟨f.mono c,rfl⟩;grind [ff]
theorem SR.noView{b:Addr}(c:AR ρ h b):SE P ρ (Go.noView h) (Go.noView b):=by unfold Go.noView;refine(SR.viewAt c.r).ej λa x y d e=>?_;subst e;split;exact .gM;exact .ff rfl
theorem SR.byteOf{j:Addr}(f:AR ρ h j)(n:ρ.sh h.block=none):SE P ρ (Go.byteOf h) (Go.byteOf j):=by
 have o:h.off=j.off:=by have:=f.off.1;grind
 unfold Go.byteOf;rw[<-f.off.2];try dsimp only
 split;exact .ff rfl;refine SR.prog.ej λk x y c e=>?_;obtain⟨rfl,rfl⟩:=e;try simp only[gx,kV,jp,jo,fD,fR,gy,fU]
 refine(SR.noView (f.mono c)).ej λd _ _ a _=>?_;have l:d.sh h.block=none:=by rw[<-a.g,<-c.g];grind
 refine SR.ej (A:=λ_ h b=>h=b) (.shape (((f.mono c).mono a).r) (λ_ x=>.pure rfl) λf=>absurd l f) λm x y i e=>?_;grind [ff,stuck]
theorem SR.add{S:dZ->Bool}(F:Fit P S D)(j:Array cR)(t:cR){v:cK}(h:VR ρ x z)(G:VR ρ y v)(H:∃a,x=.pointer a):
 SR P (λρ a b=>VR ρ a b/\∃l,a=.pointer l) ρ (Builtin.unsafeAdd_ j t #[x,y]) (Builtin.unsafeAdd_ j t #[z,v]):=by
 obtain⟨a,rfl⟩:=H;have E:∀(o q:dW),((o=none/\q=none)\/∃a u,o=some a/\q=some u/\AR ρ a u)->
  SR P (λρ a b=>VR ρ a b/\∃l,a=.pointer l) ρ (Builtin.unsafeAdd_ j t #[.pointer o,y]) (Builtin.unsafeAdd_ j t #[.pointer q,v]):=by
  intro o q h;unfold Builtin.unsafeAdd_;refine(SR.asInt G).ej λw n m f e=>?_;subst e;dsimp only;obtain⟨rfl,rfl⟩|⟨a,u,rfl,rfl,p⟩:=h
  ·dsimp only;repeat' split
   all_goals exact .dead rfl
  dsimp only;split;refine(SR.viewAt (p.mono f).r).ej λA l y k e=>?_;subst e;split;exact .gM;exact .ff ⟨.ptr ((p.mono f).mono k),_,rfl⟩;split;exact .gM
  ·refine(SR.XA (p.mono f).r).ej λB l y d e=>?_;obtain⟨K,rfl⟩|⟨m,y,rfl,rfl⟩:=e;case inr=>
    refine SR.prog.ej λi l y c e=>?_;obtain⟨rfl,rfl⟩:=e;have I:l.cellsOf uZ=0:=by simp[Program.cellsOf,F.bad]
    simp only[cellAtBytes,I,true_or,em];exact .gM
   try dsimp only
   split;refine SR.prog.ej λi l y c e=>?_;obtain⟨rfl,rfl⟩:=e;try simp only[gx,kV,jp,jo,fD,fR,gy,fU]
   have J:a.off=u.off:=by have:=((p.mono f).mono d).off.1;grind
   rw[<-J];split;refine .ff ⟨.ptr ?_,_,rfl⟩;have:=((p.mono f).mono d).mono c;have C:i.sh a.block=none:=by rw[<-c.g];grind
   cases this with|mk o s h=>exact .of _ _ h C
   exact .gM;exact .gM
 cases h with
 |jI=>grind
 |ptr h=>grind
theorem SR.asNumber{a:Addr}(l:Bool)(d:AR ρ h a):SV P ρ (Go.asNumber h l) (Go.asNumber a l):=by unfold Go.asNumber;exact SR.ej (A:=λρ h b=>ρ.r h b/\ρ.sh h=none) (.new (.number l d) λn i j k e=>.pure ⟨dO.tT _ _ _ _ _,e⟩) λf h b g c=>.ff (.ptr (.of _ _ c.1 c.2))
def SR.Cw{S:dZ->Bool}(F:Fit P S D)(t:cR){n:cK}(r:VR ρ x z)(s:VR ρ y n)(u:∃a,x=.pointer a):SV P ρ (movedNumber t x y) (movedNumber t z n):=by
 unfold movedNumber;refine(SR.under t).ej λj a b c e=>?_;obtain⟨rfl,_⟩:=e;have k:=r.mono c;have f:=s.mono c;try dsimp only
 split;exact .gM;obtain⟨a,rfl⟩:=u;cases k with
 |jI=>exact(SR.add F #[] t .jI f ⟨_,rfl⟩).jJ λ_ _ _ _ h=>h.1
 |ptr A=>
  dsimp only;refine(SR.behind A).ej λl p q d e=>?_;have⟨g,o⟩:=e;have⟨C,E⟩:=p;have⟨G,H⟩:=q;simp only at o g;subst o;dsimp only;refine(SR.add F #[] t (.ptr g) (f.mono d) ⟨_,rfl⟩).ej λm v w i e=>?_;obtain⟨B,I,rfl⟩:=e;cases B with
  |jI=>exact .ff .jI
  |ptr h=>exact SR.asNumber _ h
def SR.OI{S:dZ->Bool}(F:Fit P S D)(t:cR){d:cK}(i:VR ρ x z)(f:VR ρ y d)(j:∃a,x=.pointer a):SV P ρ (movedPointer t x y) (movedPointer t z d):=by
 unfold movedPointer;obtain⟨a,rfl⟩:=j;cases i with
 |jI=>exact(SR.add F #[] t .jI f ⟨_,rfl⟩).jJ λ_ _ _ _ h=>h.1
 |ptr g=>
  dsimp only;refine(SR.numberAt g.r).ej λc p q b e=>?_;have k:p.isSome=q.isSome:=by grind
  rw[<-k];split;exact .gM;exact(SR.add F #[] t (.ptr (g.mono b)) (f.mono b) ⟨_,rfl⟩).jJ λ_ _ _ _ h=>h.1
theorem SR.twoPlaces{S:dZ->Bool}(F:Fit P S D){A:dO->Nat×Nat->Nat×Nat->Prop}(a b f g:Addr):SR P A ρ (Op.twoPlaces a b) (Op.twoPlaces f g):=by
 unfold Op.twoPlaces;have e:∀c:Bool,(c||decide (a.block>=P.globals.size))=true:=λc=>by simp[F.globals]
 refine SR.prog.ej λd x y h i=>?_;obtain⟨rfl,rfl⟩:=i;try simp only[gx,kV,jp,jo,fD,fR,gy,fU]
 rw[cV (e _)];exact .dead rfl
theorem SR.addrMod(d:P.info? uZ=none)(k:IntKind){l:Addr}(o:AR ρ h l)(n:Int):SV P ρ (Op.addrMod k h n) (Op.addrMod k l n):=by
 unfold Op.addrMod;refine(SR.XA o.r).ej λf x y b e=>?_;obtain⟨q,rfl⟩|⟨m,y,rfl,rfl⟩:=e;case inr=>
  refine .never λw=>?_;have⟨c,p⟩:∃c,(typeInfo uZ).run P w=.halt (.stuck c) w:=by unfold typeInfo;rw[Sem.run_bind];simp only[show(Go.program).run P w=.ok P w from rfl,Result.andThen_ok,d];simp
  refine⟨.stuck c,w,?_,rfl⟩;dsimp only;rw[Sem.run_bind,p];rfl
 try dsimp only
 split;refine(SR.info _).ej λi x y a e=>?_;obtain⟨rfl,_⟩:=e;try dsimp only
 split;exact .gM;refine(SR.byteOf ((o.mono b).mono a) (by rw[<-a.g];grind)).ej λj x y _ e=>?_;subst e;exact .ff (.int _ _);exact .gM
def SR.X0{S:dZ->Bool}(F:Fit P S D)(m:Nat):∀(d:Nat) (t:cR),fQ P m t=true->m<=d->∀{ρ:dO} {x N y O:cK},VR ρ x N->VR ρ y O->SE P ρ (Op.equalIn d t x y) (Op.equalIn d t N O):=by
 induction m with
 |zero=>grind [fQ]
 |succ m ih=>
  intro d t J aa ρ x N y O hx hy;obtain _|d:=d;omega;have H:m<=d:=cM;unfold Op.equalIn;refine(SR.under t).ej λQ a b z e=>?_;obtain⟨rfl,hu⟩:=e;have B:=hx.mono z;have s:=hy.mono z;simp only[fQ,hu]at J;cases a with
  |bool=>cases B<;>cases s<;>first|exact .ff rfl|exact .stuck
  |string=>cases B<;>cases s<;>first|exact .ff rfl|exact .stuck
  |slice e=>cases B<;>cases s<;>first|exact .ff rfl|exact .stuck
  |int k=>
   cases B with
   |ptr ha=>cases s with
    |ptr hb=>
     refine(SR.behind ha).ej λC p q g e=>(SR.behind (hb.mono g)).ej λE R q' h e'=>?_;dsimp only;have hg:∀(c:Bool) (n:Nat),(c&&decide (n<P.globals.size))=false:=λc n=>by simp[F.globals]
     refine SR.prog.ej λu x y l K=>?_;obtain⟨rfl,rfl⟩:=K;try simp only[gx,kV,jp,jo,fD,fR,gy,fU]
     rw[hg,hg];simp only[iR,fq];refine(SR.info t).ej λG i j o e2=>?_;obtain⟨rfl,_⟩:=e2;split;by_cases hA:p.1=R.1;rw[show(p.1==R.1)=true by grind,show(q.1==q'.1)=true by simpa using(e.1.mono h).eq e'.1 hA];exact .ff rfl;rw[show(p.1==R.1)=false by grind];exact .gM;exact .gM
    |int k n=>
     obtain(_|j)|j:=n;exact .ff rfl;exact .gM;exact .gM
    |_=>exact .gM
   |int k n=>cases s with
    |ptr hb=>
     obtain(_|j)|j:=n;exact .ff rfl;exact .gM;exact .gM
    |int T L=>
     by_cases hk:k=T;subst hk;show SE P _ (if k=k then Pure.pure (n==L)else Go.stuck "==: kinds differ") (if k=k then Pure.pure (n==L)else Go.stuck "==: kinds differ");rw[cV rfl];exact .ff rfl;show SE P _ (if k=T then Pure.pure (n==L)else Go.stuck "==: kinds differ") (if k=T then Pure.pure (n==L)else Go.stuck "==: kinds differ");rw[cS hk];exact .stuck
    |jI=>exact .gM
    |_=>exact .stuck
   |jI=>cases s<;>exact .gM
   |_=>cases s<;>first|exact .gM|exact .stuck
  |struct M=>
   simp only[eW,sH,yV]at J;cases B<;>cases s<;>first
    |exact .stuck
    |(rename_i U V _ _ W X;dsimp only;refine SR.prog.ej λC x y g K=>?_;obtain⟨rfl,rfl⟩:=K;try simp only[gx,kV,jp,jo,fD,fR,gy,fU]
      rw[J.1];simp only[iR,fq];rw[<-Ov,<-Ov];refine SR.ej (SR.forIn_list _ _ λf Y r E h=>?_) λu r r' _ e=>?_;split;refine(SR.part f.type (fX.mono (g.trans h) ⟨U,V⟩) f.offset).ej λu v v' l Z=>(SR.part f.type (fX.mono ((g.trans h).trans l) ⟨W,X⟩) f.offset).ej λG w w' o hw=>(ih d f.type (J.2 f cL) H (Z.mono o) hw).ej λI p q _ e=>?_;grind [ff];exact .ff rfl;grind [ff])
  |array ab A=>
   cases B<;>cases s<;>first
    |exact .stuck
    |(rename_i U V _ _ W X;dsimp only;refine(SR.size A).ej λC n L g K=>?_;obtain⟨rfl,_⟩:=K;simp only[Std.Legacy.Range.forIn_eq_forIn_range'];refine SR.ej (SR.forIn_list _ _ λi Y r E h=>?_) λu r r' _ e=>?_;refine(SR.part A (fX.mono (g.trans h) ⟨U,V⟩) _).ej λu v v' l Z=>(SR.part A (fX.mono ((g.trans h).trans l) ⟨W,X⟩) _).ej λG w w' o hw=>(ih d A J H (Z.mono o) hw).ej λI p q _ e=>?_;grind [ff];grind [ff])
  |_=>simp at J
end
section
variable{P:cU}{ρ:dO}
def xf(m:Nat):∀(d:Nat) (t:cR),fQ P m t=true->m<=d->P.eqGuardType d t=false:=by
 induction m with
 |zero=>grind [fQ]
 |succ m e=>
  intro d t a c;obtain _|d:=d;omega;have b:m<=d:=cM;simp only[fQ]at a;unfold Program.eqGuardType;split at a;grind;grind;grind;grind;grind;grind;grind
theorem SR.eqGuard{S:dZ->Bool}(F:Fit P S D)(b:BinOp)(t:cR)(r:b≠ .eql->b≠ .neq->True)(n:(b=.eql\/b=.neq)->fQ P 5 t=true)(i j:dU){k:cK}(o:VR ρ x y)(p:VR ρ z k):SE P ρ (eqGuard b t i j x z) (eqGuard b t i j y k):=by
 unfold Go.eqGuard;by_cases d:b=.eql\/b=.neq
 ·have e:(!(match b with| .eql| .neq=>true|_=>false))=false:=by obtain rfl|rfl:=d<;>rfl
  have c:=n d;obtain rfl|rfl:=d;all_goals
   dsimp only;cases o<;>cases p<;>first
    |exact .ff rfl
    |(dsimp only;refine SR.prog.ej λa l m f g=>?_;obtain⟨rfl,rfl⟩:=g;refine SR.prog.ej λa l m f g=>?_;obtain⟨rfl,rfl⟩:=g;try simp only[gx,kV,jp,jo,fD,fR,gy,fU]
      rw[xf 5 _ _ c F.depth];exact .ff (by first|rfl|trivial))
    |(dsimp only;repeat' split
      all_goals first
      |exact .ff rfl
      |refine SR.ej (A:=λ_ x z=>x=false/\z=false) ?_ λh l m f g=>?_;show SR P _ ρ (Op.eqGuardIn (9999+1) t .nilIface .nilIface) (Op.eqGuardIn (9999+1) t .nilIface .nilIface);unfold Op.eqGuardIn;refine(SR.under t).ej λa x z _ e=>?_;obtain⟨rfl,q⟩:=e;simp only[fQ,q]at c;cases x<;>first|exact .ff ⟨rfl,rfl⟩|(simp at c)
       obtain⟨rfl,rfl⟩:=g;exact .ff rfl)
 cases b<;>first|exact absurd (.inl rfl) d|exact absurd (.inr rfl) d|exact .ff rfl
def SR.U7(d:BinOp)(t:cR)(k e:IntKind)(a b:Int):SV P ρ (binOp d t (.int k a) (.int e b)) (binOp d t (.int k a) (.int e b)):=by
 have c:∀d:BinOp,SV P ρ (if k≠e then Go.stuck "BinOp: operands of different kinds" else
  match d with
  | .add| .sub| .mul=>Op.intArith d k a b
  | .quo| .rem=>Op.intDiv d k a b
  | .and| .or| .xor| .andNot=>Op.intBits d k a b
  |_=>Op.intCmp d a b) (if k≠e then Go.stuck "BinOp: operands of different kinds" else
  match d with
  | .add| .sub| .mul=>Op.intArith d k a b
  | .quo| .rem=>Op.intDiv d k a b
  | .and| .or| .xor| .andNot=>Op.intBits d k a b
  |_=>Op.intCmp d a b):=by
  intro d;split;exact .stuck;cases d<;>first
   |exact .ff (.int _ _)
   |exact .ff (.bool _)
   |exact .stuck
   |(dsimp only;unfold Op.intDiv;split;grind [SR.kA];exact .ff (.int _ _))
 cases d with
 |add=>exact c .add
 |sub=>exact c .sub
 |mul=>exact c .mul
 |quo=>exact c .quo
 |rem=>exact c .rem
 |and=>exact c .and
 |or=>exact c .or
 |xor=>exact c .xor
 |andNot=>exact c .andNot
 |eql=>exact c .eql
 |neq=>exact c .neq
 |lss=>exact c .lss
 |leq=>exact c .leq
 |gtr=>exact c .gtr
 |geq=>exact c .geq
 |shl=>
  show SV P ρ (Op.shift .shl k a e b) (Op.shift .shl k a e b);unfold Op.shift;split;grind [SR.kA];exact .ff (.int _ _)
 |shr=>
  show SV P ρ (Op.shift .shr k a e b) (Op.shift .shr k a e b);unfold Op.shift;split;grind [SR.kA];exact .ff (.int _ _)
def SR.U8(c:BinOp)(t:cR)(a b:ByteArray):SV P ρ (binOp c t (.string a) (.string b)) (binOp c t (.string a) (.string b)):=by
 cases c<;>first
  |exact .ff (.bool _)
  |exact .stuck
  |(show SV P ρ (Op.stringOp .add a b) (Op.stringOp .add a b);unfold Op.stringOp;dsimp only;split;exact .gM;exact .ff (.string _))
theorem SR.equal{S:dZ->Bool}(F:Fit P S D)(t:cR)(b:fQ P 5 t=true){a:cK}(c:VR ρ x z)(d:VR ρ y a):SE P ρ (Op.equal t x y) (Op.equal t z a):=
 SR.X0 F 5 Op.maxDepth t b kg c d
theorem SR.X3{S:dZ->Bool}(F:Fit P S D)(d:BinOp)(j:d=.eql\/d=.neq)(t:cR)(i:fQ P 5 t=true){f:cK}(g:VR ρ x z)(h:VR ρ y f):SV P ρ (binOp d t x y) (binOp d t z f):=by
 have k:SV P ρ (do Pure.pure (Value.bool (<-Op.equal t x y))) (do Pure.pure (Value.bool (<-Op.equal t z f))):=by refine SR.ej (SR.equal F t i g h) λc a b _ e=>?_;subst e;exact .ff (.bool _)
 have l:SV P ρ (do Pure.pure (Value.bool (!(<-Op.equal t x y)))) (do Pure.pure (Value.bool (!(<-Op.equal t z f)))):=by refine SR.ej (SR.equal F t i g h) λc a b _ e=>?_;subst e;exact .ff (.bool _)
 obtain rfl|rfl:=j;cases g<;>cases h<;>first|exact k|exact SR.U7 _ _ _ _ _ _|exact SR.U8 _ _ _ _
 cases g<;>cases h<;>first|exact l|exact SR.U7 _ _ _ _ _ _|exact SR.U8 _ _ _ _
theorem SR.Wv{S:dZ->Bool}(F:Fit P S D)(d:BinOp)(m:d≠ .eql/\d≠ .neq)(t:cR){o:cK}(q:VR ρ x z)(j:VR ρ y o)(p:(∃a,x=.pointer a)\/∃a,y=.pointer a):SV P ρ (binOp d t x y) (binOp d t z o):=by
 cases q with
 |jI=>
  cases j with
  |int k n=>
   cases d<;>first
    |exact .gM
    |exact cL
    |exact cL
    |(refine(SR.under t).ej λc a b f e=>?_;obtain⟨rfl,_⟩:=e;cases a<;>first|exact SR.Cw F t .jI (.int k n) ⟨none,rfl⟩|exact SR.OI F t .jI (.int k n) ⟨none,rfl⟩)
    |exact SR.Cw F t .jI (.int k (-n)) ⟨none,rfl⟩
  |_=>cases d<;>first|exact .gM|exact cL|exact cL
 |ptr g=>
  cases j with
  |int k n=>
   cases d<;>first
    |exact .gM
    |exact cL
    |exact cL
    |(refine(SR.under t).ej λc a b f e=>?_;obtain⟨rfl,_⟩:=e;split<;>first|exact SR.OI F t (.ptr (g.mono f)) (.int _ _) ⟨_,rfl⟩|exact SR.Cw F t (.ptr (g.mono f)) (.int _ _) ⟨_,rfl⟩)
    |exact SR.Cw F t (.ptr g) (.int _ _) ⟨_,rfl⟩
    |(refine(SR.behind g).ej λc a b _ e=>?_;exact SR.addrMod F.bad _ e.1 _)
  |ptr i=>
   cases d<;>first
    |exact .gM
    |exact absurd rfl m.1
    |exact absurd rfl m.2
    |(refine(SR.behind g).ej λc a b f e=>?_;refine(SR.behind (i.mono f)).ej λl r s _ u=>?_;first
       |(unfold Op.addrSub;exact SR.ej (SR.twoPlaces F (A:=λ_ _ _=>False) _ _ _ _) cL)
       |(unfold Op.addrCmp;exact SR.ej (SR.twoPlaces F (A:=λ_ _ _=>False) _ _ _ _) cL))
  |_=>cases d<;>first|exact .gM|exact cL|exact cL
 |int k n=>
  cases j with
  |jI=>
   cases d<;>first
    |exact .gM
    |exact cL
    |exact cL
    |exact SR.Cw F t .jI (.int _ _) ⟨_,rfl⟩
  |ptr i=>
   cases d<;>first
    |exact .gM
    |exact cL
    |exact cL
    |exact SR.Cw F t (.ptr i) (.int _ _) ⟨_,rfl⟩
    |(refine(SR.behind i).ej λc a b _ e=>?_;exact SR.addrMod F.bad _ e.1 _)
  |_=>obtain⟨a,h⟩|⟨a,h⟩:=p<;>cases h
 |_=>
  cases j with
  |jI=>cases d<;>first|exact .gM|exact cL|exact cL
  |ptr i=>cases d<;>first|exact .gM|exact cL|exact cL
  |_=>obtain⟨a,h⟩|⟨a,h⟩:=p<;>cases h
theorem SR.binOp{S:dZ->Bool}{dim:Bool}(F:Fit P S dim)(b:BinOp)(t:cR)(h:(b=.eql\/b=.neq)->fQ P 5 t=true){c:cK}(e:VR ρ x z)(f:VR ρ y c):SV P ρ (Go.binOp b t x y) (Go.binOp b t z c):=by
 by_cases i:b=.eql\/b=.neq;grind [SR.X3];have g:b≠ .eql/\b≠ .neq:=cL;by_cases d:(∃a,x=.pointer a)\/∃a,y=.pointer a;grind [SR.Wv]
 ·cases e<;>first|exact absurd (.inl ⟨_,rfl⟩) d|skip
  all_goals cases f
  all_goals first
   |exact absurd (.inr ⟨_,rfl⟩) d
   |exact SR.U7 _ _ _ _ _ _
   |exact SR.U8 _ _ _ _
   |(cases b<;>first|exact .stuck|exact .gM|exact cL|exact cL)
theorem SR.conv(s d:cR)(j:intType P s=true)(k:intType P d=true)(l:VR ρ x y):SV P ρ (Go.convert s d x) (Go.convert s d y):=by
 unfold Go.convert;refine(SR.under s).ej λf a b g e=>?_;obtain⟨rfl,m⟩:=e;refine(SR.under d).ej λh n p c e=>?_;obtain⟨rfl,o⟩:=e;simp only[intType,m]at j;simp only[intType,o]at k;have i:=(l.mono g).mono c;cases a<;>first|(simp at j;done)|skip
 cases n<;>first|(simp at k;done)|skip
 cases i<;>first|exact .ff (.int _ _)|exact .gM|exact .stuck
end
section
variable{P:cU}{ρ:dO}
theorem SR.checkKey{S:dZ->Bool}(F:Fit P S D)(E:Bool)(m:Nat):∀(d:Nat) (t:cR),fQ P m t=true->m<=d->∀{ρ:dO} {x u:cK},VR ρ x u->SE P ρ (Instr.checkKey E d t x) (Instr.checkKey E d t u):=by
 have _:=F;induction m with
 |zero=>grind [fQ]
 |succ m Q=>
  intro d t w H ρ x u I;obtain _|d:=d;omega;have G:m<=d:=cM;unfold Instr.checkKey;refine(SR.under t).ej λy a b h e=>?_;obtain⟨rfl,J⟩:=e;have q:=I.mono h;simp only[fQ,J]at w;cases a with
  |bool=>grind [ff]
  |string=>grind [ff]
  |slice e=>grind [ff]
  |int k=>grind [ff]
  |struct s=>
   simp only[eW,sH,yV]at w;cases q with
   |agg z A=>
    dsimp only;rw[<-Ov,<-Ov];refine SR.ej (SR.forIn_list _ _ λf B r p c=>?_) λg r K _ e=>.ff e;split;refine(SR.part f.type (fX.mono c ⟨z,A⟩) f.offset).ej λg v L j M=>?_;grind [SR.ej,ff];exact .ff rfl
   |_=>exact .stuck
  |array N o=>
   cases q with
   |agg z A=>
    dsimp only;simp only[Std.Legacy.Range.forIn_eq_forIn_range'];refine SR.ej (SR.forIn_list _ _ λi B r p c=>?_) λg r K _ e=>.ff trivial;refine(SR.size o).ej λC n R l O=>?_;obtain⟨rfl,_⟩:=O;refine(SR.part o (fX.mono (c.trans l) ⟨z,A⟩) _).ej λg v L j M=>?_;grind [SR.ej,ff]
   |_=>exact .stuck
  |_=>simp at w
inductive ry (ρ:dO):List MapEntry->List MapEntry->Prop
 |nil:ry ρ [] []
 |cons {e e':MapEntry} {l l':List MapEntry} (h:uY ρ e e') (t:ry ρ l l'):ry ρ (e::l) (e'::l')
theorem ry.of{ρ:dO}:∀{l a:List MapEntry},l.length=a.length->(∀(i:Nat) v b,l[i]? =some v->a[i]? =some b->uY ρ v b)->ry ρ l a
 |[],[],_,_=>.nil
 |[],_::_,h,_=>cL
 |_::_,[],h,_=>cL
 |v::l,b::a,h,k=>.cons (k 0 v b rfl rfl) (ry.of cL λi x c d e=>k (i+1) x c cL cL)
theorem ry.mono{ρ a:dO}(b:dO.Le ρ a){l c:List MapEntry}(h:ry ρ l c):ry a l c:=by
 induction h with
 |nil=>exact .nil
 |cons h _ d=>exact .cons (h.mono b) d
def ry.empty{ρ:dO}{l a:List MapEntry}(h:ry ρ l a):l.isEmpty=a.isEmpty:=by cases h<;>rfl
def Mh(a:TypeDesc){b:cK}(c:VR ρ x y)(d:VR ρ z b):Instr.sameNow a x z=Instr.sameNow a y b:=by cases a<;>first|rfl|(cases c<;>cases d<;>rfl)
def Mi(a:TypeDesc)(d:VR ρ x y){l b:List MapEntry}(h:ry ρ l b):∀i,(Instr.findNow a x l i=none/\Instr.findNow a y b i=none)\/(Instr.findNow a x l i=some none/\Instr.findNow a y b i=some none)\/∃j v c,Instr.findNow a x l i=some (some (j,v))/\Instr.findNow a y b i=some (some (j,c))/\VR ρ v c:=by
 induction h with
 |nil=>exactλi=>.inr (.inl ⟨rfl,rfl⟩)
 |cons h _ e=>
  intro i;simp only[Instr.findNow];rw[<-Mh a d h.key];split;exact .inr (.inr ⟨_,_,_,rfl,rfl,h.val⟩);grind;simp
def OJ(ρ:dO)(a b:Option (Nat×cK)):Prop:=(a=none/\b=none)\/∃j v c,a=some (j,v)/\b=some (j,c)/\VR ρ v c
theorem SR.findAsking{S:dZ->Bool}(F:Fit P S D)(t:cR)(o:fQ P 5 t=true){l m:List MapEntry}(h:ry ρ l m):∀{d:dO} (i:Nat) {k g:cK},dO.Le ρ d->VR d k g->SR P OJ d (Instr.findAsking t k l i) (Instr.findAsking t g m i):=by
 induction h with
 |nil=>exactλi _ _ _ _=>.ff (.inl ⟨rfl,rfl⟩)
 |cons h _ p=>
  intro d i k g f n;unfold Instr.findAsking;refine(SR.equal F t o n (h.key.mono f)).ej λj a b c e=>?_;subst e;split;exact .ff (.inr ⟨_,_,_,rfl,rfl,h.val.mono (f.trans c)⟩);exact p _ (f.trans c) (n.mono c)
theorem SR.findKey{S:dZ->Bool}(F:Fit P S D)(t:cR)(m:fQ P 5 t=true){l i:List MapEntry}(h:ry ρ l i)(k:VR ρ x y):SR P OJ ρ (Instr.findKey t x l) (Instr.findKey t y i):=by unfold Instr.findKey;refine(SR.under t).ej λg a b c e=>?_;obtain⟨rfl,o⟩:=e;obtain⟨d,f⟩|⟨d,f⟩|⟨j,v,p,d,f,n⟩:=Mi a (k.mono c) (h.mono c) 0;rw[d,f];exact SR.findAsking F t m (h.mono c) 0 (.refl _) (k.mono c);rw[d,f];exact .ff (.inl ⟨rfl,rfl⟩);rw[d,f];exact .ff (.inr ⟨_,_,_,rfl,rfl,n⟩)
theorem SR.lookup{S:dZ->Bool}(F:Fit P S D)(t:cR)(Q:∀z e,P.underlying t=some (.map z e)->fQ P 5 z=true)(l:Bool){C:cK}(R:VR ρ x y)(T:VR ρ z C):SV P ρ (Instr.lookup t x z l) (Instr.lookup t y C l):=by
 unfold Instr.lookup;refine(SR.under t).ej λm a b h e=>?_;obtain⟨rfl,U⟩:=e;have H:=R.mono h;have q:=T.mono h;cases a with
 |map n E=>
  have r:=Q n E U;dsimp only;have tail:∀c (s k:Array MapEntry),dO.Le m c->ry c s.toList k.toList->SV P c (do
    Instr.checkKey s.isEmpty 10000 n z;let d<-match<-Instr.findKey n z s.toList with
     |some (_,v)=>Pure.pure (v,true)
     |none=>do Pure.pure (<-zeroValue E,false)
    match d with
    |(v,p)=>Pure.pure (if l=true then Value.tuple #[v,.bool p]else v))
   (do
    Instr.checkKey k.isEmpty 10000 n C;let d<-match<-Instr.findKey n C k.toList with
     |some (_,v)=>Pure.pure (v,true)
     |none=>do Pure.pure (<-zeroValue E,false)
    match d with
    |(v,p)=>Pure.pure (if l=true then Value.tuple #[v,.bool p]else v)):=by
   intro c s k f u;have I:s.isEmpty=k.isEmpty:=by have N:∀(a:Array MapEntry),a.isEmpty=a.toList.isEmpty:=cL;rw[N,N];exact u.empty
   rw[<-I];refine(SR.checkKey F _ 5 10000 n r dq (q.mono f)).ej λJ _ _ i _=>(SR.findKey F n r (u.mono i) ((q.mono f).mono i)).ej λK aa ab G L=>?_;have V:∀g (v w:cK) (o:Bool),VR g v w->SV P g (Pure.pure (if l=true then Value.tuple #[v,.bool o]else v)) (Pure.pure (if l=true then Value.tuple #[w,.bool o]else w)):=by intro g v w o M;cases l;exact .ff M;exact .ff (fX.YN (fX.OD M (.bool _)))
   obtain⟨rfl,rfl⟩|⟨j,v,w,rfl,rfl,hv⟩:=L;exact(SR.zero F E).ej cL;grind
  cases H with
  |sN=>
   exact SR.ej (A:=λρ (a b:Array MapEntry)=>ry ρ a.toList b.toList) (.ff .nil) cL
  |map W=>
   refine SR.ej (A:=λρ a b=>kO ρ a b/\∀X t Y,a≠ .cells X t Y) (.getObj W λo Z B O=>.pure ⟨B,O⟩) λc o Z f B=>?_;have⟨B,O⟩:=B;cases B with
   |map M h2=>grind [SR.ej,ff,ry.of]
   |cells _ _=>grind
   |_=>exact .dead rfl
  |_=>exact .dead rfl
 |_=>exact .stuck
theorem IL(n:Nat):∀{a s b t:cK},VR ρ a s->VR ρ b t->Instr.sameBits n a b=true->Instr.sameBits n s t=true:=by
 have i:∀{x d y f:dW},((x=none/\d=none)\/∃p c,x=some p/\d=some c/\AR ρ p c)->((y=none/\f=none)\/∃p c,y=some p/\f=some c/\AR ρ p c)->(x==y)=true->(d==f)=true:=by intro x d y f h k;obtain⟨rfl,rfl⟩|⟨p,c,rfl,rfl,h⟩:=h<;>obtain⟨rfl,rfl⟩|⟨q,B,rfl,rfl,k⟩:=k;simp;simp;simp;simp only[sL,iN];exact h.eq k
 have j:∀{x d y f:Option Nat},((x=none/\d=none)\/∃p c,x=some p/\d=some c/\ρ.r p c)->((y=none/\f=none)\/∃p c,y=some p/\f=some c/\ρ.r p c)->(x==y)=true->(d==f)=true:=by intro x d y f h k;obtain⟨rfl,rfl⟩|⟨p,c,rfl,rfl,h⟩:=h<;>obtain⟨rfl,rfl⟩|⟨q,B,rfl,rfl,k⟩:=k;simp;simp;simp;simp only[sL,iN];exactλe=>by subst e;exact ρ.nG _ _ _ h k
 induction n with
 |zero=>
  intro a s b t v w;cases v<;>cases w<;>first
   |exact id
   |exactλh=>by cases h
   |exact cL
   |exact i cL (.inr ⟨_,_,rfl,rfl,‹_›⟩)
   |exact i (.inr ⟨_,_,rfl,rfl,‹_›⟩) cL
   |exact j cL cL
   |exact j cL cL
   |(rename_i g _ _ m;exact i cL cL)
   |(rename_i g _ _ m;exact j cL cL)
 |succ n F=>
  have o:∀{l z k u:dP},sf ρ l z->sf ρ k u->((l.zip k).all λ(x,y)=>Instr.sameBits n x y)=true->((z.zip u).all λ(x,y)=>Instr.sameBits n x y)=true:=by
   intro l z k u h;induction h generalizing k u with
   |nil=>simp
   |cons h _ C=>
    intro D;cases D with
    |nil=>simp
    |cons G H=>
     simp only[List.zip_cons_cons,List.all_cons,eW];grind
  intro a s b t v w;cases v<;>cases w<;>first
   |exact id
   |exactλh=>by cases h
   |exact cL
   |exact i cL (.inr ⟨_,_,rfl,rfl,‹_›⟩)
   |exact i (.inr ⟨_,_,rfl,rfl,‹_›⟩) cL
   |exact j cL (.inr ⟨_,_,rfl,rfl,‹_›⟩)
   |exact j (.inr ⟨_,_,rfl,rfl,‹_›⟩) cL
   |(rename_i g _ _ m;exact i cL cL)
   |(rename_i g _ _ m;exact j cL cL)
   |(rename_i g _ _ _ m;simp only[Instr.sameBits,eW];exact cL)
   |(rename_i g m _ _ A E;simp only[Instr.sameBits,eW];rw[g,A];exactλ⟨x,y⟩=>⟨x,o (fX.list ⟨g,m⟩) (fX.list ⟨A,E⟩) y⟩)
def FL(n:Nat):∀{a b:cK},Instr.sameBits n a b=true->a=b:=by
 have f:∀{n:Nat} {x y:ByteArray},Instr.sameBits n (.string x) (.string y)=true->x=y:=by
  intro n x y h;have⟨x⟩:=x;have⟨y⟩:=y;have z:(x==y)=true:=by cases n<;>exact h
  grind
 have c:∀{n:Nat} {a b:cK},(∀t v u w,a=.iface t v->b=.iface u w->False)->(∀x y,a=.agg x->b=.agg y->False)->Instr.sameBits n a b=true->a=b:=by intro n a b g i h;cases a<;>cases b<;>first|(exact(g _ _ _ _ rfl rfl).elim)|(exact(i _ _ rfl rfl).elim)|rfl|(cases n<;>simp_all[Instr.sameBits];done)|grind
 induction n with
 |zero=>
  intro a b h;refine c (λt v u w d e=>?_) (λx y d e=>?_) h<;>(subst d e;cases h)
 |succ n A=>
  intro a b h;by_cases j:∃t v u w,a=.iface t v/\b=.iface u w;obtain⟨t,v,u,w,rfl,rfl⟩:=j;simp only[Instr.sameBits,eW,sL]at h;grind;by_cases k:∃x y,a=.agg x/\b=.agg y;obtain⟨x,y,rfl,rfl⟩:=k;simp only[Instr.sameBits,eW,sL]at h
  have o:∀(l m:dP),l.iw=m.iw->((l.zip m).all λ(x,y)=>Instr.sameBits n x y)=true->l=m:=by
   intro l;induction l with
   |nil=>grind
   |cons p l r=>
    intro m B s;cases m with
    |nil=>grind
    |cons q m=>
     simp only[List.zip_cons_cons,List.all_cons,eW]at s;grind
  grind [Array.toList_inj];grind
theorem SX.mapUpdate{S:dZ->Bool}(F:Fit P S D)(t:cR)(W:∀k e,P.underlying t=some (.map k e)->fQ P 5 k=true){k E X:cK}(hm:VR ρ y z)(hk:VR ρ k E)(hx:VR ρ x X):
 SX P (λ_ (a b:Unit)=>a=b) ρ (Instr.mapUpdate t y k x) (Instr.mapUpdate t z E X):=by
 unfold Instr.mapUpdate;refine SX.ej (SR.under t) λY a b u e=>?_;obtain⟨rfl,hu⟩:=e;have Z:=hm.mono u;have H:=hk.mono u;have aa:=hx.mono u;cases a with
 |map kt et=>
  have O:=W kt et hu;dsimp only;cases Z with
  |sN=>exact .of<|SR.kA _ cL
  | @map r r' hr=>
   refine SX.ej (A:=λρ a b=>kO ρ a b/\∀cs t fz,a≠ .cells cs t fz) (.getObj hr λo o' Q hc=>.pure ⟨Q,hc⟩) λI o o' l Q=>?_;have⟨Q,hc⟩:=Q;cases Q with
   | @map C w c h1 h2=>
    dsimp only;have ab:ry I C.toList w.toList:=ry.of cM cL;refine SX.ej (SR.checkKey F _ 5 10000 kt O dq (H.mono l)) λac _ _ g _=>SX.ej (SR.findKey F kt O (ab.mono g) ((H.mono l).mono g)) λB p q m ad=>?_;have J:=((H.mono l).mono g).mono m;have R:=((aa.mono l).mono g).mono m;have K:=m.r _ _ (g.r _ _ (l.r _ _ hr));have L:∀(i:Nat) e M,C[i]? =some e->w[i]? =some M->uY B e M:=λi e M a b=>((h2 i e M a b).mono g).mono m;obtain⟨rfl,rfl⟩|⟨j,v,v',rfl,rfl,hv⟩:=ad;refine .of<| .setObj K (.map cL λi e M a b=>?_) cL (.pure rfl);rw[vO]at a b;rw[<-h1]at b;split at a;rename_i T;rw[cV T]at b;cases a;cases b;exact⟨J,R,rfl⟩;grind;dsimp only;have G:VR B (((C[j]?).map (·.key)).getD k) (((w[j]?).map (·.key)).getD E):=by by_cases hj:j<C.size;have U:j<w.size:=h1▸hj;rw[nh hj,nh U];exact(L j _ _ (nh hj) (nh U)).key;grind
    have V:∀{s:dO} {a b:cK},dO.Le B s->VR s a b->kO s (.map (C.modify j λe=>{e with key:=a,val:=x}) c) (.map (w.modify j λe=>{e with key:=b,val:=X}) c):=λf N=>.map cL λi e M c d=>by rw[nL]at c d;split at c;rename_i T;rw[cV T]at d;obtain⟨e1,f1,rfl⟩:=iU.1 c;obtain⟨e2,f2,rfl⟩:=iU.1 d;exact⟨N,R.mono f,(L i e1 e2 f1 f2).born⟩;rename_i T;rw[cS T]at d;exact(L i e M c d).mono f
    have same:∀(b b':Bool),b=b'->SX P (λ_ (a b:Unit)=>a=b) B
     ((if b=true then Pure.pure k else(do Pure.pure (if(<-Go.choose (.extern "map.whichKeyStays" 2))=0 then k else((C[j]?).map (·.key)).getD k)):Sem cK)>>=λkey=>setObj r (.map (C.modify j λe=>{e with key,val:=x}) c))
     ((if b'=true then Pure.pure E else(do Pure.pure (if(<-Go.choose (.extern "map.whichKeyStays" 2))=0 then E else((w[j]?).map (·.key)).getD E)):Sem cK)>>=λkey=>setObj r' (.map (w.modify j λe=>{e with key,val:=X}) c)):=by
     intro b b' e;subst e;refine .of (SR.ej (A:=λρ a b=>VR ρ a b) ?_ λs a b f N=>.setObj (f.r _ _ K) (V f N) cL (.pure rfl));split;exact .ff J;refine SR.ej (A:=λ_ a b=>a=b) (.choose λn=>.pure rfl) λs a b f e=>?_;subst e;refine .ff ?_;split;exact J.mono f;exact G.mono f
    unfold Instr.keyThatStays;by_cases hs:Instr.sameBits 10000 (((C[j]?).map (·.key)).getD k) k=Instr.sameBits 10000 (((w[j]?).map (·.key)).getD E) E;exact same _ _ hs
    have hf:Instr.sameBits 10000 (((C[j]?).map (·.key)).getD k) k=false:=by
     cases h:Instr.sameBits 10000 (((C[j]?).map (·.key)).getD k) k with
     |false=>rfl
     |true=>grind [IL]
    have W:Instr.sameBits 10000 (((w[j]?).map (·.key)).getD E) E=true:=by grind
    rw[hf,W];rw[FL _ W]at G;refine SX.skip (o:=λn=>.map (C.modify j λe=>{e with key:=if n=0 then k else((C[j]?).map (·.key)).getD k,val:=x}) c) K (λn=>V (.refl _) ?_) cL rfl;grind
   |cells _ _=>grind
   |_=>exact .of .stuck
  |_=>exact .of .stuck
 |_=>exact .of .stuck
theorem SR.makeMap(t:cR){r g:Option cK}(h:sP ρ r g):SV P ρ (Instr.makeMap t r) (Instr.makeMap t g):=by
 unfold Instr.makeMap
 have tail:∀d,SV P d (do Pure.pure (Value.map (some (<-newObj (.map #[] 0))))) (do Pure.pure (Value.map (some (<-newObj (.map #[] 0))))):=λd=>
  SR.ej (A:=λρ a b=>ρ.r a b) (.new (.map rfl cL) λn k l m _=>.pure (dO.tT _ _ _ _ _)) λd a b i j=>.ff (.map j)
 cases h with
 |none=>grind
 |some h=>
  dsimp only;refine(SR.under t).ej λf a b c e=>?_;obtain⟨rfl,o⟩:=e;split;exact(SR.asInt (h.mono c)).ej cL;exact .stuck
def SR.len(q:Array cR)(t:cR)(h:fX ρ W X):SV P ρ (Builtin.len_ q t W) (Builtin.len_ q t X):=by
 unfold Builtin.len_;obtain⟨w,_⟩|⟨x,D,w,y,z⟩:=h.get? 0;grind [stuck];rw[w,y];cases q[0]? with
 |none=>exact .stuck
 |some B=>
  dsimp only;refine(SR.under B).ej λl a b j e=>?_;obtain⟨rfl,E⟩:=e;have f:=z.mono j;cases a with
  |array n e=>cases f<;>exact .ff (.int _ _)
  |pointer m=>
   have tail:SV P l (do let d<-Go.underlying m;match d with| .array n _=>Pure.pure (goInt n)|_=>Go.stuck "len: pointer to array expected") (do let d<-Go.underlying m;match d with| .array n _=>Pure.pure (goInt n)|_=>Go.stuck "len: pointer to array expected"):=by refine(SR.under m).ej λg a b c e=>?_;obtain⟨rfl,_⟩:=e;cases a<;>first|exact .stuck|exact .ff (.int _ _)
   omega
  |string=>cases f<;>first|exact .stuck|exact .ff (.int _ _)
  |slice e=>cases f<;>first|exact .stuck|exact .ff (.int _ _)
  |map k e=>
   cases f with
   |sN=>exact .ff (.int _ _)
   |map r=>
    refine SR.ej (A:=λρ a b=>kO ρ a b/\∀s t u,a≠ .cells s t u) (.getObj r λo v i p=>.pure ⟨i,p⟩) λg o v c i=>?_;have⟨i,p⟩:=i;cases i with
    |map C F=>dsimp only;rw[C];exact .ff (.int _ _)
    |cells _ _=>grind
    |_=>exact .stuck
   |_=>exact .stuck
  |chan k e=>
   cases f with
   |rq=>exact .ff (.int _ _)
   |chan r=>
    refine SR.ej (A:=λρ a b=>kO ρ a b/\∀s t u,a≠ .cells s t u) (.getObj r λo v i p=>.pure ⟨i,p⟩) λg o v c i=>?_;have⟨i,p⟩:=i;cases i with
    |cells _ _=>grind
    |_=>exact .stuck
   |_=>exact .stuck
  |_=>cases f<;>exact .stuck
def SR.cap(p:Array cR)(t:cR)(h:fX ρ W X):SV P ρ (Builtin.cap_ p t W) (Builtin.cap_ p t X):=by
 unfold Builtin.cap_;obtain⟨q,_⟩|⟨x,C,q,s,u⟩:=h.get? 0;grind [stuck];rw[q,s];cases p[0]? with
 |none=>exact .stuck
 |some v=>
  dsimp only;refine(SR.under v).ej λi a b c e=>?_;obtain⟨rfl,D⟩:=e;have f:=u.mono c;cases a with
  |array n e=>cases f<;>exact .ff (.int _ _)
  |pointer j=>
   have tail:SV P i (do let d<-Go.underlying j;match d with| .array n _=>Pure.pure (goInt n)|_=>Go.stuck "cap: pointer to array expected") (do let d<-Go.underlying j;match d with| .array n _=>Pure.pure (goInt n)|_=>Go.stuck "cap: pointer to array expected"):=by refine(SR.under j).ej λl a b g e=>?_;obtain⟨rfl,_⟩:=e;cases a<;>first|exact .stuck|exact .ff (.int _ _)
   omega
  |slice e=>cases f<;>first|exact .stuck|exact .ff (.int _ _)
  |chan k e=>
   cases f with
   |rq=>exact .ff (.int _ _)
   |chan w=>
    refine SR.ej (A:=λρ a b=>kO ρ a b/\∀y t z,a≠ .cells y t z) (.getObj w λo B m r=>.pure ⟨m,r⟩) λl o B g m=>?_;have⟨m,r⟩:=m;cases m with
    |cells _ _=>grind
    |_=>exact .stuck
   |_=>exact .stuck
  |_=>cases f<;>exact .stuck
def SR.Uk{f:cK->cK->Sem cK}(m:∀{ρ:dO} {a k b l:cK},VR ρ a k->VR ρ b l->SV P ρ (f a b) (f k l))(h:sf ρ M Y):∀{c:dO} {x g:cK},dO.Le ρ c->VR c x g->SV P c (M.foldlM f x) (Y.foldlM f g):=by
 induction h with
 |nil=>grind [ff]
 |cons h _ n=>
  intro c x g e o;simp only[List.foldlM_cons];exact(m o (h.mono e)).ej λi a b d j=>n (e.trans d) j
theorem SR.max2{ρ:dO}{a:cK}(b:VR ρ x y)(c:VR ρ z a):SV P ρ (Builtin.max2 x z) (Builtin.max2 y a):=by cases b<;>cases c<;>first|exact .stuck|exact .gM|exact .ff (.int _ _)|exact .ff (.string _)
theorem SR.min2{ρ:dO}{a:cK}(b:VR ρ x y)(c:VR ρ z a):SV P ρ (Builtin.min2 x z) (Builtin.min2 y a):=by cases b<;>cases c<;>first|exact .stuck|exact .gM|exact .ff (.int _ _)|exact .ff (.string _)
def SR.max(b:Array cR)(t:cR)(h:fX ρ W X):SV P ρ (Builtin.max_ b t W) (Builtin.max_ b t X):=by
 unfold Builtin.max_;have a:=h.list;revert a;generalize W.toList=l;generalize X.toList=e;intro a;cases a with
 |nil=>exact .stuck
 |cons h t=>exact SR.Uk (λc d=>SR.max2 c d) t (.refl _) h
def SR.min(b:Array cR)(t:cR)(h:fX ρ W X):SV P ρ (Builtin.min_ b t W) (Builtin.min_ b t X):=by
 unfold Builtin.min_;have a:=h.list;revert a;generalize W.toList=l;generalize X.toList=e;intro a;cases a with
 |nil=>exact .stuck
 |cons h t=>exact SR.Uk (λc d=>SR.min2 c d) t (.refl _) h
end
section
variable{P:cU}{ρ:dO}
theorem SR.lenOf(h:VR ρ x y):SE P ρ (Builtin.lenOf x) (Builtin.lenOf y):=by cases h<;>first|exact .ff rfl|exact .stuck
theorem SR.firstCells(size n:Nat)(h:VR ρ x y):SR P (λρ a b=>fX ρ a b) ρ (Builtin.firstCells size n x) (Builtin.firstCells size n y):=by
 cases h<;>first
  |exact SR.loadCells ‹_› _
  |exact .ff .nil
  |exact .ff (fX.map _ _ _ λ_ _=>.int _ _)
  |exact .stuck
def FM(h:fX ρ W X)(n:Nat):fX ρ (Builtin.zeroCells W n) (Builtin.zeroCells X n):=by unfold Builtin.zeroCells;have e:∀(a:eH) (i:Nat),a[i]! =(a[i]?).getD default:=cL;rw[<-h.size];refine fX.map _ _ _ λi _=>?_;rw[e,e];obtain⟨b,c⟩|⟨v,d,b,c,f⟩:=h.get? (i%W.size);rw[b,c];exact .bool _;grind
theorem SR.askRoom(n:Nat):SE P ρ (Go.askRoom n) (Go.askRoom n):=by unfold Go.askRoom;split;exact .noRoom (.pure rfl);exact .ff rfl
def FN(size e n:Nat)(f:dW)(x:cK)(w:cJ):∃b,(Builtin.mayShare size e n f x).run P w=.ok b w:=by
 have g:∀(a:Addr) (c:Nat),∃b,(Builtin.holdsCells a c).run P w=.ok b w:=by
  intro a c;unfold Builtin.holdsCells;rw[Sem.run_bind];show∃b,((Result.ok (w.shape? a.block) w).andThen _)=_;rw[Result.andThen_ok];cases w.shape? a.block with
  |none=>simp
  |some p=>simp
 have tail:∀d:Bool,∃b,(if(!d)=true then Pure.pure true else match x with
  | .slice (some b) _ _=>do Pure.pure (!(<-Builtin.holdsCells b (n*size))||f.any (·.block==b.block))
  |_=>Pure.pure false:Sem Bool).run P w=.ok b w:=by
  intro d;cases d with
  |false=>simp
  |true=>
   simp only[Bool.not_true,iR,fq];cases x with
   |slice a l c=>
    cases a with
    |none=>simp
    |some b=>
     have⟨z,i⟩:=g b (n*size);simp_all
   |_=>exact⟨_,rfl⟩
 unfold Builtin.mayShare;cases f with
 |none=>exact tail true
 |some a=>
  have⟨b,h⟩:=g a (e*size);dsimp only;simp only[Sem.run_bind,h,Result.andThen_ok];exact tail (b&&!(w.frozen? (a.add (e/2*size))))
theorem SR.append{S:dZ->Bool}(F:Fit P S D)(ts:Array cR)(t:cR)(ad:∀u,ts[1]? =some u->intType P u=false)(h:fX ρ W X):SV P ρ (Builtin.append_ ts t W) (Builtin.append_ ts t X):=by
 unfold Builtin.append_;obtain⟨e1,_⟩|⟨s,s',e1,e2,hs⟩:=h.get? 0;grind [stuck];obtain⟨f1,_⟩|⟨x,Y,f1,f2,hx⟩:=h.get? 1;grind [stuck];rw[e1,e2,f1,f2];cases ts[0]? with
 |none=>exact .stuck
 |some sT=>
  dsimp only;refine(SR.under sT).ej λO a b R e=>?_;obtain⟨rfl,hu⟩:=e;have aj:=hs.mono R;have ak:=hx.mono R;cases a with
  |slice g=>
   dsimp only;have T:∀(I:dO) (size:Nat) (y r:dW) (d k:Nat),dO.Le O I->VR O (.slice y d k) (.slice r d k)->((y=none/\r=none)\/∃p p',y=some p/\r=some p'/\AR O p p')->SV P I (do
     let n<-Builtin.lenOf x;if d+n<=k then
      let E<-Builtin.firstCells size n x;if let some a:=y then Go.storeCells (a.add (d*size)) E.toList
      Pure.pure (.slice y (d+n) k)
     else
      if((d+n:Nat):Int)>IntKind.i64.max/\(false=true\/(<-typeInfo g).bytes=0)then runtimePanic (.error "growslice: len out of range")
      if Builtin.nextslicecap (d+n) k*(<-typeInfo g).bytes>2^48 then(do
       if !(<-Builtin.mayShare size d n y x)then Go.mark .noRoom
       Go.unsupported (.resourceLimit "append: a slice or a string whose bytes no memory bears"))
      let f<-Go.choose (.appendCap (d+n) k g);Go.askRoom (f*(<-typeInfo g).bytes);let J<-Builtin.firstCells size d (.slice y d k);let E<-Builtin.firstCells size n x;let B:=Builtin.zeroCells (<-zeroValue g).cells (f-(d+n));Pure.pure (.slice (some (<-Go.newRow g (J++E++B))) (d+n) f))
    (do
     let n<-Builtin.lenOf Y;if d+n<=k then
      let E<-Builtin.firstCells size n Y;if let some a:=r then Go.storeCells (a.add (d*size)) E.toList
      Pure.pure (.slice r (d+n) k)
     else
      if((d+n:Nat):Int)>IntKind.i64.max/\(false=true\/(<-typeInfo g).bytes=0)then runtimePanic (.error "growslice: len out of range")
      if Builtin.nextslicecap (d+n) k*(<-typeInfo g).bytes>2^48 then(do
       if !(<-Builtin.mayShare size d n r Y)then Go.mark .noRoom
       Go.unsupported (.resourceLimit "append: a slice or a string whose bytes no memory bears"))
      let f<-Go.choose (.appendCap (d+n) k g);Go.askRoom (f*(<-typeInfo g).bytes);let J<-Builtin.firstCells size d (.slice r d k);let E<-Builtin.firstCells size n Y;let B:=Builtin.zeroCells (<-zeroValue g).cells (f-(d+n));Pure.pure (.slice (some (<-Go.newRow g (J++E++B))) (d+n) f)):=by
    intro I size y r d k v al hb;have Z:=ak.mono v;have ae:=al.mono v;refine(SR.lenOf Z).ej λam n m K e=>?_;subst e;by_cases L:d+n<=k;rw[cV L,cV L];refine(SR.firstCells size n (Z.mono K)).ej λQ c c' M hc=>?_;obtain⟨rfl,rfl⟩|⟨p,p',rfl,rfl,hp⟩:=hb;exact .ff (.gD _ _);have af:=((hp.mono v).mono K).mono M;exact SR.ej (SR.storeCells 0 (af.add (d*size)) hc.list) λC _ _ G _=>.ff (.slice _ _ (af.mono G));rw[cS L,cS L];refine(SR.info g).ej λQ i j M e=>?_;obtain⟨rfl,_⟩:=e;have tail:∀C,dO.Le Q C->SV P C
     (do
      let f<-Go.choose (.appendCap (d+n) k g);Go.askRoom (f*(<-typeInfo g).bytes);let J<-Builtin.firstCells size d (.slice y d k);let E<-Builtin.firstCells size n x;let B:=Builtin.zeroCells (<-zeroValue g).cells (f-(d+n));Pure.pure (.slice (some (<-Go.newRow g (J++E++B))) (d+n) f))
     (do
      let f<-Go.choose (.appendCap (d+n) k g);Go.askRoom (f*(<-typeInfo g).bytes);let J<-Builtin.firstCells size d (.slice r d k);let E<-Builtin.firstCells size n Y;let B:=Builtin.zeroCells (<-zeroValue g).cells (f-(d+n));Pure.pure (.slice (some (<-Go.newRow g (J++E++B))) (d+n) f)):=by
     intro C G;refine SR.ej (A:=λ_ a b=>a=b) (.choose λn=>.pure rfl) λaa c c' N e=>?_;subst e;refine(SR.info g).ej λan i j U e=>?_;obtain⟨rfl,_⟩:=e;refine(SR.askRoom _).ej λao _ _ V _=>?_;have hl:=((((K.trans M).trans G).trans N).trans U).trans V;exact(SR.firstCells size d (ae.mono hl)).ej λaq o o' ag ho=>(SR.firstCells size n ((Z.mono hl).mono ag)).ej λar w w' ah hw=>(SR.zero F g).ej λau z z' ai hz=>SR.ej (SR.newRow g ((((ho.mono ah).append hw).mono ai).append (FM hz.cells _))) λav q q' _ hq=>.ff (.slice _ _ hq)
    have ap:∀C,dO.Le Q C->SV P C (do
      if Builtin.nextslicecap (d+n) k*(<-typeInfo g).bytes>2^48 then(do
       if !(<-Builtin.mayShare size d n y x)then Go.mark .noRoom
       Go.unsupported (.resourceLimit "append: a slice or a string whose bytes no memory bears"))
      let f<-Go.choose (.appendCap (d+n) k g);Go.askRoom (f*(<-typeInfo g).bytes);let J<-Builtin.firstCells size d (.slice y d k);let E<-Builtin.firstCells size n x;let B:=Builtin.zeroCells (<-zeroValue g).cells (f-(d+n));Pure.pure (.slice (some (<-Go.newRow g (J++E++B))) (d+n) f))
     (do
      if Builtin.nextslicecap (d+n) k*(<-typeInfo g).bytes>2^48 then(do
       if !(<-Builtin.mayShare size d n r Y)then Go.mark .noRoom
       Go.unsupported (.resourceLimit "append: a slice or a string whose bytes no memory bears"))
      let f<-Go.choose (.appendCap (d+n) k g);Go.askRoom (f*(<-typeInfo g).bytes);let J<-Builtin.firstCells size d (.slice r d k);let E<-Builtin.firstCells size n Y;let B:=Builtin.zeroCells (<-zeroValue g).cells (f-(d+n));Pure.pure (.slice (some (<-Go.newRow g (J++E++B))) (d+n) f)):=by
     intro C G;refine(SR.info g).ej λaa i j N e=>?_;obtain⟨rfl,_⟩:=e;dsimp only;split;refine .never λw=>?_;have⟨b,hb⟩:=FN (P:=P) size d n y x w;simp only[Sem.run_bind,hb,Result.andThen_ok];cases b<;>exact⟨_,_,rfl,rfl⟩;exact tail _ (G.trans N)
    dsimp only;split;exact SR.ej (A:=λ_ _ _=>False) (SR.kA _ cL) cL;exact ap _ (.refl _)
   cases aj with
   |gD l c=>
    refine(SR.size g).ej λab size b H e=>?_;obtain⟨rfl,_⟩:=e;cases h1:ts[1]? with
    |none=>exact T _ size none none l c H (.gD _ _) cL
    |some u=>
     have hi:=ad u h1;refine(SR.under u).ej λI a b v e=>?_;obtain⟨rfl,ac⟩:=e;simp only[intType,ac]at hi;cases a<;>first|exact T _ size none none l c (H.trans v) (.gD _ _) cL|grind
   |slice l c ha=>
    refine(SR.size g).ej λab size b H e=>?_;obtain⟨rfl,_⟩:=e;cases h1:ts[1]? with
    |none=>exact T _ size _ _ l c H (.slice _ _ ha) cL
    |some u=>
     have hi:=ad u h1;refine(SR.under u).ej λI a b v e=>?_;obtain⟨rfl,ac⟩:=e;simp only[intType,ac]at hi;cases a<;>first|exact T _ size _ _ l c (H.trans v) (.slice _ _ ha) cL|grind
   |_=>exact .stuck
  |_=>exact .stuck
theorem SR.makeSlice{S:dZ->Bool}(F:Fit P S D)(t:cR){B:cK}(M:VR ρ x y)(N:VR ρ z B):SV P ρ (Instr.makeSlice t x z) (Instr.makeSlice t y B):=by
 unfold Instr.makeSlice;refine(SR.under t).ej λC a b d e=>?_;obtain⟨rfl,Q⟩:=e;cases a with
 |slice c=>
  dsimp only;refine(SR.asInt (M.mono d)).ej λE n m h e=>?_;subst e;refine(SR.asInt ((N.mono d).mono h)).ej λG k m u e=>?_;subst e;refine(SR.info c).ej λH i j v e=>?_;obtain⟨rfl,_⟩:=e;have tail:∀f,SV P f
   (do
    Go.askRoom ((IntKind.i64.wrap k).toNat*i.bytes);let p:=(IntKind.i64.wrap k).toNat*(<-Go.sizeOf c);let zero<-if p=0 then Pure.pure #[]else do Pure.pure (<-zeroValue c).cells
    let a<-Go.newRow c ((Array.range p).map (zero[·%zero.size]!));Pure.pure (.slice (some a) (IntKind.i64.wrap n).toNat (IntKind.i64.wrap k).toNat))
   (do
    Go.askRoom ((IntKind.i64.wrap k).toNat*i.bytes);let p:=(IntKind.i64.wrap k).toNat*(<-Go.sizeOf c);let zero<-if p=0 then Pure.pure #[]else do Pure.pure (<-zeroValue c).cells
    let a<-Go.newRow c ((Array.range p).map (zero[·%zero.size]!));Pure.pure (.slice (some a) (IntKind.i64.wrap n).toNat (IntKind.i64.wrap k).toNat)):=by
   intro f;refine(SR.askRoom _).ej λI _ _ _ _=>(SR.size c).ej λl s R _ e=>?_;obtain⟨rfl,_⟩:=e;dsimp only;split;exact SR.ej (A:=λρ a b=>fX ρ a b) (.ff .nil) λg K L _ r=>SR.ej (SR.newRow c (DT r _)) λo q O _ J=>.ff (.slice _ _ J);exact(SR.zero F c).ej λg K L _ r=>SR.ej (A:=λρ a b=>fX ρ a b) (.ff r.cells) λg K L _ r=>SR.ej (SR.newRow c (DT r _)) λo q O _ J=>.ff (.slice _ _ J)
  try dsimp only
  repeat' split
  all_goals first
   |exact tail _
   |exact SR.ej (A:=λ_ _ _=>False) (SR.kA _ (.inr (.inl ⟨_,rfl⟩))) cL
   |(refine SR.ej (A:=λ_ a b=>a=b) (.choose λn=>.pure rfl) λl z B w e=>?_;subst e;exact SR.ej (A:=λ_ _ _=>False) (SR.kA _ cL) cL)
 |_=>exact .stuck
inductive uB (ρ:dO):Deferred->Deferred->Prop
 |fn {f:dZ} {cs tU xs xs':Array cK} (hS:ρ.S f=true) (h1:fX ρ cs tU) (h2:fX ρ xs xs'):uB ρ {target:=.fn (.func f) cs,args:=xs} {target:=.fn (.func f) tU,args:=xs'}
 |yield {l l':Nat} {xs xs':Array cK} (h:ρ.r l l') (h2:fX ρ xs xs'):uB ρ {target:=.fn (.yield l) #[],args:=xs} {target:=.fn (.yield l') #[],args:=xs'}
 |nil {xs xs':Array cK} (h2:fX ρ xs xs'):uB ρ {target:=.nil,args:=xs} {target:=.nil,args:=xs'}
 |collected {l l':Nat} (h:ρ.r l l'):uB ρ {target:=.collected l,args:=#[]} {target:=.collected l',args:=#[]}
inductive sQ (ρ:dO):Next->Next->Prop
 |value {v v':cK} (h:VR ρ v v'):sQ ρ (.value v) (.value v')
 |skip:sQ ρ .skip .skip
 |enter {f:dZ} {xs xs':Array cK} (hS:ρ.S f=true) (h:fX ρ xs xs'):sQ ρ (.enter f xs) (.enter f xs')
 |round {l l':Nat} {f:dZ} {xs xs':Array cK} {a b:Code} (hl:ρ.r l l') (hf:ρ.S f=true) (hh:ρ.hole f=false) (hd:ρ.df f=false) (ha:ρ.ok f a=true) (hb:ρ.ok f b=true) (h:fX ρ xs xs'):sQ ρ (.round l f xs a b) (.round l' f xs' a b)
 |defer {d d':Deferred} (h:uB ρ d d') (hd:ρ.Def):sQ ρ (.defer d) (.defer d')
abbrev SN(P:cU)(ρ:dO)(s a:Sem Next):Prop:=SR P sQ ρ s a
theorem SN.v{s a:Sem cK}(h:SV P ρ s a):SN P ρ (do Pure.pure (.value (<-s))) (do Pure.pure (.value (<-a))):=SR.ej h λ_ _ _ _ b=>.ff (.value b)
theorem SN.u{s a:Sem Unit}(h:SE P ρ s a):SN P ρ (do s;Pure.pure .skip) (do a;Pure.pure .skip):=SR.ej h λ_ _ _ _ _=>.ff .skip
structure RX(P:cU)(ρ:dO):Prop where
 fn:∀f,ρ.S f=true->∃fn' c,ρ.fs[f]? =some fn'/\(fn'.name== "runtime.NumGoroutine")=false/\fn'.body=some c/\(ρ.hole f=false->P.funcs[f]? =some fn')
def RX.mono{ρ b:dO}(h:RX P ρ)(a:dO.Le ρ b):RX P b:=⟨by rw[<-a.s,<-a.f,<-a.h];exact h.fn⟩
theorem SR.callFunc(F:Fit P ρ.S ρ.dim)(T:RX P ρ)(f:dZ)(i:ρ.S f=true)(h:fX ρ W X):SN P ρ (Go.callFunc f W) (Go.callFunc f X):=by have⟨q,c,k,l,m⟩:=F.fn f i;have⟨j,r,n,o,p,_⟩:=T.fn f i;unfold Go.callFunc;refine SR.prog.ej λd a b g e=>?_;obtain⟨rfl,rfl⟩:=e;rw[k,show(a.jj d.fs).funcs[f]? =some j from by rw[<-n,<-g.f]];dsimp only;rw[l,m,o,p];exact .ff (.enter (g.s▸i) (h.mono g))
theorem SR.getLoop(h:ρ.r m k):SR P (λρ a b=>FH ρ a b) ρ (Instr.getLoop m) (Instr.getLoop k):=by
 unfold Instr.getLoop;refine SR.ej (A:=λρ a b=>kO ρ a b/\∀g t i,a≠ .cells g t i) (.getObj h λo j c f=>.pure ⟨c,f⟩) λe o j d c=>?_;have⟨c,f⟩:=c;cases c with
 |loop h=>exact .ff h
 |cells _ _=>grind
 |_=>exact .stuck
def Mj(h:sf ρ M Y):∀(c:List Tmp) {d b:eH},fX ρ d b->
 fX ρ ((c.zip M).foldl (λa (x:Tmp×cK)=>a.setIfInBounds x.1 x.2) d) ((c.zip Y).foldl (λa (x:Tmp×cK)=>a.setIfInBounds x.1 x.2) b):=by
 induction h with
 |nil=>simp
 |cons h _ e=>
  intro c d b f;cases c with
  |nil=>simp_all
  |cons p c=>exact e c (f.set p h)
theorem SR.yield(h:ρ.r m k)(d:fX ρ W X):SN P ρ (Instr.yield m W) (Instr.yield k X):=by unfold Instr.yield;refine(SR.getLoop h).ej λc r j b a=>?_;have e:=a.params;have f:=a.fn;have g:=a.assign;have i:=a.body;rw[<-e,<-d.size];split;exact .dead rfl;refine .ff ?_;rw[<-f,<-g,<-i];refine .round (b.r _ _ h) a.fnS a.fnH a.hd a.okA a.okB ?_;have:=Mj (d.mono b).list r.params.toList a.tmps;rw[<-Ou,<-Ou,Array.toList_zip,Array.toList_zip];omega
theorem SR.enterLoop{fn:dZ}(B:ρ.S fn=true)(C:ρ.hole fn=false)(J:fX ρ W X)(u:Array Tmp)(a b:Code)(K:ρ.ok fn a=true)(D:ρ.ok fn b=true)(q:ρ.df fn=false){E p:Option Nat} (F:(E=none/\p=none)\/∃l G,E=some l/\p=some G/\ρ.r l G):
 SR P (λρ (x y:Nat×List Deferred)=>ρ.r x.1 y.1/\((x.2=[]/\y.2=[])\/∃d k,x.2=[d]/\y.2=[k]/\uB ρ d k/\∃b,d.target=.collected b)) ρ (Instr.enterLoop fn W u a b E) (Instr.enterLoop fn X u a b p):=by
 unfold Instr.enterLoop;have t:∀i (d k:Nat) (m v:List Deferred),dO.Le ρ i->i.r d k->((m=[]/\v=[])\/∃x z,m=[x]/\v=[z]/\uB i x z/\∃b,x.target=.collected b)->
  SR P (λρ (x y:Nat×List Deferred)=>ρ.r x.1 y.1/\((x.2=[]/\y.2=[])\/∃d k,x.2=[d]/\y.2=[k]/\uB ρ d k/\∃b,d.target=.collected b)) i
   (do Pure.pure (<-newObj (.loop {state:=.ready,pending:=none,fn,tmps:=W,params:=u,assign:=a,body:=b,defers:=d}),m))
   (do Pure.pure (<-newObj (.loop {state:=.ready,pending:=none,fn,tmps:=X,params:=u,assign:=a,body:=b,defers:=k}),v)):=by
  intro i d k m v j L H;refine SR.ej (A:=λg a b=>g.r a b/\dO.Le i g) (.new (.loop ⟨rfl,rfl,rfl,J.mono j,rfl,rfl,rfl,L,j.s▸B,j.o▸K,j.o▸D,cL,j.w▸q,j.h▸C⟩) λn M N H _=>.pure ⟨dO.tT _ _ _ _ _,dO.uX _ _ _ _ _⟩) λe x y c f=>.ff ⟨f.1,?_⟩;obtain⟨rfl,rfl⟩|⟨x,z,rfl,rfl,O,D⟩:=H;simp;refine .inr ⟨x,z,rfl,rfl,?_,D⟩;cases O with
  |fn R T I=>grind
  |yield h I=>grind
  |nil I=>grind
  |collected h=>exact .collected (f.2.r _ _ h)
 obtain⟨rfl,rfl⟩|⟨l,G,rfl,rfl,Q⟩:=F;dsimp only;exact SR.ej (A:=λg a b=>g.r a b) (.new .vS λn M N H _=>.pure (dO.tT _ _ _ _ _)) λe x y c f=>t e x y _ _ c f (.inr ⟨_,_,rfl,rfl,.collected f,_,rfl⟩);dsimp only;exact(SR.getLoop Q).ej λe x y c f=>t e _ _ _ _ c f.defers cL
theorem SR.beginRound(h:ρ.r m k):SE P ρ (Instr.beginRound m) (Instr.beginRound k):=by unfold Instr.beginRound;refine(SR.getLoop h).ej λc r f d a=>SR.ej (A:=λ_ _ _=>True) (.setObj (d.r _ _ h) (.loop ⟨rfl,a.pending,a.fn,a.tmps,a.params,a.assign,a.body,a.defers,a.fnS,a.okA,a.okB,a.okP,a.hd,a.fnH⟩) cL (.pure trivial)) λe _ _ b _=>?_;rw[<-a.state];grind [ff,SR.kA]
theorem SR.endRound(h:ρ.r m k)(j:Option Code)(i:∀c,j=some c->∀f,ρ.ok f c=true):SV P ρ (Instr.endRound m j) (Instr.endRound k j):=by unfold Instr.endRound;exact(SR.getLoop h).ej λe r l b a=>SR.ej (A:=λ_ _ _=>True) (.setObj (b.r _ _ h) (.loop ⟨rfl,rfl,a.fn,a.tmps,a.params,a.assign,a.body,a.defers,a.fnS,a.okA,a.okB,b.o▸i,a.hd,a.fnH⟩) cL (.pure trivial)) λg _ _ d _=>.ff (.bool _)
theorem SR.endLoop(h:ρ.r m k):SR P (λρ a b=>a=b/\∀c,a=some c->∀f,ρ.ok f c=true) ρ (Instr.endLoop m) (Instr.endLoop k):=by
 unfold Instr.endLoop;refine(SR.getLoop h).ej λg r p j d=>?_;have q:=d.state;have s:SR P (λρ a b=>a=b/\∀c,a=some c->∀f,ρ.ok f c=true) g (do Go.setObj m (.loop {r with state:=.exhausted});Pure.pure r.pending) (do Go.setObj k (.loop {p with state:=.exhausted});Pure.pure p.pending):=by exact SR.ej (A:=λl _ _=>dO.Le g l) (.setObj (j.r _ _ h) (.loop ⟨rfl,d.pending,d.fn,d.tmps,d.params,d.assign,d.body,d.defers,d.fnS,d.okA,d.okB,d.okP,d.hd,d.fnH⟩) cL (.pure (.refl _))) λn _ _ i t=>.ff ⟨d.pending,λc e=>t.o▸d.okP c e⟩
 rw[<-q];split;exact SR.ej (A:=λ_ _ _=>False) (SR.kA _ cL) cL;omega
theorem SR.takeDeferred(h:ρ.r m k):SR P (λ_ a b=>a=[]/\b=[]) ρ (Instr.takeDeferred m) (Instr.takeDeferred k):=by
 unfold Instr.takeDeferred;refine SR.ej (A:=λρ a b=>kO ρ a b/\∀g t i,a≠ .cells g t i) (.getObj h λo j e f=>.pure ⟨e,f⟩) λd o j c e=>?_;have⟨e,f⟩:=e;cases e with
 |vS=>
  dsimp only;refine SR.ej (A:=λ_ _ _=>True) (.setObj (c.r _ _ h) .taken cL (.pure trivial)) λd _ _ c _=>?_;grind [ff]
 |cells _ _=>grind
 |_=>exact .stuck
theorem SR.ofValue(h:VR ρ x y){xs xs':eH}(a:fX ρ xs xs'):SR P uB ρ (Deferred.ofValue x xs) (Deferred.ofValue y xs'):=by
 unfold Deferred.ofValue;cases h with
 |func b c d e f=>exact .ff (.fn b ⟨e,f⟩ (fX.append ⟨c,d⟩ a))
 |yield h=>exact .ff (fB (uB.yield h a))
 |nilFunc=>exact .ff (.nil a)
 |_=>exact .stuck
theorem SR.invoke(F:Fit P ρ.S ρ.dim)(T:RX P ρ){d b:Deferred}(h:uB ρ d b):SN P ρ (Go.invoke d.target d.args) (Go.invoke b.target b.args):=by
 unfold Go.invoke;cases h with
 |fn c e a=>exact SR.callFunc F T _ c (a.append e)
 |yield h a=>exact SR.yield h a
 |nil a=>grind [SR.kA]
 |collected h=>exact .stuck
def FO{c a:dU->cK}{b:Array dU}(h:∀x,kh ρ.S x=true->VR ρ (c x) (a x))(d:∀x∈b,kh ρ.S x=true):fX ρ (b.map c) (b.map a):=
 fX.map _ _ _ cL
def SR.exec(F:Fit P ρ.S ρ.dim)(T:RX P ρ){ev ev':dU->cK}(h:∀x,kh ρ.S x=true->VR ρ (ev x) (ev' x))(G:D=true->ρ.Def)(H:∀v,ev (.const v)=v/\ev' (.const v)=v)(o:Oper)(M:pZ P ρ.S ρ.dim D o=true)(Y:∀t m k x,o.op≠ .mapUpdate t m k x):SN P ρ (execOp ev o) (execOp ev' o):=by
 simp only[pZ,eW,yV]at M;have⟨g,q⟩:=M;unfold execOp;cases O:o.op<;>simp only[O,FJ,Op.operands]at g q;case move x=>exact .ff (.value (h x (g x dq)))
 case assign x=>exact .ff (.value (h x (g x dq)))
 case pick c a b=>
  refine(SR.asBool (h c (g c dq))).ej λE x y j e=>?_;subst e;refine .ff (.value ?_);split;exact(h a (g a dq)).mono j;exact(h b (g b dq)).mono j
 case alloc t=>exact SN.v (SR.alloc F t _)
 case box t x=>grind [SN.v,SR.box]
 case build t K=>
  refine SN.v (SR.build F t ?_);have:=xe (ρ:=ρ) (ev:=ev) (ev':=ev') (l:=K.toList) λx C=>h _ (g _ cL);simp_all
 case buildSlice t n K=>
  refine SN.v (SR.buildSlice F t n ?_);have:=xe (ρ:=ρ) (ev:=ev) (ev':=ev') (l:=K.toList) λx C=>h _ (g _ cL);simp_all
 case load t a=>grind [SN.v,SR.loadAt]
 case store t a x=>grind [SN.u,SR.storeAt]
 case nilCheck x=>
  have C:=h x (g x dq);dsimp only;revert C;generalize ev x=v;generalize ev' x=Z;intro C;cases C<;>first
   |exact SR.kA _ (.inr (.inr (.inr rfl)))
   |exact .ff (.value (by first|exact .bool _|exact .int _ _|exact .string _|exact .ptr ‹_›|exact .gD _ _|exact .slice _ _ ‹_›|exact .sN|exact .map ‹_›|exact .rq|exact .chan ‹_›|exact .func ‹_› ‹_› ‹_› ‹_› ‹_›|exact .yield ‹_›|exact .iface _ ‹_›|exact .agg ‹_› ‹_›|exact .tuple ‹_› ‹_›|exact .DO ‹_› _))
 case binOp I t x y yt=>
  refine SN.v ?_;have C:=h x (g x dq);have J:=h y (g y dq);have N:(I=.eql\/I=.neq)->fQ P 5 t=true:=cL;exact(SR.eqGuard F I t (λ_ _=>trivial) N x y C J).ej λE _ _ j _=>SR.binOp (dim:=ρ.dim) F I t N (C.mono j) (J.mono j)
 case unOp I t x=>grind [SN.v,SR.unary]
 case convert s d x=>
  simp only[eW]at q;grind [SN.v,SR.conv]
 case makeFunc Q fs cs=>
  cases Q with
  |func f=>exact SN.v (.ff (.func q dq (FO h λx C=>g x cL).at_ dq (FO h λx C=>g x cL).at_))
  |_=>grind
 case makeMap t r=>
  refine SN.v (SR.makeMap t ?_);cases r with
  |none=>exact .none
  |some x=>exact .some (h x (g x dq))
 case makeSlice t l c=>grind [SN.v,SR.makeSlice]
 case slice t x lo hi mx=>
  have R:∀(y:Option dU),(∀z,y=some z->kh ρ.S z=true)->sP ρ (y.map ev) (y.map ev'):=by
   intro y J;cases y with
   |none=>exact .none
   |some z=>exact .some (h z (J z rfl))
  grind [SN.v,SR.sliceAt]
 case fieldAddr s x i=>grind [SN.v,SR.fieldAt,FJ]
 case field s x i=>grind [SN.v,SR.field]
 case indexAddr t x i=>grind [SN.v,SR.indexAt]
 case index t x i=>grind [SN.v,SR.index]
 case lookup t m k U=>
  refine SN.v (SR.lookup F t (λkt e V=>?_) U (h m (g m dq)) (h k (g k dq)));grind
 case mapUpdate t m k x=>grind
 case extract x i=>grind [SN.v,SR.extract]
 case call c=>
  have⟨w,A,B⟩:=c;cases w with
  |value f=>
   unfold resolve;dsimp only;exact SR.ej (SR.ofValue (h f (g f (by simp[Call.operands]))) (FO h λx C=>g x (by simp[Call.operands,C]))) λE d W j L=>SR.invoke (j.s▸j.d▸F) (T.mono j) L
  |builtin b=>
   unfold resolve;have p:fX ρ (A.map ev) (A.map ev'):=FO h λx C=>g x (by simp[Call.operands,C]);simp only[eW]at q;have⟨X,h2⟩:=q;dsimp only;show SN P ρ (Go.builtin b B o.type _ (A.map ev)) (Go.builtin b B o.type _ (A.map ev'));cases b<;>first
    |(simp[Cs]at X;done)
    |exact SN.v (SR.len B o.type p)
    |exact SN.v (SR.cap B o.type p)
    |exact SN.v (SR.max B o.type p)
    |exact SN.v (SR.min B o.type p)
    |(refine SN.v (SR.append F B o.type (λu V=>?_) p);grind)
  |invoke r n=>grind
 case defer c=>
  have⟨w,A,B⟩:=c;cases w with
  |value f=>
   unfold resolve;dsimp only;exact SR.ej (SR.ofValue (h f (g f (by simp[Call.operands]))) (FO h λx C=>g x (by simp[Call.operands,C]))) λE d W j L=>.ff (.defer L ((G q).mono j))
  |_=>grind
 case panic x=>
  split at q;rename_i t k n;refine SN.v (?_:SV P ρ (Instr.panic (ev (.const (.iface t (.int k n))))) (Instr.panic (ev' (.const (.iface t (.int k n))))));rw[(H _).1,(H _).2];exact SR.goPanic (.iface _ (.int _ _)) (.inl (G q));grind
 all_goals simp at q
theorem SX.exec(F:Fit P ρ.S ρ.dim)(T:RX P ρ){d c:dU->cK}(b:∀x,kh ρ.S x=true->VR ρ (d x) (c x))(f:D=true->ρ.Def)(g:∀v,d (.const v)=v/\c (.const v)=v)(o:Oper)(h:pZ P ρ.S ρ.dim D o=true):SX P sQ ρ (execOp d o) (execOp c o):=by by_cases j:∃t m k x,o.op=.mapUpdate t m k x;have⟨t,m,k,x,l⟩:=j;simp only[pZ,eW,yV]at h;have⟨a,i⟩:=h;unfold execOp;simp only[l,FJ,Op.operands]at a i⊢;refine SX.map (SX.mapUpdate F t (λn e p=>?_) (b m (a m dq)) (b k (a k dq)) (b x (a x dq))) λ_ _ _ _=>.skip;grind;exact .of (SR.exec F T b f g o h λt m k x e=>j ⟨t,m,k,x,e⟩)
end
section
variable{P:cU}
structure Good(P:cU)(ρ:dO):Prop where
 fit:Fit P ρ.S ρ.dim
 ok:ρ.ok=λf=>iE P ρ.S ρ.dim (ρ.df f)
 code:∀f,ρ.S f=true->ρ.hole f=false->∃fn c,P.funcs[f]? =some fn/\fn.body=some c/\iE P ρ.S ρ.dim (ρ.df f) c=true
 two:RX P ρ
 dh:ρ.Def->∀f,ρ.hole f=false
theorem Good.mono{b:dO}(h:Good P R)(a:dO.Le R b):Good P b:=⟨a.s▸a.d▸h.fit,by rw[<-a.o,<-a.s,<-a.d,<-a.w];exact h.ok,by rw[<-a.s,<-a.d,<-a.w,<-a.h];exact h.code,h.two.mono a,λ⟨f,c⟩ g=>by rw[<-a.h];exact h.dh ⟨f,by rw[a.w];grind⟩ g⟩
inductive sg (P:cU) (ρ:dO) (f:dZ):Item->Item->Prop
 |code {c:Code} (h:ρ.ok f c=true):sg P ρ f (.code c) (.code c)
 |inBlock (id:Nat):sg P ρ f (.inBlock id) (.inBlock id)
 |inLoop {c:Code} (h:ρ.ok f c=true):sg P ρ f (.inLoop c) (.inLoop c)
 |inScope {c:Code} (h:ρ.ok f c=true):sg P ρ f (.inScope c) (.inScope c)
 |inRegion {ops:Array Oper} (todo:List Nat) (h:∀(i:Nat) o,ops[i]? =some o->pZ P ρ.S ρ.dim (ρ.df f) o=true):sg P ρ f (.inRegion ops todo) (.inRegion ops todo)
 |inRangeFunc {l l':Nat} (h:ρ.r l l'):sg P ρ f (.inRangeFunc l) (.inRangeFunc l')
 |endRangeFunc {l l':Nat} (h:ρ.r l l'):sg P ρ f (.endRangeFunc l) (.endRangeFunc l')
 |beginRound:sg P ρ f .beginRound .beginRound
inductive kP (P:cU) (ρ:dO) (f:dZ):List Item->List Item->Prop
 |nil:kP P ρ f [] []
 |cons {x x':Item} {l l':List Item} (h:sg P ρ f x x') (t:kP P ρ f l l'):kP P ρ f (x::l) (x'::l')
inductive vV (ρ:dO):List Deferred->List Deferred->Prop
 |nil:vV ρ [] []
 |cons {x x':Deferred} {l l':List Deferred} (h:uB ρ x x') (hq:ρ.Def\/∃b,x.target=.collected b) (t:vV ρ l l'):vV ρ (x::l) (x'::l')
structure X4(ρ:dO)(a b:PanicEntry):Prop where
 v:VR ρ a.v b.v
 rcv:a.recovered=b.recovered
 ge:a.goexit=b.goexit
 ok:uJ ρ a.v
inductive mn (ρ:dO):List PanicEntry->List PanicEntry->Prop
 |nil:mn ρ [] []
 |cons {x x':PanicEntry} {l l':List PanicEntry} (h:X4 ρ x x') (t:mn ρ l l'):mn ρ (x::l) (x'::l')
inductive yj (ρ:dO):FrameMode->FrameMode->Prop
 |run:yj ρ .run .run
 |returning:yj ρ .returning .returning
 |panicking {c c':List PanicEntry} (h:mn ρ c c'):yj ρ (.panicking c) (.panicking c')
structure eN(P:cU)(ρ:dO)(fr OK:Frame):Prop where
 fn:fr.fn=OK.fn
 fnS:ρ.S fr.fn=true/\ρ.hole fr.fn=false
 tmps:fX ρ fr.tmps OK.tmps
 todo:kP P ρ fr.fn fr.todo OK.todo
 defers:vV ρ fr.defers OK.defers
 mode:yj ρ fr.mode OK.mode
 kind:fr.kind=OK.kind
 round:(fr.roundOf=none/\OK.roundOf=none)\/∃l l',fr.roundOf=some l/\OK.roundOf=some l'/\ρ.r l l'/\ρ.df fr.fn=false
inductive jc (P:cU) (ρ:dO):List Frame->List Frame->Prop
 |nil:jc P ρ [] []
 |cons {x x':Frame} {l l':List Frame} (h:eN P ρ x x') (t:jc P ρ l l'):jc P ρ (x::l) (x'::l')
def sg.mono{b:dO}(a:dO.Le R b){x e:Item}(h:sg P R K x e):sg P b K x e:=by
 cases h with
 |code h=>exact .code (a.o▸h)
 |inBlock id=>exact .inBlock id
 |inLoop h=>exact .inLoop (a.o▸h)
 |inScope h=>exact .inScope (a.o▸h)
 |inRegion c h=>exact .inRegion c (by rw[<-a.s,<-a.d,<-a.w];grind)
 |inRangeFunc h=>exact .inRangeFunc (a.r _ _ h)
 |endRangeFunc h=>exact .endRangeFunc (a.r _ _ h)
 |beginRound=>exact .beginRound
theorem kP.mono{a:dO}(b:dO.Le R a){x c:List Item}(h:kP P R K x c):kP P a K x c:=by
 induction h with
 |nil=>exact .nil
 |cons h _ d=>exact .cons (h.mono b) d
theorem uB.mono{b:dO}(a:dO.Le R b){x d:Deferred}(h:uB R x d):uB b x d:=by
 cases h with
 |fn e f c=>exact .fn (a.s▸e) (f.mono a) (c.mono a)
 |yield h c=>exact .yield (a.r _ _ h) (c.mono a)
 |nil c=>exact .nil (c.mono a)
 |collected h=>exact .collected (a.r _ _ h)
theorem vV.mono{a:dO}(b:dO.Le R a){x c:List Deferred}(h:vV R x c):vV a x c:=by
 induction h with
 |nil=>exact .nil
 |cons h d _ e=>exact .cons (h.mono b) (d.imp (.mono b) id) e
theorem mn.mono{a:dO}(b:dO.Le R a){x c:List PanicEntry}(h:mn R x c):mn a x c:=by
 induction h with
 |nil=>exact .nil
 |cons h _ d=>exact .cons ⟨h.v.mono b,h.rcv,h.ge,h.ok.mono b⟩ d
theorem yj.mono{a:dO}(b:dO.Le R a){x c:FrameMode}(h:yj R x c):yj a x c:=by
 cases h with
 |run=>exact .run
 |returning=>exact .returning
 |panicking h=>exact .panicking (h.mono b)
theorem eN.mono{f:dO}(e:dO.Le R f){g:Frame}(h:eN P R F g):eN P f F g:=
 ⟨h.fn,⟨e.s▸h.fnS.1,e.h▸h.fnS.2⟩,h.tmps.mono e,h.todo.mono e,h.defers.mono e,h.mode.mono e,h.kind,h.round.imp id λ⟨l,i,a,b,c,d⟩=>⟨l,i,a,b,e.r _ _ c,e.w▸d⟩⟩
theorem jc.mono{a:dO}(b:dO.Le R a){x c:List Frame}(h:jc P R x c):jc P a x c:=by
 induction h with
 |nil=>exact .nil
 |cons h _ d=>exact .cons (h.mono b) d
def mn.append{a c b d:List PanicEntry}(h:mn R a c)(k:mn R b d):mn R (a++b) (c++d):=by
 induction h with
 |nil=>grind
 |cons h _ e=>exact .cons h e
def vV.append{a c b d:List Deferred}(h:vV R a c)(k:vV R b d):vV R (a++b) (c++d):=by
 induction h with
 |nil=>grind
 |cons h e _ f=>exact .cons h e f
theorem kP.exitTo(id:Nat){k a:List Item}(h:kP P R K k a):(exitTo id k=none/\exitTo id a=none)\/∃j b,exitTo id k=some j/\exitTo id a=some b/\kP P R K j b:=by
 induction h with
 |nil=>exact .inl ⟨rfl,rfl⟩
 |cons h t c=>
  cases h with
  |inBlock d=>
   simp only[Go.exitTo];grind
  |_=>exact c
theorem rz{S:dZ->Bool}:∀{c:Code} {l:Nat} {r:Code},iE P S D E c=true->findLabel c l=some r->iE P S D E r=true
 | .seq a b,l,r,h,e=>by simp only[iE,eW]at h;simp only[findLabel]at e;split at e;rename_i d f;cases e;simp only[iE,eW];exact⟨rz h.1 f,h.2⟩;exact rz h.2 e
 | .label g,l,r,h,e=>by simp only[findLabel]at e;split at e;cases e;rfl;grind
 | .skip,_,_,_,e=>by simp[findLabel]at e
 | .region _ _ _,_,_,_,e=>by simp[findLabel]at e
 | .cond _ _ _,_,_,_,e=>by simp[findLabel]at e
 | .block _ _,_,_,_,e=>by simp[findLabel]at e
 | .loop _,_,_,_,e=>by simp[findLabel]at e
 | .rangeFunc _ _ _ _,_,_,_,e=>by simp[findLabel]at e
 | .exit _,_,_,_,e=>by simp[findLabel]at e
 | .scope _,_,_,_,e=>by simp[findLabel]at e
 | .goto _,_,_,_,e=>by simp[findLabel]at e
 | .ret,_,_,_,e=>by simp[findLabel]at e
 | .refuse _,_,_,_,e=>by simp[findLabel]at e
theorem kP.gotoIn(e:Good P R)(l:Nat){k a:List Item}(h:kP P R K k a):(gotoIn l k=none/\gotoIn l a=none)\/∃j d,gotoIn l k=some j/\gotoIn l a=some d/\kP P R K j d:=by
 induction h with
 |nil=>exact .inl ⟨rfl,rfl⟩
 |cons h t f=>
  cases h with
  | @inScope c b=>
   simp only[Go.gotoIn];cases g:findLabel c l with
   |none=>grind
   |some r=>exact .inr ⟨_,_,rfl,rfl,.cons (.code (by rw[e.ok]at b⊢;exact rz b g)) (.cons (.inScope b) t)⟩
  |_=>exact f
theorem eN.eval{a:Frame}(h:eN P R F a)(x:dU)(b:kh R.S x=true):VR R (F.eval x) (a.eval x):=by
 cases x with
 |tmp t=>exact h.tmps.getD .undef t
 |const v=>exact qK b
 |global g=>simp[kh]at b
 |func f=>exact .func b rfl (λi v c h=>cL) rfl (λi v c h=>cL)
theorem eN.finish{l:Frame}(h:eN P R F l)(B:VR R x y):eN P R (F.finish x) (l.finish y):=by
 obtain⟨H,u,v,o,w,kind,I⟩:=F;obtain⟨C,p,q,m,r,s,D⟩:=l;obtain⟨a,b,c,z,e,f,g,j⟩:=h;simp only at a b c z e f g j;cases z with
 |nil=>exact⟨a,b,c,.nil,e,f,g,j⟩
 |cons E k=>
  cases E with
  | @inRegion t G n=>
   cases G with
   |nil=>exact⟨a,b,c,.cons (.inRegion _ n) k,e,f,g,j⟩
   |cons i A=>
    refine⟨a,b,?_,.cons (.inRegion _ n) k,e,f,g,j⟩;simp only[Frame.finish];cases(t[i]?).bind (·.dst)with
    |none=>grind
    |some d=>exact c.set d B
  |inRangeFunc h=>exact⟨a,b,c,.cons (.endRangeFunc h) k,e,f,g,j⟩
  |beginRound=>exact⟨a,b,c,k,e,f,g,j⟩
  |code h=>exact⟨a,b,c,.cons (.code h) k,e,f,g,j⟩
  |inBlock id=>exact⟨a,b,c,.cons (.inBlock id) k,e,f,g,j⟩
  |inLoop h=>exact⟨a,b,c,.cons (.inLoop h) k,e,f,g,j⟩
  |inScope h=>exact⟨a,b,c,.cons (.inScope h) k,e,f,g,j⟩
  |endRangeFunc h=>exact⟨a,b,c,.cons (.endRangeFunc h) k,e,f,g,j⟩
theorem eN.raise{a:Frame}(h:eN P R F a){c c':List PanicEntry}(m:mn R c c'):eN P R (F.raise c) (a.raise c'):=by
 obtain⟨x,r,s,d,t,kind,y⟩:=F;obtain⟨v,n,o,b,p,q,w⟩:=a;obtain⟨e,f,g,i,j,u,k,l⟩:=h;simp only at e f g i j u k l;cases u with
 |run=>exact⟨e,f,g,i,j,.panicking m,k,l⟩
 |returning=>exact⟨e,f,g,i,j,.panicking m,k,l⟩
 |panicking h=>exact⟨e,f,g,i,j,.panicking (m.append h),k,l⟩
def eN.zQ{a:Frame}(h:eN P R F a){k b:List Item}(c:kP P R F.fn k b):eN P R {F with todo:=k} {a with todo:=b}:=
 ⟨h.fn,h.fnS,h.tmps,c,h.defers,h.mode,h.kind,h.round⟩
def eN.FP{a:Frame}(h:eN P R F a){k b:FrameMode}(c:yj R k b):eN P R {F with mode:=k} {a with mode:=b}:=
 ⟨h.fn,h.fnS,h.tmps,h.todo,h.defers,c,h.kind,h.round⟩
def eN.oA{a:Frame}(h:eN P R F a){k b:List Deferred}(c:vV R k b):eN P R {F with defers:=k} {a with defers:=b}:=
 ⟨h.fn,h.fnS,h.tmps,h.todo,c,h.mode,h.kind,h.round⟩
def RY(a:Good P R)(b:R.S K=true)(d:R.hole K=false)(h:fX R W X)(k:CallKind):eN P R (Frame.enter P K W k) (Frame.enter (P.jj R.fs) K X k):=by have⟨j,c,f,g,l⟩:=a.code K b d;have⟨i,m,n,_,_,o⟩:=a.two.fn K b;have e:(P.jj R.fs).funcs[K]? =P.funcs[K]? :=cL;refine⟨rfl,⟨b,d⟩,?_,?_,.nil,.run,rfl,.inl ⟨rfl,rfl⟩⟩;simp only[Frame.enter];rw[<-h.size,e];exact h.append (fX.replicate _ .undef);simp only[Frame.enter];rw[e];simp only[f,zO,g,kK];exact .cons (.code (by rw[a.ok];grind)) .nil
def floor:Frame:={(default:Frame)with fn:=0,tmps:=#[],todo:=[.code (.refuse "floor")],defers:=[{target:=.nil,args:=#[]}],mode:=.run,kind:=.normal}
inductive IM (P:cU) (ρ:dO):Frame->Frame->Prop
 |fr {fr OK:Frame} (h:eN P ρ fr OK):IM P ρ fr OK
 |hole {f:dZ} (hS:ρ.S f=true) (hh:ρ.hole f=true) {xs xs':Array cK} (h:fX ρ xs xs'):IM P ρ (Frame.enter P f xs .normal) (Frame.enter (P.jj ρ.fs) f xs' .normal)
def tW(d:Good P R)(a:R.S K=true)(h:fX R W X)(k:CallKind)(b:k=.normal\/R.hole K=false):IM P R (Frame.enter P K W k) (Frame.enter (P.jj R.fs) K X k):=by
 cases c:R.hole K with
 |true=>
  obtain rfl|b:=b;exact .hole a c h;grind
 |false=>exact .fr (RY d a c h k)
structure si(P:cU)(ρ:dO)(cs:List Frame)(g g':cQ):Prop where
 fr:IM P ρ g.frame g'.frame
 callers:∃X X',g.callers=X++[floor]/\g'.callers=X'++cs/\jc P ρ X X'
 st:g.status=.running/\g'.status=.running
 dy:g.dying=none/\g'.dying=none
 of:g.offers=none/\g'.offers=none
def zR(g:cQ):Prop:=g.status=.running/\g.dying=none/\g.offers=none/\g.callers=[]/\(g.frame=floor\/∃c,g.frame=floor.raise c)
def eg(P:cU)(f:dO)(v u:cJ)(g:List Frame)(s h:GStep):Prop:=
 match s with
 | .go d i _=>zR d\/∃a b e c,h=.go b e c/\DR f a v u i e c/\si P a g d b
 | .ended _ _ _=>True
 |_=>False
def ly{b:Array Event}{e:Event}(h:e∈seen P K b):e∈b:=by
 unfold seen at h;dsimp only at h;rw[<-Ou]at h
 have c:∀(l:List Event) (x:Bool×Array Event),e∈(l.foldl (λ(x:Bool×Array Event) e=>match e.loc with| .mark (.extern f)=>((P.funcs[f]?).any (·.norace),x.2)|_=>(x.1,if(x.1&&!e.sync)=true then x.2 else x.2.push e)) x).2->e∈x.2\/e∈l:=by
  intro l;induction l with
  |nil=>grind
  |cons a l d=>
   grind
 obtain h|h:=c b.toList (_,#[]) h;grind;grind
def fM.sub{a:dO}{d:cJ}{f b:Array Event}(m:fM R a w t e d f)(h:∀c∈b,c∈f):fM R a w t e d b:=
 ⟨m.le,m.rel,m.vsize,m.usize,m.fresh,m.same,m.vT,m.warm,m.rows,m.tape,m.os,m.output,m.vtape,λc g=>m.evs c (h c g)⟩
end
section
variable{P:cU}{ρ:dO}{v u:cJ}{cs:List Frame}
theorem jc.length{X a:List Frame}(h:jc P ρ X a):X.length=a.length:=by
 induction h with
 |nil=>rfl
 |cons _ _ b=>grind
def eg.still(w:WR ρ v u){a:cQ}(h:si P ρ cs Z a){b:Array Event}:eg P ρ v u cs (.go Z v b) (.go a u):=
 .inr ⟨ρ,a,u,#[],rfl,(fM.refl w).hr,h⟩
def eg.zS{b:cJ}(w:WR ρ {b with drawn:=d} u){a:cQ}(h:si P ρ cs Z a){es:Array Event}:eg P ρ {b with drawn:=d} u cs (.go Z b es) (.go a u):=
 .inr ⟨ρ,a,u,#[],rfl,⟨d,fM.refl w⟩,h⟩
def eg.Ww{m n:Type}{A:dO->m->n->Prop}{s:Sem m}{k:Sem n}(w:WR ρ v u)(h:SX P A ρ s k):(∃j f i,s.runT P v #[]=(.halt j f,i)/\j.dead=true)\/(∃a b f g c i e d,s.runT P v #[]=(.ok a f,i)/\k.runT (P.jj ρ.fs) u #[]=(.ok b g,e)/\A c a b/\fM ρ c v u {f with drawn:=d} g e)\/
 (∃a b f g c i e,s.runT P v #[]=(.halt (.panic a) f,i)/\k.runT (P.jj ρ.fs) u #[]=(.halt (.panic b) g,e)/\(VR c a b/\uJ c a)/\fM ρ c v u f g e):=by
 have l:=h.run w #[] #[];unfold IH at l;generalize s.runT P v #[]=r at l⊢;have⟨r,o⟩:=r;cases r with
 |ok a f=>
  have⟨b,g,c,p,q,t,d,y⟩:=l;grind
 |halt j f=>
  cases j with
  |panic x=>
   grind
  |_=>exact cL
theorem eg.run{j k:Type}{A:dO->j->k->Prop}{s:Sem j}{i:Sem k}(w:WR ρ v u)(h:SR P A ρ s i):(∃l e f,s.runT P v #[]=(.halt l e,f)/\l.dead=true)\/(∃a b e g c f d,s.runT P v #[]=(.ok a e,f)/\i.runT (P.jj ρ.fs) u #[]=(.ok b g,d)/\A c a b/\fM ρ c v u e g d)\/(∃a b e g c f d,s.runT P v #[]=(.halt (.panic a) e,f)/\i.runT (P.jj ρ.fs) u #[]=(.halt (.panic b) g,d)/\(VR c a b/\uJ c a)/\fM ρ c v u e g d):=by have m:=h.run w #[] #[];unfold ml at m;grind
theorem eg.after{b:dO}{l n:cJ}{s p:GStep}{g a c:Array Event}(w:WR ρ v u)(m:fM ρ b v u l n c)(f:∀e∈a,e∈c)(q:eg P b l n cs s p):eg P ρ v u cs (GStep.after g s) (GStep.after a p):=by
 cases s with
 |go z A r=>
  obtain t|⟨h,i,x,j,rfl,k,y⟩:=q;exact .inl t;have⟨d,k⟩:=k;exact .inr ⟨h,i,x,a++j,rfl,⟨d,(m.sub f).trans w k⟩,y⟩
 |ended o B r=>trivial
 |_=>exact q.elim
def kP.kind{k a:List Item}(h:kP P ρ K k a):(match k with| .call _ true _ _::_=>CallKind.wrapped|_=>.normal)=.normal/\(match a with| .call _ true _ _::_=>CallKind.wrapped|_=>.normal)=.normal:=by
 cases h with
 |nil=>simp
 |cons h _=>cases h<;>exact⟨rfl,rfl⟩
def si.mk'{b a:Frame}{X X':List Frame}(h:eN P ρ b a)(c:jc P ρ X X'):si P ρ cs {frame:=b,callers:=X++[floor],status:=.running,dying:=none} {frame:=a,callers:=X'++cs,status:=.running,dying:=none}:=
 ⟨.fr h,cL,⟨rfl,rfl⟩,⟨rfl,rfl⟩,⟨rfl,rfl⟩⟩
def si.top{b a:Frame}{X X':List Frame}(h:IM P ρ b a)(c:jc P ρ X X'):si P ρ cs {frame:=b,callers:=X++[floor],status:=.running,dying:=none} {frame:=a,callers:=X'++cs,status:=.running,dying:=none}:=
 ⟨h,cL,⟨rfl,rfl⟩,⟨rfl,rfl⟩,⟨rfl,rfl⟩⟩
def KD{a b:Code}(d:ρ.r m k)(e:ρ.S K=true)(f:ρ.hole K=false)(g:ρ.df K=false)(i:ρ.ok K a=true)(j:ρ.ok K b=true)(h:fX ρ W X)(c:CallKind):eN P ρ (Frame.round m K W a b c) (Frame.round k K X a b c):=
 ⟨rfl,⟨e,f⟩,h,.cons (.code i) (.cons .beginRound (.cons (.code j) .nil)),.nil,.run,rfl,.inr ⟨m,k,rfl,rfl,d,g⟩⟩
def DU(H:Good P ρ)(w:WR ρ v u){t g:Frame}{X X':List Frame}(h:eN P ρ t g)(E:jc P ρ X X'){s F:Sem Next}(I:SX P sQ ρ s F):eg P ρ v u cs (stepG.apply P true t (X++[floor]) none s v) (stepG.apply (P.jj ρ.fs) true g (X'++cs) none F u):=by
 have j:∀(r:Array Event),∀e∈seen (P.jj ρ.fs) g.fn (if(g.kind==CallKind.early)=true then #[]else r),e∈r:=by intro r e J;have:=ly J;grind
 unfold stepG.apply;obtain⟨x,G,es,e,p⟩|⟨a,b,G,K,y,es,i,d,e,z,n,m⟩|⟨a,b,G,K,y,es,i,e,z,n,m⟩:=eg.Ww w I;simp only[em,e];cases x with
 |stuck s=>trivial
 |unsupported L=>cases L<;>first|trivial|cases p
 |_=>cases p
 simp only[em,e,z];have A:=H.mono m.le;have q:=h.mono m.le;have l:=E.mono m.le;cases n with
 |value M=>exact eg.after w m (j i) (eg.zS m.rel (si.mk' (q.finish M) l))
 |skip=>exact eg.after w m (j i) (eg.zS m.rel (si.mk' (q.finish .undef) l))
 |enter N B=>
  refine eg.after w m (j i) ?_;have C:=eg.zS (es:=#[]) m.rel (si.top (cs:=cs) (X:=t::X) (X':=g::X') (m.le.f▸tW A N B .normal (.inl rfl)) (.cons q l));have o:=h.todo;generalize t.todo=k at o⊢;generalize g.todo=U at o⊢;cases o with
  |nil=>grind
  |cons O _=>cases O<;>exact C
 |round Q R x p S T B=>
  exact eg.after w m (j i) (eg.zS m.rel (si.mk' (X:=t::X) (X':=g::X') (KD Q R x p S T B .normal) (.cons q l)))
 |defer p D=>
  exact eg.after w m (j i) (eg.zS m.rel (si.mk' ((q.oA (.cons p (.inl D) q.defers)).finish .undef) l))
 simp only[em,e,z];exact eg.after w m (j i) (eg.still m.rel (si.mk' ((h.mono m.le).raise (c:=[{v:=a,recovered:=false}]) (c':=[{v:=b,recovered:=false}]) (.cons ⟨n.1,rfl,rfl,n.2⟩ .nil)) (E.mono m.le)))
def zT(w:WR ρ v u){q j:Frame}{X r:List Frame}(h:eN P ρ q j)(f:jc P ρ X r)(C:VR ρ x y)(k g:Bool):eg P ρ v u cs (doReturn P k q (X++[floor]) none x v) (doReturn (P.jj ρ.fs) g j (r++cs) none y u):=by
 have F:=h.kind;cases f with
 |nil=>
  simp only[qI,doReturn];cases s:q.kind;all_goals simp only[]
  all_goals exact .inl ⟨rfl,rfl,rfl,rfl,.inl rfl⟩
 | @cons c n X r i f=>
  simp only[nM,doReturn];rw[<-F];have e:eN P ρ (match c.mode with
     | .panicking ({recovered:=true,..}::d)=>
      match d.dropWhile (!·.goexit)with
      |[]=>{c with mode:=.returning}
      |rest=>{c with mode:=.panicking rest}
     |_=>c)
   (match n.mode with
     | .panicking ({recovered:=true,..}::d)=>
      match d.dropWhile (!·.goexit)with
      |[]=>{n with mode:=.returning}
      |rest=>{n with mode:=.panicking rest}
     |_=>n):=by
   have z:=i.mode
   have A:∀{l o:List PanicEntry},mn ρ l o->mn ρ (l.dropWhile (!·.goexit)) (o.dropWhile (!·.goexit)):=by
    intro l o h;induction h with
    |nil=>exact .nil
    |cons h t Q=>
     simp only[List.dropWhile_cons,<-h.ge];split;omega;exact .cons h t
   revert z;generalize G:c.mode=R;generalize D:n.mode=H;intro z;cases z with
   |run=>omega
   |returning=>omega
   |panicking B=>
    cases B with
    |nil=>omega
    | @cons p I l o J K=>
     obtain⟨S,L,T⟩:=p;obtain⟨M,N,O⟩:=I;obtain⟨_,E,_⟩:=J;simp only at E;subst E;cases L with
     |false=>omega
     |true=>
      dsimp only;have:=A K;revert this;generalize l.dropWhile (!·.goexit)=m;generalize o.dropWhile (!·.goexit)=U;intro this;cases this with
      |nil=>exact i.FP .returning
      |cons a b=>exact i.FP (.panicking (.cons a b))
  cases s:q.kind
  all_goals simp only[]
  exact eg.still w (si.mk' (i.finish C) f);exact eg.still w (si.mk' e f);exact eg.still w (si.mk' (i.finish C) f);exact eg.still w (si.mk' e f);exact eg.still w (si.mk' i f)
def eg.ite{c:Prop} [Decidable c]{a b d:GStep}(e:c->eg P ρ v u cs a d)(f:¬c->eg P ρ v u cs b d):eg P ρ v u cs (if c then a else b) d:=by grind
def oB(x:Good P ρ)(w:WR ρ v u){o i:Frame}{X X':List Frame}(h:eN P ρ o i)(D:jc P ρ X X'){d E:Deferred}(n:uB ρ d E)(p:ρ.Def):eg P ρ v u cs (callDeferred P o (X++[floor]) none d v) (callDeferred (P.jj ρ.fs) i (X'++cs) none E u):=by
 have j:∀(r:Array Event),∀e∈seen (P.jj ρ.fs) i.fn r,e∈r:=λr e H=>ly H;unfold callDeferred;refine eg.ite (λ_=>trivial) λI=>?_;rw[cS (by intro J;apply I;revert J;have y:=h.mode;revert y;generalize o.mode=m;generalize i.mode=S;intro y;cases n<;>cases y<;>simp)];obtain⟨z,F,G,e,n⟩|⟨a,b,F,K,A,G,g,e,B,l,m⟩|⟨a,b,F,K,A,G,g,e,B,l,m⟩:=eg.run w (SR.invoke x.fit x.two n);simp only[e];cases z with
 |stuck s=>trivial
 |unsupported L=>cases L<;>first|trivial|cases n
 |_=>cases n
 simp only[e,B];have q:=x.mono m.le;have t:=h.mono m.le;have k:=D.mono m.le;cases l with
 |value T=>exact eg.after w m (j g) (eg.still m.rel (si.mk' t k))
 |skip=>exact eg.after w m (j g) (eg.still m.rel (si.mk' t k))
 |enter M C=>exact eg.after w m (j g) (eg.still m.rel (si.top (X:=o::X) (X':=i::X') (m.le.f▸tW q M C .deferred (.inr (q.dh (p.mono m.le) _))) (.cons t k)))
 |round N O z n Q R C=>exact eg.after w m (j g) (eg.still m.rel (si.mk' (X:=o::X) (X':=i::X') (KD N O z n Q R C .deferred) (.cons t k)))
 |defer n _=>exact eg.after w m (j g) (eg.still m.rel (si.mk' t k))
 simp only[e,B];exact eg.after w m (j g) (eg.still m.rel (si.mk' ((h.mono m.le).raise (c:=[{v:=a,recovered:=false}]) (c':=[{v:=b,recovered:=false}]) (.cons ⟨l.1,rfl,rfl,l.2⟩ .nil)) (D.mono m.le)))
theorem SR.results{fn:Func}(h:fX ρ W X):SV P ρ (results fn W) (results fn X):=by
 unfold Go.results
 have r:∀(l:List ResultVar) {g:dO},dO.Le ρ g->SR P (λρ a b=>sf ρ a b) g
  (l.mapM λx=>match x with| .tmp t=>Pure.pure (W.getD t gU)| .cell a t=>do Go.loadVar t (<-Go.asAddr (W.getD a gU)))
  (l.mapM λx=>match x with| .tmp t=>Pure.pure (X.getD t gU)| .cell a t=>do Go.loadVar t (<-Go.asAddr (X.getD a gU))):=by
  intro l;induction l with
  |nil=>intro g j;rw[List.mapM_nil,List.mapM_nil];exact .ff .nil
  |cons x l s=>
   intro g j;rw[List.mapM_cons,List.mapM_cons]
   have u:SV P g (match x with| .tmp t=>Pure.pure (W.getD t gU)| .cell a t=>do Go.loadVar t (<-Go.asAddr (W.getD a gU))) (match x with| .tmp t=>Pure.pure (X.getD t gU)| .cell a t=>do Go.loadVar t (<-Go.asAddr (X.getD a gU))):=by
    cases x with
    |tmp t=>exact .ff ((h.mono j).getD .undef t)
    |cell a t=>exact(SR.asAddr ((h.mono j).getD .undef a)).ej λ_ _ _ _ v=>SR.loadVar t v
   exact SR.ej u λi a b k e=>SR.ej (s (j.trans k)) λp c d m q=>.ff (.cons (e.mono m) q)
 rw[Ks,Ks];refine SR.ej (A:=λρ a b=>fX ρ a b) (SR.ej (f:=λl=>Pure.pure l.toArray) (f':=λl=>Pure.pure l.toArray) (r fn.results.toList (.refl _)) λi a b _ e=>.ff e.array) λi a b _ e=>.ff ?_;by_cases o:a.size=1;have n:b.size=1:=e.size▸o;rw[dif_pos o,dif_pos n];exact e.at_ 0 _ _ cL cL;have n:¬b.size=1:=e.size▸o;rw[dif_neg o,dif_neg n];exact e.YN
def OL(s:Good P ρ)(w:WR ρ v u){fr g:Frame}{X K:List Frame}(h:eN P ρ fr g)(n:jc P ρ X K)(o i:Bool):eg P ρ v u cs (unwind P o fr (X++[floor]) none v) (unwind (P.jj ρ.fs) i g (K++cs) none u):=by
 have D:∀(r:Array Event),∀e∈seen (P.jj ρ.fs) g.fn r,e∈r:=λr e E=>ly E;unfold unwind;have t:=h.defers;revert t;generalize fr.defers=O;generalize g.defers=F;intro t;cases t with
 |nil=>
  dsimp only;have G:=h.mode;have H:=h.fn;revert G;generalize R:fr.mode=m;generalize L:g.mode=Y;intro G;cases G with
  |run=>trivial
  |panicking S=>
   dsimp only;have p:∀{fr:Frame} {Q:cU},(∃fn,Q.funcs[fr.fn]? =some fn)->fr.catches Q=false:=by grind [Frame.catches]
   have⟨fn,c,q,_,_⟩:=s.fit.fn _ h.fnS.1;have⟨y,T,M,_,_,_⟩:=s.two.fn _ h.fnS.1;rw[p ⟨fn,q⟩,p (fr:=g) (Q:=P.jj ρ.fs) cL];simp only[iR,fq];cases n with
   |nil=>exact .inl ⟨rfl,rfl,rfl,rfl,.inr ⟨_,rfl⟩⟩
   |cons I n=>exact eg.still w (si.mk' (I.raise S) n)
  |returning=>
   dsimp only;have⟨fn,c,q,_,_⟩:=s.fit.fn _ h.fnS.1;have⟨y,T,M,_,_,U⟩:=s.two.fn _ h.fnS.1;obtain rfl:fn=y:=by rw[U h.fnS.2]at q;grind
   rw[<-H,q,show(P.jj ρ.fs).funcs[fr.fn]? =some fn from M];dsimp only;obtain⟨N,z,A,e,t⟩|⟨a,b,z,J,x,A,k,e,B,j,m⟩|⟨a,b,z,J,x,A,k,e,B,j,m⟩:=eg.run w (SR.results (fn:=fn) h.tmps);rw[e];cases N<;>trivial;rw[e,B];rw[m.le.f];exact eg.after w m (λe E=>ly E) (zT m.rel (h.mono m.le) (n.mono m.le) j o i);rw[e];trivial
 | @cons d Z O F t hq l=>
  cases t with
  |collected V=>
   dsimp only;obtain⟨N,z,A,e,t⟩|⟨a,b,z,J,x,A,k,e,B,j,m⟩|⟨a,b,z,J,x,A,k,e,B,j,m⟩:=eg.run w (SR.takeDeferred V);rw[e];trivial;rw[e,B];obtain⟨rfl,rfl⟩:=j;exact eg.after w m (D k) (eg.still m.rel (si.mk' ((h.mono m.le).oA (l.mono m.le)) (n.mono m.le)));rw[e];trivial
  |fn W q C=>exact oB s w (h.oA l) n (.fn W q C) cL
  |yield q C=>exact oB s w (h.oA l) n (.yield q C) cL
  |nil C=>exact oB s w (h.oA l) n (.nil C) cL
def Mk{a:Array Oper}(h:fX ρ W X)(j:Nat):yielded a W j=yielded a X j:=by
 unfold yielded;cases(a[j]?).bind (·.dst)with
 |none=>rfl
 |some d=>
  simp only[zO];obtain⟨b,c⟩|⟨v,f,b,c,e⟩:=h.get? d;grind;rw[b,c];cases e<;>rfl
def RZ(D:Good P ρ)(w:WR ρ v u){k d:Frame}{X r:List Frame}(h:eN P ρ k d)(B:jc P ρ X r)(i g:Bool)(j:Option Code){lost lost':GStep}(E:∃o n p,lost=.ended o n p):(∀c,j=some c->∀f,ρ.ok f c=true)->eg P ρ v u cs (match k.roundOf with
    |none=>if(match j with|none|some .ret=>true|_=>false)=true then .go {frame:={k with mode:=.returning},callers:=X++[floor],status:=.running,dying:=none} v else lost
    |some l=>GStep.after (seen P k.fn ((Instr.endRound l j).runT P v #[]).2)<|match((Instr.endRound l j).runT P v #[]).1 with
     | .ok x w=>doReturn P i k (X++[floor]) none x w
     | .halt _ w=>.ended (.stuck "range over a function: no such loop" (k.pos P)) w)
  (match d.roundOf with
    |none=>if(match j with|none|some .ret=>true|_=>false)=true then .go {frame:={d with mode:=.returning},callers:=r++cs,status:=.running,dying:=none} u else lost'
    |some l=>GStep.after (seen (P.jj ρ.fs) d.fn ((Instr.endRound l j).runT (P.jj ρ.fs) u #[]).2)<|match((Instr.endRound l j).runT (P.jj ρ.fs) u #[]).1 with
     | .ok x w=>doReturn (P.jj ρ.fs) g d (r++cs) none x w
     | .halt _ w=>.ended (.stuck "range over a function: no such loop" (d.pos (P.jj ρ.fs))) w):=by
 have _:=D;intro F;obtain⟨s,t⟩|⟨l,K,s,t,G,_⟩:=h.round;rw[s,t];dsimp only;have y:eN P ρ {k with mode:=.returning,roundOf:=none} {d with mode:=.returning,roundOf:=none}:=⟨h.fn,h.fnS,h.tmps,h.todo,h.defers,.returning,h.kind,cL⟩;refine eg.ite (λH=>?_) λ_=>?_;rw[cV H];exact eg.still w (si.mk' y B);obtain⟨o,n,p,rfl⟩:=E;trivial;rw[s,t];dsimp only;obtain⟨L,n,p,e,M⟩|⟨a,b,n,I,z,p,A,e,C,q,m⟩|⟨a,b,n,I,z,p,A,e,C,q,m⟩:=eg.run w (SR.endRound G j F);rw[e];trivial;rw[e,C,m.le.f];exact eg.after w m (λe J=>ly J) (zT m.rel (h.mono m.le) (B.mono m.le) q i g);rw[e];trivial
end
section
variable{P:cU}{ρ:dO}{v u:cJ}{cs:List Frame}
def gE(a:Good P ρ){c:Code}(h:iE P ρ.S ρ.dim (ρ.df K) c=true):ρ.ok K c=true:=by rw[a.ok];grind
def tX(a:Good P ρ){c:Code}(h:(match c with| .ret| .exit _| .goto _=>true|_=>false)=true)(f:dZ):ρ.ok f c=true:=by rw[a.ok];cases c<;>first|rfl|cases h
def U9(q:Good P ρ)(w:WR ρ v u){z p:Frame}{X X':List Frame}(h:eN P ρ z p)(M:jc P ρ X X')(F K:Bool):eg P ρ v u cs (stepG.exec P F true z (X++[floor]) none v) (stepG.exec (P.jj ρ.fs) K true p (X'++cs) none u):=by
 have aa:=h.fn;have I:∀{k k':List Item},kP P ρ z.fn k k'->eg P ρ v u cs (.go {frame:={z with todo:=k},callers:=X++[floor],status:=.running,dying:=none} v) (.go {frame:={p with todo:=k'},callers:=X'++cs,status:=.running,dying:=none} u):=
  λC=>eg.still w (si.mk' (h.zQ C) M)
 have Z:=λ(j:Option Code)=>RZ (cs:=cs) (lost:=.ended (.stuck "exit, goto: no such block or label" (z.pos P)) v) (lost':=.ended (.stuck "exit, goto: no such block or label" (p.pos (P.jj ρ.fs))) u) q w h M F K j ⟨_,_,_,rfl⟩;have ah:=q.ok;have G:=h.todo;unfold stepG.exec;revert G Z;generalize ai:z.todo=k0;generalize ab:p.todo=ao;intro Z G;cases G with
 |nil=>exact Z none (λc e=>by cases e)
 | @cons x x' k k' hx C=>
  cases hx with
  | @code c L=>
   have g:=L;rw[ah]at g;dsimp only at g;cases c with
   |ret=>exact Z (some .ret) (λc e=>by cases e;exact tX q rfl)
   |skip=>exact I C
   |label l=>exact I C
   |seq a b=>
    simp only[iE,eW]at g;exact I (.cons (.code (gE q g.1)) (.cons (.code (gE q g.2)) C))
   |cond c a b=>
    simp only[iE,eW]at g;dsimp only;have Q:=h.eval c g.1.1;revert Q;generalize z.eval c=x;generalize p.eval c=x';intro Q;cases Q with
    |bool t=>
     refine I (.cons (.code ?_) C);split;exact gE q g.1.2;exact gE q g.2
    |_=>trivial
   |block id b=>
    exact I (.cons (.code (gE q g)) (.cons (.inBlock id) C))
   |loop b=>
    exact I (.cons (.code (gE q g)) (.cons (.inLoop (gE q g)) C))
   |scope b=>
    exact I (.cons (.code (gE q g)) (.cons (.inScope (gE q g)) C))
   |exit id=>
    dsimp only;obtain⟨D,E⟩|⟨j,j',D,E,hj⟩:=C.exitTo id;rw[D,E];exact Z (some (.exit id)) (λc e=>by cases e;exact tX q rfl);rw[D,E];exact I hj
   |goto l=>
    dsimp only;obtain⟨D,E⟩|⟨j,j',D,E,hj⟩:=C.gotoIn q l;rw[D,E];exact Z (some (.goto l)) (λc e=>by cases e;exact tX q rfl);rw[D,E];exact I hj
   |refuse ap=>trivial
   |rangeFunc f ps a b=>
    simp only[iE,eW]at g;simp only[sH]at g;dsimp only;rw[show(Instr.enterLoop p.fn p.tmps ps a b p.roundOf)=(Instr.enterLoop z.fn p.tmps ps a b p.roundOf)from by rw[aa]];obtain⟨hh,R,es,e,hd⟩|⟨x,y,R,u1,A,es,T,e,e',H,m⟩|⟨x,y,R,u1,A,es,T,e,e',H,m⟩:=eg.run w (SR.enterLoop h.fnS.1 h.fnS.2 h.tmps ps a b (gE q g.1.2) (gE q g.2) g.1.1.1 (h.round.imp (λh=>h) λ⟨l,l',a,b,c,_⟩=>⟨l,l',a,b,c⟩));rw[e];trivial;rw[e,e'];have⟨l,mk⟩:=x;have⟨l',ac⟩:=y;have⟨hl,ad⟩:=H;simp only at hl ad;have U:=q.mono m.le;have N:=h.mono m.le;have ae:vV A mk ac:=by obtain⟨rfl,rfl⟩|⟨d,d',rfl,rfl,hd,hb⟩:=ad;exact .nil;exact .cons hd (.inr hb) .nil
    have af:eN P A {z with todo:=.inRangeFunc l::k,defers:=mk++z.defers} {p with todo:=.inRangeFunc l'::k',defers:=ac++p.defers}:=
     ⟨N.fn,N.fnS,N.tmps,.cons (.inRangeFunc hl) (C.mono m.le),ae.append N.defers,N.mode,N.kind,N.round⟩
    refine eg.after w m (λe V=>ly V) ?_;dsimp only;rw[m.le.f];refine DU U m.rel af (M.mono m.le) (.of ?_);unfold resolve;dsimp only;refine SR.ej (SR.ofValue (af.eval f (m.le.s▸g.1.1.2)) (xs:=_) (xs':=_) ?_) λaj d d' ag hd=>SR.invoke ((U.mono ag).fit) ((U.mono ag).two) hd;simp only[List.map_toArray,kI,uI,Frame.eval];exact fX.one (.yield hl);rw[e];trivial
   |region id B draw=>
    simp only[iE,yV]at g;have J:∀(i:Nat) o,B[i]? =some o->pZ P ρ.S ρ.dim (ρ.df z.fn) o=true:=λi o e=>g o (xZ e);dsimp only;cases draw with
    |false=>exact I (.cons (.inRegion _ J) C)
    |true=>
     simp only[Bool.not_true,iR,fq];rw[show Go.choose (.order p.fn id)=Go.choose (.order z.fn id)from by rw[aa]];have ak:SR P (λ_ (a b:Nat)=>a=b) ρ (Go.choose (.order z.fn id)) (Go.choose (.order z.fn id)):=.choose λn=>.pure rfl;have O:=ak.run w #[] #[];unfold ml at O;rw[kL,kL]at O;simp only at O;revert O;generalize (Go.choose (.order z.fn id)).run P v=r;intro O;cases r with
     |ok t R=>
      obtain⟨b,u1,A,aq,D,rfl,m⟩:=O;have E:(Go.choose (.order z.fn id)).run (P.jj ρ.fs) u=.ok t u1:=dH Prod.fst D;rw[E];have N:=h.mono m.le;refine .inr ⟨A,_,u1,#[],rfl,(m.sub (λe V=>by simp at V)).hr,?_⟩;refine si.mk' (N.zQ ?_) (M.mono m.le);have W:∀(i:Nat) o,B[i]? =some o->pZ P A.S A.dim (A.df z.fn) o=true:=by rw[<-m.le.s,<-m.le.d,<-m.le.w];exact J
      exact .cons (.inRegion _ W) (C.mono m.le)
     |halt hh R=>trivial
  |inBlock id=>exact I C
  |inScope L=>exact I C
  |inLoop L=>exact I (.cons (.code L) (.cons (.inLoop L) C))
  |inRangeFunc hl=>trivial
  |beginRound=>
   dsimp only;refine DU q w h M (.of ?_);obtain⟨D,E⟩|⟨l,l',D,E,O,_⟩:=h.round;rw[D,E];exact .dead rfl;rw[D,E];exact SR.ej (SR.beginRound O) λ_ _ _ _ _=>.ff .skip
  |endRangeFunc hl=>
   dsimp only;obtain⟨hh,R,es,e,hd⟩|⟨x,y,R,u1,A,es,T,e,e',H,m⟩|⟨x,y,R,u1,A,es,T,e,e',H,m⟩:=eg.run w (SR.endLoop hl)
   ·rw[e];cases hh<;>first|trivial|(cases hd;done)
   rw[e,e'];obtain⟨rfl,hj⟩:=H;refine eg.after w m (λe V=>ly V) (eg.still m.rel (si.mk' ((h.mono m.le).zQ ?_) (M.mono m.le)));cases x with
   |none=>exact C.mono m.le
   |some c=>exact .cons (.code (hj c rfl _)) (C.mono m.le)
   rw[e,e'];exact eg.after w m (λe V=>ly V) (eg.still m.rel (si.mk' ((h.mono m.le).raise (c:=[{v:=x,recovered:=false}]) (c':=[{v:=y,recovered:=false}]) (.cons ⟨H.1,rfl,rfl,H.2⟩ .nil)) (M.mono m.le)))
  | @inRegion B td J=>
   cases td with
   |nil=>exact I C
   |cons i an=>
    dsimp only;have hy:((B[i]?).map (Region.wanted · (yielded B z.tmps))).getD false=((B[i]?).map (Region.wanted · (yielded B p.tmps))).getD false:=by have:yielded B z.tmps=yielded B p.tmps:=funext (Mk h.tmps);rw[this]
    rw[<-hy];refine eg.ite (λL=>?_) λL=>?_;rw[cV L];cases ho:B[i]? with
    |none=>rw[ho]at L;cases L
    |some o=>
     unfold stepG.oper;have D:z.oper?=some o:=by simp only[Frame.oper?,ai];exact ho
     have E:p.oper?=some o:=by simp only[Frame.oper?,ab];exact ho
     rw[D,E];dsimp only;have Y:=J i o ho;have hs:SX P sQ ρ (execOp z.eval o) (execOp p.eval o):=SX.exec q.fit q.two (λx hx=>h.eval x hx) (λe=>⟨_,e⟩) (λ_=>⟨rfl,rfl⟩) o Y;have F:=DU (cs:=cs) q w h M hs;obtain⟨D,E⟩|⟨l,l',D,E,O,al⟩:=h.round;rw[D,E];exact F;rw[D,E];cases am:o.op<;>first|exact F|skip
     rename_i c;simp only[pZ,eW,am,FJ]at Y;exfalso;have:=Y.2;rw[al]at this;revert this;split<;>(intro h;cases h)
    rw[cS L];exact eg.still w (si.mk' (h.finish .undef) M)
end
section
variable{P:cU}{ρ:dO}{v u:cJ}{cs:List Frame}
def IN(p:Good P ρ)(w:WR ρ v u){g:cQ}(h:si P ρ cs Z g)(i:eN P ρ Z.frame g.frame)(d c:Bool):eg P ρ v u cs (stepG P d Z v) (stepG (P.jj ρ.fs) c g u):=by
 have⟨l,G,H,I,j⟩:=Z;have⟨e,D,E,F,f⟩:=g;have⟨_,⟨X,q,r,s,t⟩,⟨x,y⟩,⟨z,A⟩,B,C⟩:=h;simp only at r s x y z A B C i;subst r s x y z A B C;have n:=U9 (cs:=cs) p w i t d c;have k:=OL (cs:=cs) p w i t d c;have o:=i.mode;unfold stepG;dsimp only;revert n k;generalize stepG.exec P d true l (X++[floor]) none v=a;generalize stepG.exec (P.jj ρ.fs) c true e (q++cs) none u=J;generalize unwind P d l (X++[floor]) none v=b;generalize unwind (P.jj ρ.fs) c e (q++cs) none u=K;intro n k;revert o;generalize l.mode=m;generalize e.mode=L;intro o;cases o with
 |run=>exact n
 |returning=>exact k
 |panicking _=>exact k
theorem zR.ended{P:cU}(h:zR Z)(a:Bool)(w:cJ):∃o j k,stepG P a Z w=.ended o j k:=by have⟨l,m,n,p,b⟩:=Z;have⟨d,e,f,g,i⟩:=h;simp only at f d e g i;subst f d e g;obtain rfl|⟨c,rfl⟩:=i;exact⟨_,_,_,rfl⟩;exact⟨_,_,_,rfl⟩
end
abbrev Ta:=Nat->Question->Nat
def dw(v:cJ)(T:Ta):cJ:={v with tape:=T}
def IP{a:Type}:Result a->cJ
 | .ok _ w=>w
 | .halt _ w=>w
def OM{b:Type}(T:Ta):Result b->Result b
 | .ok a w=>.ok a (dw w T)
 | .halt h w=>.halt h (dw w T)
def Ul{a:Type}:Result a->Prop
 | .ok _ _=>False
 | .halt h _=>h.dead=true
def ON(v a:cJ)(T:Ta):Prop:=∀j,v.drawn<=j->j<a.drawn->T j=v.tape j
structure lN(v v1:cJ)(C:Ta->Prop):Prop where
 le:v.drawn<=v1.drawn
 tape:v1.tape=v.tape
 run:∀T,ON v v1 T->C T
theorem lN.trans{v v1 c:cJ}{C d:Ta->Prop}(h:v.drawn<=v1.drawn)(e:v1.tape=v.tape)(k:lN v1 c d)(g:∀T,ON v v1 T->d T->C T):lN v c C:=
 ⟨du h k.le,k.tape.trans e,λT f=>g T (λj a b=>f j a (ew b k.le)) (k.run T λj a b=>by rw[e];exact f j (du h a) b)⟩
def SR.zU{Y Z:Type}{A:dO->Y->Z->Prop}{s:Sem Y}{s':Sem Z}(h:SR P A R s s'):
 ∀{v u:cJ},WR R v u->∀d,Ul (s.runT P v d).1\/lN v (IP (s.runT P v d).1) λT=>s.runT P (dw v T) d=(OM T (s.runT P v d).1,(s.runT P v d).2):=by
 induction h with
 | @pure R a b h=>exactλ{v u} f d=>.inr ⟨di _,rfl,λT _=>rfl⟩
 | @load R a a' k E H _ j=>
  intro v u f d;cases I:v.cell? a with
  |none=>
   cases H with
   | @mk b c o s z=>
    have⟨hh,e,n⟩:=vU (P:=P) (a:=⟨b,o,s⟩) (at_:=(Mode.plain==Mode.atomic)) (f.noView z) (f.noPending z);refine .inl ?_;simp only[Sem.runT,I,e];exact n
  |some x=>
   have⟨O,aa,S⟩:=f.cell H I;obtain n|i:=j x O S f (d.push ⟨.cell a,false,false⟩);grind [Sem.runT];refine .inr ?_;have C:∀T,(dw v T).cell? a=some x:=λT=>I;grind [Sem.runT]
 | @store R a a' x O k E H S _ j=>
  intro v u f d;by_cases J:(∃g,x=.agg g)\/∃g,x=.tuple g;obtain⟨g,rfl⟩|⟨g,rfl⟩:=J<;>exact .inl rfl;have C:∀(a:Addr) (v:cJ) (d:Array Event),(Sem.store .plain a x k).runT P v d=(match v.cell? a with
   |some _=>if v.frozen? a then(.halt (.unsupported (.unsafePointer "a write to bytes that a string shares")) v,d)else k.runT P (v.setCell a x) (d.push ⟨.cell a,true,false⟩)
   |none=>match v.farStore P a x false with
    | .ok (w,B)=>k.runT P w (d++B.toArray.map (⟨.cell ·,true,false⟩))
    | .error h=>(.halt h v,d)):=by
   intro a v d;cases x<;>first|rfl|grind|grind
  cases K:v.cell? a with
  |none=>
   cases H with
   | @mk b c o s z=>
    have⟨hh,e,n⟩:=uK (P:=P) (a:=⟨b,o,s⟩) (x:=x) (at_:=false) (f.noView z) (f.noPending z);refine .inl ?_;rw[C];simp only[K,e];exact n
  |some y=>
   by_cases hz:v.frozen? a=true;refine .inl ?_;rw[C];simp only[K,hz,em];exact rfl;have F:v.frozen? a=false:=cL;have⟨hu,L⟩:=fM.store f H S K F;have M:∀T,(dw v T).cell? a=some y:=λT=>K;have e3:∀T,(dw v T).frozen? a=false:=λT=>F;have e4:∀T,(dw v T).setCell a x=dw (v.setCell a x) T:=λT=>rfl;simp only[C,K,F,M,e3,e4,iR,fq];obtain n|i:=j L.rel (d.push ⟨.cell a,true,false⟩);grind;exact .inr ⟨i.le,i.tape,i.run⟩
 | @new R o U k E ho _ j=>
  intro v u f d;have L:=fM.new f ho;obtain n|i:=j v.lG u.lG f.U5 f.U6 (f.low _ (di _)) L.rel d;exact .inl n;exact .inr ⟨i.le,i.tape,i.run⟩
 | @getObj R r Q k E z _ j=>
  intro v u f d;have⟨o,U,D,h2,h3⟩:=f.obj r Q z;by_cases i:∃g t p,o=.cells g t p;obtain⟨g,t,p,rfl⟩:=i;refine .inl ?_;simp only[Sem.runT,D];exact rfl;have l:∀g t p,o≠ .cells g t p:=cL;have C:∀{N:Type} (k:Obj->Sem N) (w:cJ) (r:Nat) (o:Obj) (d:Array Event),w.heap[r]? =some o->(∀g t p,o≠ .cells g t p)->(Sem.getObj r k).runT P w d=(k o).runT P w (d.push ⟨.obj r,false,o.isChan⟩):=by intro N k w r o d h G;cases o<;>first|exact absurd rfl (G _ _ _)|simp only[Sem.runT,h]
  have M:∀T,(Sem.getObj r k).runT P (dw v T) d=(k o).runT P (dw v T) (d.push ⟨.obj r,false,o.isChan⟩):=λT=>C k _ r o d D l;simp only[C k v r o d D l,M];exact j o U (h3.plain l) l f _
 | @setObj R r Q x O k E z I V _ j=>
  intro v u f d;have⟨o,U,D,h2,h3⟩:=f.obj r Q z;by_cases i:∃g t p,o=.cells g t p;obtain⟨g,t,p,rfl⟩:=i;refine .inl ?_;simp only[Sem.runT,D];exact rfl;have l:∀g t p,o≠ .cells g t p:=cL;have C:∀{N:Type} (k:Sem N) (w:cJ) (r:Nat) (x o:Obj) (d:Array Event),w.heap[r]? =some o->(∀g t p,o≠ .cells g t p)->(Sem.setObj r x k).runT P w d=k.runT P {w with heap:=w.heap.setIfInBounds r x} (d.push ⟨.obj r,true,x.isChan⟩):=by intro N k w r x o d h G;cases o<;>first|exact absurd rfl (G _ _ _)|simp only[Sem.runT,h]
  have M:∀T,(Sem.setObj r x k).runT P (dw v T) d=k.runT P (dw {v with heap:=v.heap.setIfInBounds r x} T) (d.push ⟨.obj r,true,x.isChan⟩):=λT=>C k _ r x o d D l;simp only[C k v r x o d D l,M];have L:=fM.setObj f z I D l V;obtain n|i:=j L.rel (d.push ⟨.obj r,true,x.isChan⟩);grind;exact .inr ⟨i.le,i.tape,i.run⟩
 | @shape R r Q k E z _ _ j ib=>
  intro v u f d;obtain⟨W,_⟩|⟨W,m,y,e,_⟩:=f.shape z;exact j W _ f d;have h:=ib W m y f d;rw[<-e]at h;exact h
 | @choose R q k E _ j=>
  intro v u f d;by_cases hq:q.forced=true;simp only[Sem.runT,hq,em];grind;have X:q.forced=false:=cL;simp only[Sem.runT,X,iR,fq];obtain n|i:=j (q.cut (v.tape v.drawn q)) f.draw d;grind;refine .inr (lN.trans (v1:={v with drawn:=v.drawn+1}) (mG _) rfl i λT hT h=>?_);rw[show(dw v T).tape=T from rfl,show(dw v T).drawn=v.drawn from rfl,hT v.drawn (di _) (Nat.lt_succ_self _)];exact h
 |program _ j=>exactλf d=>j f d
 | @noRoom R k E _ j=>exactλ{v u} f d=>j f _
 | @panic R x O h=>exactλ{v u} f d=>.inr ⟨di _,rfl,λT _=>rfl⟩
 |dead n=>exactλ{v u} f d=>.inl n
 | @never R s s' h=>
  intro v u f d;have⟨hh,w',e,n⟩:=h v;refine .inl ?_;rw[kL,e];exact n
theorem SX.zU{p t:Type}{A:dO->p->t->Prop}{s:Sem p}{w:Sem t}(h:SX P A R s w):
 ∀{v u:cJ},WR R v u->∀d,Ul (s.runT P v d).1\/lN v (IP (s.runT P v d).1) λT=>s.runT P (dw v T) d=(OM T (s.runT P v d).1,(s.runT P v d).2):=by
 induction h with
 |of h=>exactλe d=>h.zU e d
 | @skip R q r z o C a b g D E h=>exactλ{v u} e d=>(SR.choose (P:=P) (A:=A) (k':=λ_=>.setObj z C (.pure b)) λn=>.setObj g (D n) (E n) (.pure h)).zU e d
 | @bind R J K B s w f L h k F=>
  intro v u e d;have g:=h.run e d #[];have c:=h.zU e d;rw[Sem.runT_bind'];simp only[Sem.runT_bind'];unfold ml at g;generalize s.runT P v d=r at g c⊢;have⟨r,i⟩:=r;cases r with
  |ok a G=>
   have⟨b,M,j,H,N,I,m⟩:=g;obtain c|c:=c;exact c.elim;obtain x|x:=F j a b m.le I m.rel i;grind;refine .inr (lN.trans c.le c.tape x λT l y=>?_);rw[c.run T l];exact y
  |halt y G=>
   obtain c|c:=c;exact .inl c;refine .inr ⟨c.le,c.tape,λT l=>?_⟩;rw[c.run T l];rfl
def ee(F:cJ->GStep)(v:cJ):Prop:=
 match F v with
 | .go b a c=>lN v a λT=>F (dw v T)=.go b (dw a T) c
 |_=>True
theorem lN.refl(v:cJ){C:Ta->Prop}(h:∀T,C T):lN v v C:=⟨di _,rfl,λT _=>h T⟩
theorem ee.go(v:cJ)(g:cQ)(a:Array Event):ee (λw=>.go g w a) v:=lN.refl v λ_=>rfl
theorem ee.ended(v:cJ)(o:Outcome)(a:Array Event):ee (λw=>.ended o w a) v:=trivial
theorem ee.after{v:cJ}{F:cJ->GStep}(a:Array Event)(h:ee F v):ee (λw=>GStep.after a (F w)) v:=by
 unfold ee at*;dsimp only;revert h;generalize d:F v=x;intro h;cases x with
 |go e f b=>exact⟨h.le,h.tape,λT c=>by rw[h.run T c];rfl⟩
 |_=>trivial
def ee.ite{v:cJ}{c:Prop} [Decidable c]{F b:cJ->GStep}(h:c->ee F v)(d:¬c->ee b v):ee (λw=>if c then F w else b w) v:=by by_cases a:c;have:=h a;simp only[a,em];exact this;have:=d a;simp only[a,fq];exact this
def ee.congr{v:cJ}{F a:cJ->GStep}(h:ee F v)(e:∀T,a (dw v T)=F (dw v T)):ee a v:=by
 have b:a v=F v:=e v.tape;unfold ee at*;rw[b];revert h;generalize F v=x;intro h;cases x with
 |go f g c=>exact⟨h.le,h.tape,λT d=>by rw[e];exact h.run T d⟩
 |_=>trivial
def Wx(s:GStep):Prop:=match s with| .go _ _ _=>False|_=>True
section
variable{P:cU}{ρ:dO}{v u:cJ}{cs:List Frame}
theorem ee.run{p t:Type}{A:dO->p->t->Prop}{s:Sem p}{y:Sem t}(w:WR ρ v u)(h:SR P A ρ s y)(K:Result p->Array Event->GStep) (z:∀l d f,l.dead=true->Wx (K (.halt l d) f))
 (B:∀a b d o g f i,A g a b->fM ρ g v u d o i->ee (λw=>K (.ok a w) f) d)
 (C:∀a d f,ee (λw=>K (.halt (.panic a) w) f) d):
 ee (λw=>K (s.runT P w #[]).1 (s.runT P w #[]).2) v:=by
 obtain⟨l,d,f,e,D⟩|⟨a,b,d,o,g,f,i,e,E,n,m⟩|⟨a,b,d,o,g,f,i,e,E,n,m⟩:=eg.run w h;have:=z l d f D;unfold ee;simp only[e];revert this;generalize K (.halt l d) f=x;intro F;cases x with
 |go _ _ _=>exact F.elim
 |_=>trivial
 have c:=h.zU w #[];rw[e]at c;obtain c|c:=c;exact c.elim;have k:=B a b d o g f i n m;unfold ee at*;simp only[e];dsimp only at k;revert k;generalize G:K (.ok a d) f=x;intro k;cases x with
 |go H I q=>
  refine lN.trans c.le c.tape k λT r h=>?_;rw[c.run T λj a b=>r j a b];exact h
 |_=>trivial
 have c:=h.zU w #[];rw[e]at c;obtain c|c:=c;exact absurd (show Halt.dead (.panic a)=true from c) (by intro l;cases l);have k:=C a d f;unfold ee at*;simp only[e];dsimp only at k;revert k;generalize G:K (.halt (.panic a) d) f=x;intro k;cases x with
 |go H I q=>
  refine lN.trans c.le c.tape k λT r h=>?_;rw[c.run T λj a b=>r j a b];exact h
 |_=>trivial
end
section
variable{P:cU}{ρ:dO}{v u:cJ}{cs:List Frame}
def lN.runs{n o:Type}{A:dO->n->o->Prop}{s:Sem n}{p:Sem o}(w:WR ρ v u)(h:SR P A ρ s p):(∃j c d,s.runT P v #[]=(.halt j c,d)/\j.dead=true)\/
 (∃a b c l g d i,s.runT P v #[]=(.ok a c,d)/\A g a b/\fM ρ g v u c l i/\lN v c λT=>s.runT P (dw v T) #[]=(.ok a (dw c T),d))\/
 (∃a c d,s.runT P v #[]=(.halt (.panic a) c,d)/\lN v c λT=>s.runT P (dw v T) #[]=(.halt (.panic a) (dw c T),d)):=by
 have f:=h.zU w #[];obtain⟨j,c,d,e,r⟩|⟨a,b,c,l,g,d,i,e,q,k,m⟩|⟨a,b,c,l,g,d,i,e,q,k,m⟩:=eg.run w h;grind;rw[e]at f;obtain f|f:=f;exact f.elim;exact .inr (.inl ⟨a,b,c,l,g,d,i,e,k,m,f⟩);rw[e]at f;obtain f|f:=f;exact absurd (show Halt.dead (.panic a)=true from f) (by intro j;cases j);exact .inr (.inr ⟨a,c,d,e,f⟩)
def lN.Wz{n o:Type}{A:dO->n->o->Prop}{s:Sem n}{p:Sem o}(w:WR ρ v u)(h:SX P A ρ s p):(∃j c f,s.runT P v #[]=(.halt j c,f)/\j.dead=true)\/
 (∃a b c i f,s.runT P v #[]=(.ok a c,f)/\A i a b/\lN v c λT=>s.runT P (dw v T) #[]=(.ok a (dw c T),f))\/
 (∃a c f,s.runT P v #[]=(.halt (.panic a) c,f)/\lN v c λT=>s.runT P (dw v T) #[]=(.halt (.panic a) (dw c T),f)):=by
 have g:=h.zU w #[];obtain⟨j,c,f,e,t⟩|⟨a,b,c,q,i,f,l,d,e,r,k,m⟩|⟨a,b,c,q,i,f,l,e,r,k,m⟩:=eg.Ww w h;grind;rw[e]at g;obtain g|g:=g;exact g.elim;exact .inr (.inl ⟨a,b,c,i,f,e,k,g⟩);rw[e]at g;obtain g|g:=g;exact absurd (show Halt.dead (.panic a)=true from g) (by intro j;cases j);exact .inr (.inr ⟨a,c,f,e,g⟩)
def DV(w:WR ρ v u){fr:Frame}{cl:List Frame}{s s':Sem Next}(j:SX P sQ ρ s s'):ee (λv=>stepG.apply P true fr cl none s v) v:=by
 obtain⟨l,g,h,e,i⟩|⟨a,b,g,m,h,e,f,c⟩|⟨a,g,h,e,c⟩:=lN.Wz w j;unfold ee stepG.apply;simp only[em,e];cases l with
 |stuck s=>trivial
 |unsupported n=>cases n<;>first|trivial|cases i
 |_=>cases i
 unfold ee stepG.apply;simp only[em,e];cases f with
 |enter o p=>
  have:∀(k:List Item) (X:CallKind->Prop),(X .normal)->(X .wrapped)->X (match k with| .call _ true _ _::_=>.wrapped|_=>.normal):=by grind
  refine⟨c.le,c.tape,λT d=>?_⟩;simp only[c.run T d];rfl
 |_=>
  refine⟨c.le,c.tape,λT d=>?_⟩;simp only[c.run T d];rfl
 unfold ee stepG.apply;simp only[em,e];refine⟨c.le,c.tape,λT d=>?_⟩;simp only[c.run T d];rfl
def zV{fr:Frame}{cl:List Frame}(a:Bool)(x:cK)(b:cl≠[]):ee (λv=>doReturn P a fr cl none x v) v:=by
 cases cl with
 |nil=>grind
 |cons c cl=>
  unfold ee doReturn;grind [lN.refl]
def oC(w:WR ρ v u){l:Frame}{n:List Frame}{d i:Deferred}(f:SN P ρ (Go.invoke d.target d.args) (Go.invoke i.target i.args)):ee (λv=>callDeferred P l n none d v) v:=by
 unfold callDeferred;refine ee.ite (λ_=>ee.ended v _ #[]) λ_=>?_;obtain⟨o,j,k,e,f⟩|⟨a,b,j,t,p,k,q,e,g,m,c⟩|⟨a,j,k,e,c⟩:=lN.runs w f;unfold ee;simp only[e];cases o with
 |stuck s=>trivial
 |unsupported r=>cases r<;>first|trivial|cases f
 |_=>cases f
 unfold ee;simp only[e];cases g with
 |_=>
  refine⟨c.le,c.tape,λT h=>?_⟩;simp only[c.run T h];rfl
 unfold ee;simp only[e];refine⟨c.le,c.tape,λT h=>?_⟩;simp only[c.run T h];rfl
def OO(i:Good P ρ)(w:WR ρ v u){fr j:Frame}{cl:List Frame}(s:cl≠[])(h:eN P ρ fr j)(f:Bool):ee (λv=>unwind P f fr cl none v) v:=by
 unfold unwind;have l:=h.defers;revert l;generalize fr.defers=F;generalize j.defers=t;intro l;cases l with
 |nil=>
  dsimp only;have x:=h.mode;revert x;generalize G:fr.mode=m;generalize E:j.mode=M;intro x;cases x with
  |run=>exact ee.ended v _ #[]
  |panicking g=>
   dsimp only;cases cl with
   |nil=>grind
   |cons c cl=>
    dsimp only;split;exact ee.ended v _ #[];exact ee.go v _ #[]
  |returning=>
   dsimp only;have⟨fn,c,p,_,_⟩:=i.fit.fn _ h.fnS.1;rw[p];dsimp only;obtain⟨z,n,o,e,l⟩|⟨a,b,n,H,A,o,B,e,C,m,g⟩|⟨a,n,o,e,g⟩:=lN.runs (P:=P) w (SR.results (fn:=fn) h.tmps);unfold ee;simp only[e];cases z<;>trivial;have k:=zV (P:=P) (v:=n) (fr:=fr) (cl:=cl) f a s;have r:=ee.after (seen P fr.fn o) k;unfold ee at*;simp only[e];dsimp only at r;revert r;generalize GStep.after (seen P fr.fn o) (doReturn P f fr cl none a n)=y;intro r;cases y with
   |go N O I=>
    refine lN.trans g.le g.tape r λT D z=>?_;simp only[g.run T D];grind
   |_=>trivial
   unfold ee;simp only[e];trivial
 | @cons d Q F t l J=>
  cases l with
  |collected K=>
   dsimp only;obtain⟨z,n,o,e,l⟩|⟨a,b,n,H,A,o,B,e,C,m,g⟩|⟨a,n,o,e,g⟩:=lN.runs (P:=P) w (SR.takeDeferred K);unfold ee;simp only[e];trivial;unfold ee;simp only[e];refine⟨g.le,g.tape,λT D=>?_⟩;simp only[g.run T D];rfl;unfold ee;simp only[e];trivial
  |fn L p q=>exact oC w (SR.invoke i.fit i.two (.fn L p q))
  |yield p q=>exact oC w (SR.invoke i.fit i.two (.yield p q))
  |nil q=>exact oC w (SR.invoke i.fit i.two (.nil q))
end
section
variable{P:cU}{ρ:dO}{v u:cJ}{cs:List Frame}
def R2(w:WR ρ v u){fr q:Frame}{cl:List Frame}(r:cl≠[])(h:eN P ρ fr q)(d:Bool)(j:Option Code)(o:Outcome):(∀c,j=some c->∀f,ρ.ok f c=true)->ee (λv=>
  (match fr.roundOf with
    |none=>if(match j with|none|some .ret=>true|_=>false)=true then .go {frame:={fr with mode:=.returning},callers:=cl,status:=.running,dying:=none} v else .ended o v
    |some l=>GStep.after (seen P fr.fn ((Instr.endRound l j).runT P v #[]).2)<|match((Instr.endRound l j).runT P v #[]).1 with
     | .ok x w=>doReturn P d fr cl none x w
     | .halt _ w=>.ended (.stuck "range over a function: no such loop" (fr.pos P)) w)) v:=by
 intro t;obtain⟨s,z⟩|⟨l,H,s,z,A,_⟩:=h.round;rw[s];dsimp only;exact ee.ite (λ_=>ee.go v _ #[]) λ_=>ee.ended v _ #[];rw[s];dsimp only;obtain⟨B,g,i,e,I⟩|⟨a,b,g,J,C,i,D,e,E,m,n⟩|⟨a,g,i,e,n⟩:=lN.runs (P:=P) w (SR.endRound A j t);unfold ee;simp only[e];trivial;have k:=zV (P:=P) (v:=g) (fr:=fr) (cl:=cl) d a r;have p:=ee.after (seen P fr.fn i) k;unfold ee at*;simp only[e];dsimp only at p;revert p;generalize GStep.after (seen P fr.fn i) (doReturn P d fr cl none a g)=y;intro p;cases y with
 |go K L F=>
  refine lN.trans n.le n.tape p λT G B=>?_;simp only[n.run T G];grind
 |_=>trivial
 unfold ee;simp only[e];trivial
def Va(E:Good P ρ)(w:WR ρ v u){fr p:Frame}{cl:List Frame}(aa:cl≠[])(h:eN P ρ fr p)(q:Bool):
 ee (λv=>stepG.exec P q true fr cl none v) v:=by
 have ab:=E.ok;have N:=λ(j:Option Code)=>R2 w aa h q j (.stuck "exit, goto: no such block or label" (fr.pos P));have t:=h.todo;unfold stepG.exec;revert t N;generalize ac:fr.todo=k0;generalize ai:p.todo=ak;intro N t;cases t with
 |nil=>exact N none (λc e=>by cases e)
 | @cons x x' k k' hx hk=>
  cases hx with
  | @code c A=>
   have r:=A;rw[ab]at r;dsimp only at r;cases c with
   |ret=>exact N (some .ret) (λc e=>by cases e;exact tX E rfl)
   |cond c a b=>
    dsimp only;cases fr.eval c<;>first|exact ee.ended v _ #[]|exact ee.go v _ #[]
   |exit id=>
    dsimp only;cases exitTo id k with
    |none=>exact N (some (.exit id)) (λc e=>by cases e;exact tX E rfl)
    |some j=>exact ee.go v _ #[]
   |goto l=>
    dsimp only;cases gotoIn l k with
    |none=>exact N (some (.goto l)) (λc e=>by cases e;exact tX E rfl)
    |some j=>exact ee.go v _ #[]
   |refuse al=>exact ee.ended v _ #[]
   |rangeFunc f ps a b=>
    simp only[iE,eW]at r;simp only[sH]at r;dsimp only;obtain⟨O,B,D,e,G⟩|⟨x,y,B,u1,C,D,R,e,H,m,g⟩|⟨x,B,D,e,g⟩:=lN.runs (P:=P) w (SR.enterLoop h.fnS.1 h.fnS.2 h.tmps ps a b (gE E r.1.2) (gE E r.2) r.1.1.1 (h.round.imp id λ⟨l,F,a,b,c,_⟩=>⟨l,F,a,b,c⟩));unfold ee;simp only[e];trivial;have⟨l,mk⟩:=x;have⟨F,I⟩:=y;have⟨Q,S⟩:=H;simp only at Q S;have U:=E.mono m.le;have J:=h.mono m.le;have V:vV C mk I:=by obtain⟨rfl,rfl⟩|⟨d,d',rfl,rfl,G,hb⟩:=S;exact .nil;exact .cons G (.inr hb) .nil
    have ad:eN P C {fr with todo:=.inRangeFunc l::k,defers:=mk++fr.defers} {p with todo:=.inRangeFunc F::k',defers:=I++p.defers}:=
     ⟨J.fn,J.fnS,J.tmps,.cons (.inRangeFunc Q) (hk.mono m.le),V.append J.defers,J.mode,J.kind,J.round⟩
    have hs:SN P C (do let d<-resolve (Frame.eval {fr with todo:=.inRangeFunc l::k,defers:=mk++fr.defers}) {callee:=.value f,args:=#[.const (.func (.yield l) #[] #[])],argTypes:=#[]} 0;invoke d.target d.args)
     (do let d<-resolve (Frame.eval {p with todo:=.inRangeFunc F::k',defers:=I++p.defers}) {callee:=.value f,args:=#[.const (.func (.yield F) #[] #[])],argTypes:=#[]} 0;invoke d.target d.args):=by
     unfold resolve;dsimp only;refine SR.ej (SR.ofValue (ad.eval f (m.le.s▸r.1.1.2)) (xs:=_) (xs':=_) ?_) λae d d' W G=>SR.invoke ((U.mono W).fit) ((U.mono W).two) G;simp only[List.map_toArray,kI,uI,Frame.eval];exact fX.one (.yield Q)
    have Z:=ee.after (seen P fr.fn D) (DV (fr:={fr with todo:=.inRangeFunc l::k,defers:=mk++fr.defers}) (cl:=cl) m.rel (.of hs));unfold ee at*;simp only[e];dsimp only at Z;revert Z;generalize GStep.after (seen P fr.fn D) (stepG.apply P true {fr with todo:=.inRangeFunc l::k,defers:=mk++fr.defers} cl none _ B)=y;intro Z;cases y with
    |go g1 v2 am=>
     refine lN.trans g.le g.tape Z λT K O=>?_;simp only[g.run T K];exact O
    |_=>trivial
    unfold ee;simp only[e];trivial
   |region id X draw=>
    dsimp only;cases draw with
    |false=>exact ee.go v _ #[]
    |true=>
     simp only[Bool.not_true,iR,fq];have af:SR P (λ_ (a b:Nat)=>a=b) ρ (Go.choose (.order fr.fn id)) (Go.choose (.order fr.fn id)):=.choose λn=>.pure rfl;obtain⟨O,B,D,e,G⟩|⟨x,y,B,u1,C,D,R,e,H,m,g⟩|⟨x,B,D,e,g⟩:=lN.runs (P:=P) w af;have z:(Go.choose (.order fr.fn id)).run P v=.halt O B:=by rw[kL]at e;exact dH Prod.fst e
     unfold ee;simp only[z];have z:(Go.choose (.order fr.fn id)).run P v=.ok x B:=by rw[kL]at e;exact dH Prod.fst e
     unfold ee;simp only[z];refine⟨g.le,g.tape,λT K=>?_⟩;have L:(Go.choose (.order fr.fn id)).run P (dw v T)=.ok x (dw B T):=by have:=g.run T K;rw[kL]at this;exact dH Prod.fst this
     simp only[L];have z:(Go.choose (.order fr.fn id)).run P v=.halt (.panic x) B:=by rw[kL]at e;exact dH Prod.fst e
     unfold ee;simp only[z]
   |_=>exact ee.go v _ #[]
  |inRangeFunc Q=>exact ee.ended v _ #[]
  |beginRound=>
   dsimp only;refine DV (s':=(do p.roundOf.elim (Go.stuck "beginRound: no round") Instr.beginRound;Pure.pure .skip)) w (.of ?_);obtain⟨z,L⟩|⟨l,F,z,L,hr,_⟩:=h.round;rw[z,L];exact .dead rfl;rw[z,L];exact SR.ej (SR.beginRound hr) λ_ _ _ _ _=>.ff .skip
  |endRangeFunc Q=>
   dsimp only;obtain⟨O,B,D,e,G⟩|⟨x,y,B,u1,C,D,R,e,H,m,A⟩|⟨x,B,D,e,A⟩:=lN.runs (P:=P) w (SR.endLoop Q)
   ·unfold ee;simp only[e];cases O<;>first|trivial|(cases G;done)
   unfold ee;simp only[e];refine⟨A.le,A.tape,λT K=>?_⟩;simp only[A.run T K];rfl;unfold ee;simp only[e];refine⟨A.le,A.tape,λT K=>?_⟩;simp only[A.run T K];rfl
  | @inRegion X td Y=>
   cases td with
   |nil=>exact ee.go v _ #[]
   |cons i aj=>
    dsimp only;refine ee.ite (λA=>?_) λA=>ee.go v _ #[];cases ho:X[i]? with
    |none=>rw[ho]at A;cases A
    |some o=>
     unfold stepG.oper;have z:fr.oper?=some o:=by simp only[Frame.oper?,ac];exact ho
     rw[z];dsimp only;have M:=Y i o ho;have hs:SX P sQ ρ (execOp fr.eval o) (execOp p.eval o):=SX.exec E.fit E.two (λx hx=>h.eval x hx) (λe=>⟨_,e⟩) (λ_=>⟨rfl,rfl⟩) o M;have q:=DV (fr:=fr) (cl:=cl) w hs;obtain⟨z,L⟩|⟨l,F,z,L,hr,ag⟩:=h.round;rw[z];exact q;rw[z];cases ah:o.op<;>first|exact q|skip
     rename_i c;simp only[pZ,eW,ah,FJ]at M;exfalso;have:=M.2;rw[ag]at this;revert this;split<;>(intro h;cases h)
  |_=>exact ee.go v _ #[]
def Vb(f:Good P ρ)(w:WR ρ v u){g:cQ}{e:Frame}(b:g.callers≠[])(c:g.dying=none)(h:eN P ρ g.frame e)(a:Bool):
 ee (λv=>stepG P a g v) v:=by
 have⟨i,j,k,l,d⟩:=g;simp only at b c h;subst c;have m:=Va f w b h a;have n:=OO f w b h a;grind [stepG]
end
end Go.dA
namespace Go.dA
open Go.Conc (G)
structure rA where
 fr:Frame
 cl:List Frame
 v:cJ
def Below(v:cJ)(T:Ta):Prop:=∀j,j<v.drawn->T j=v.tape j
inductive Reach (P:cU) (Stop:Frame->List Frame->cJ->Prop):rA->Prop
 |here {c:rA} (h:Stop c.fr c.cl c.v):Reach P Stop c
 |next {c:rA} (h1:∀T,Below c.v T->∃(c1:rA) (es:Array Event),stepG P true (G c.fr c.cl) (dw c.v T)=.go (G c1.fr c1.cl) c1.v es)
  (h2:∀T (c1:rA) (es:Array Event),Below c.v T->stepG P true (G c.fr c.cl) (dw c.v T)=.go (G c1.fr c1.cl) c1.v es->Reach P Stop c1):Reach P Stop c
theorem Reach.step{P:cU}{Stop:Frame->List Frame->dC}{c:rA}(h:∀T:Ta,Below c.v T->∃a b d f,stepG P true (G c.fr c.cl) (dw c.v T)=.go (G a b) d f/\Reach P Stop ⟨a,b,d⟩):Reach P Stop c:=by refine .next (λT g=>?_) λT i f g e=>?_;have⟨a,b,d,f,e,_⟩:=h T g;exact⟨⟨a,b,d⟩,f,e⟩;have⟨a,b,d,j,k,m⟩:=h T g;rw[k]at e;injection e with l n o;injection l with p q;have⟨r,s,v⟩:=i;grind
def Inv(P:cU)(c:rA):Prop:=∃a u b,Good P a/\(∀f,a.hole f=false)/\WR a c.v u/\si P a [] (G c.fr c.cl) b
def WR.Vd{v u:cJ}(h:WR R v u)(T:Ta):WR R (dw v T) {u with tape:=λj q=>T (v.drawn+(j-u.drawn)) q}:=
 ⟨h.obj,h.low,λj q=>by show T (v.drawn+j) q=T (v.drawn+(u.drawn+j-u.drawn)) q;grind⟩
def HR.wr{v u:cJ}(h:HR R v u):WR R v {u with tape:=λj q=>v.tape (v.drawn+(j-u.drawn)) q}:=
 ⟨h.obj,h.low,λj q=>cL⟩
theorem Inv.dw{P:cU}{c:rA}(h:Inv P c)(T:Ta):Inv P {c with v:=dw c.v T}:=by have⟨a,u,b,d,e,f,g⟩:=h;exact⟨a,_,b,d,e,f.Vd T,g⟩
def IM.frame{P:cU}(b:∀f,R.hole f=false){fr a:Frame}(h:IM P R fr a):eN P R fr a:=by
 cases h with
 |fr h=>grind
 |hole _ c _=>grind
theorem Inv.callers{P:cU}{c:rA}(h:Inv P c):c.cl≠[]:=by have⟨f,u,g,i,j,k,b⟩:=h;have⟨X,l,e,_⟩:=b.callers;intro d;have a:c.cl=X++[floor]:=e;rw[d]at a;simp at a
theorem Inv.step{P:cU}{c:rA}(h:Inv P c):(∃o w a,stepG P true (G c.fr c.cl) c.v=.ended o w a)\/(∃e f a,stepG P true (G c.fr c.cl) c.v=.go e f a/\zR e)\/∃g i f a,stepG P true (G c.fr c.cl) c.v=.go (G g i) f a/\Inv P ⟨g,i,f⟩:=by
 have⟨A,u,B,n,x,y,p⟩:=h;have j:=IN n y p (p.fr.frame x) true true;revert j;generalize stepG P true (G c.fr c.cl) c.v=s;intro j;cases s with
 |go e f a=>
  obtain C|⟨k,l,D,z,_,⟨d,m⟩,b⟩:=j;grind;refine .inr (.inr ⟨e.frame,e.callers,f,a,?_,k,_,l,n.mono m.le,by rw[<-m.le.h];grind,m.rel.hr.drawn.wr,?_⟩);have⟨E,F,H,I,J⟩:=e;have q:=b.st.1;have r:=b.dy.1;have t:=b.of.1;simp only at q r t;subst q r t;rfl;exact⟨b.fr,b.callers,⟨rfl,b.st.2⟩,⟨rfl,b.dy.2⟩,⟨rfl,b.of.2⟩⟩
 |ended o w a=>grind
 |_=>exact j.elim
def Inv.zU{P:cU}{c:rA}(h:Inv P c):ee (λv=>stepG P true (G c.fr c.cl) v) c.v:=by have a:=h.callers;have⟨i,u,j,b,d,e,f⟩:=h;exact Vb (g:=G c.fr c.cl) b e a rfl (f.fr.frame d) true
def Comes(P:cU)(Stop:Frame->List Frame->dC)(c:rA):Prop:=
 ∀T,Below c.v T->∃n a b v,runN P n (lone c.fr c.cl (dw c.v T))=.next (lone a b v)/\Stop a b v
section
variable{P:cU}{Stop:Frame->List Frame->cJ->Prop}
theorem rB{c a:Frame}{d b:List Frame}{v e:cJ}{f:Array Event}(h:stepG P true (G c d) v=.go (G a b) e f):Go.step P (lone c d v)=.next (lone a b e):=by refine step_lone_go ?_;have g:stepG P true {frame:=c,callers:=d,status:=.running,dying:=none} v=.go (G a b) e f:=h;rw[g];rfl
def oD{a:Frame}{b:List Frame}{v c:cJ}{o:Outcome}{d:Array Event}(h:stepG P true (G a b) v=.ended o c d):Go.step P (lone a b v)=.ended o c:=by refine step_lone_ended ?_;have e:stepG P true {frame:=a,callers:=b,status:=.running,dying:=none} v=.ended o c d:=h;rw[e];rfl
structure WA(P:cU)(Stop:Frame->List Frame->cJ->Prop)(c:rA):Prop where
 inv:Inv P c
 comes:Comes P Stop c
 not:¬Reach P Stop c
structure WB(P:cU)(c c1:rA)(T:Ta):Prop where
 below:Below c.v T
 tape:c1.v.tape=T
 le:c.v.drawn<=c1.v.drawn
 step:∀L,(∀j,c.v.drawn<=j->j<c1.v.drawn->L j=T j)->stepG P true (G c.fr c.cl) (dw c.v L)=.go (G c1.fr c1.cl) (dw c1.v L) (match stepG P true (G c.fr c.cl) (dw c.v L)with| .go _ _ es=>es|_=>#[])
theorem WA.next(U:∀k g v,Stop k g v->g≠[])(x:∀c T,Inv P c->Stop c.fr c.cl c.v->Stop c.fr c.cl (dw c.v T)){c:rA}(h:WA P Stop c):∃I T,WB P c I T/\WA P Stop I:=by
 have V:¬∀T:Ta,Below c.v T->∃a b d l,stepG P true (G c.fr c.cl) (dw c.v T)=.go (G a b) d l/\Reach P Stop ⟨a,b,d⟩:=λW=>h.not (.step W);have y:∀T,¬Stop c.fr c.cl (dw c.v T):=λT m=>h.not (.here (by have:=x {c with v:=dw c.v T} c.v.tape (h.inv.dw T) m;exact this))
 have⟨T,z⟩:=Classical.not_forall.1 V;have⟨A,z⟩:=Classical.not_imp.1 z;have J:=h.inv.dw T;have⟨n,k,g,v,f,m⟩:=h.comes T A;have p:∀{T k g v n},runN P n (lone c.fr c.cl (dw c.v T))=.next (lone k g v)->Stop k g v->∃t,n=t+1:=by
  intro T k g v n f m;cases n with
  |zero=>
   exfalso;simp only[runN]at f;injection f with f;have e1:c.fr=k/\c.cl=g/\dw c.v T=v:=by grind [Array.mk.injEq,List.cons.injEq,lone]
   grind
  |succ n=>grind
 obtain⟨t,rfl⟩:=p f m;obtain⟨o,w,l,e⟩|⟨X,d,l,e,K⟩|⟨a,b,d,l,e,q⟩:=J.step;exfalso;simp only[runN,oD e]at f;grind;exfalso;have⟨a,b,st,dy,of⟩:=X;have B:=K;have⟨M,N,O,Q,Y⟩:=K;simp only at O M N Q Y;subst O M N Q;have Z:stepG P true (G c.fr c.cl) (dw c.v T)=.go (G a []) d l:=e;simp only[runN,rB Z]at f;cases t with
 |zero=>
  grind [Array.mk.injEq,List.cons.injEq,runN,lone]
 |succ n=>
  have⟨o,w',aa,R⟩:=B.ended (P:=P) true d;simp only[runN,oD (show stepG P true (G a []) d=_ from R)]at f;grind
 have i:=J.zU;unfold ee at i;dsimp only at i;rw[e]at i;dsimp only at i;have r:∀L,(∀j,c.v.drawn<=j->j<d.drawn->L j=T j)->stepG P true (G c.fr c.cl) (dw c.v L)=.go (G a b) (dw d L) l:=λL S=>i.run L S;refine⟨⟨a,b,d⟩,T,⟨A,i.tape,i.le,λL S=>cL⟩,q,?_,λC=>z ⟨a,b,d,l,e,C⟩⟩;intro D s;have E:d.tape=T:=i.tape;have F:c.v.drawn<=d.drawn:=i.le;have H:Below c.v D:=λj u=>by rw[s j (ew u F)];show d.tape j=_;rw[E];exact A j u
 have⟨n,k,g,v,f,m⟩:=h.comes D H;obtain⟨t,rfl⟩:=p f m;have R:=r D λj _ u=>by rw[s j u];grind
 grind [rB,runN]
def sR(d:∀r p v,Stop r p v->p≠[])(b:∀c T,Inv P c->Stop c.fr c.cl c.v->Stop c.fr c.cl (dw c.v T)){c:rA}(A:Inv P c)(h:Comes P Stop c):Reach P Stop c:=by
 refine Ku λl=>?_;have B:WA P Stop c:=⟨A,h,l⟩;let a:Nat->{c:rA//WA P Stop c}:=λn=>Nat.rec ⟨c,B⟩ (λ_ x=>⟨Classical.choose (x.2.next d b),(jG (jG (x.2.next d b))).2⟩) n;have y:(a 0).1=c:=rfl;have s:∀n,∃T,WB P (a n).1 (a (n+1)).1 T:=λn=>⟨Classical.choose (jG ((a n).2.next d b)),(jG (jG ((a n).2.next d b))).1⟩;have mono:∀n k,(a n).1.v.drawn<=(a (n+k)).1.v.drawn:=by
  intro n k;induction k with
  |zero=>grind
  |succ k o=>
   have⟨T,f⟩:=s (n+k);exact du o f.le
 have t:∀n k j,j<(a n).1.v.drawn->(a (n+k)).1.v.tape j=(a n).1.v.tape j:=by
  intro n k j g;induction k with
  |zero=>rfl
  |succ k o=>
   have⟨T,f⟩:=s (n+k);rw[<-o,<-f.below j (ew g (mono n k))];show(a (n+k+1)).1.v.tape j=_;rw[f.tape]
 let L:Ta:=λj q=>open Classical in if i:∃n,j<(a n).1.v.drawn then(a (Classical.choose i)).1.v.tape j q else 0
 have z:∀n j,j<(a n).1.v.drawn->L j=(a n).1.v.tape j:=by intro n j g;funext q;have i:∃n,j<(a n).1.v.drawn:=⟨n,g⟩;show(open Classical in if i:∃n,j<(a n).1.v.drawn then(a (Classical.choose i)).1.v.tape j q else 0)=_;rw[dif_pos i];have C:=jG i;generalize Classical.choose i=m at C;obtain u|u:=Nat.le_total m n;grind [Nat.exists_eq_add_of_le];grind [Nat.exists_eq_add_of_le]
 have w:∀n,∀k,runN P (n+k) (lone c.fr c.cl (dw c.v L))=runN P k (lone (a n).1.fr (a n).1.cl (dw (a n).1.v L)):=by
  intro n;induction n with
  |zero=>grind
  |succ n o=>
   intro k;rw[show n+1+k=n+(k+1)from cM,o (k+1)];have⟨T,f⟩:=s n;have:=f.step L λj _ g=>by rw[z (n+1) j g,f.tape]
   simp only[runN,rB this]
 have⟨k,r,p,v,D,E⟩:=h L λj g=>z 0 j g;have e:=w k 0;rw[pB,D]at e;simp only[runN]at e;injection e with e;have F:r=(a k).1.fr/\p=(a k).1.cl/\v=dw (a k).1.v L:=by grind [Array.mk.injEq,List.cons.injEq,lone]
 obtain⟨rfl,rfl,rfl⟩:=F;refine(a k).2.not (.here ?_);have:=b {(a k).1 with v:=dw (a k).1.v L} (a k).1.v.tape ((a k).2.inv.dw L) E;exact this
end
section
variable{P:cU}
def Left(P:cU)(f:dZ)(R:nu)(a:Frame)(b:List Frame)(v:cJ):Prop:=
 b=[floor]/\a.fn=f/\∃x,R x v/\a.leaving P v (.returned x)
def Left.callers{R:nu}(b:Frame)(a:List Frame)(v:cJ)(h:Left P K R b a v):a≠[]:=by rw[h.1];simp
theorem Left.dw{R:nu}(f:∀x w T,R x w->R x (dw w T))(c:rA)(T:Ta)(g:Inv P c)(h:Left P K R c.fr c.cl c.v):Left P K R c.fr c.cl (dw c.v T):=by
 have⟨i,k,x,l,m,n,o,fn,p,q⟩:=h;refine⟨i,k,x,f _ _ _ l,m,n,o,fn,p,?_⟩;have⟨y,u,z,A,r,s,t⟩:=g;have d:=(SR.results (P:=P) (fn:=fn) (t.fr.frame r).tmps).zU s #[];rw[kL]at d;have e:(results fn (G c.fr c.cl).frame.tmps).run P c.v=.ok x c.v:=q;simp only[e]at d;obtain d|d:=d;exact d.elim;have:=d.run T λj a b=>by simp only[IP]at b;omega
 rw[kL]at this;exact dH Prod.fst this
def sS{R:nu}(c:∀x b T,R x b->R x (dw b T))(d:Inv P ⟨Frame.enter P K W .normal,[floor],w⟩)
 (h:∀T,Below w T->Calls P K W (dw w T) λe a=>∃x,e=.returned x/\R x a):Reach P (Left P K R) ⟨Frame.enter P K W .normal,[floor],w⟩:=by
 refine sR Left.callers (Left.dw c) d λT f=>?_;obtain⟨e,a,g,⟨x,rfl,i⟩,j,k,l⟩:=h T f [floor];have⟨n,m⟩:=j;exact⟨n,g,[floor],a,m,rfl,k,x,i,l⟩
def Reach.follow{a:Frame->List Frame->dC}{c b:rA}{d:Array Event}{T:Ta}(h:Reach P a c)(f:¬a c.fr c.cl c.v)(g:Below c.v T) (e:stepG P true (G c.fr c.cl) (dw c.v T)=.go (G b.fr b.cl) b.v d):Reach P a b:=by
 cases h with
 |here h=>exact absurd h f
 |next j i=>exact i T b d g e
end
end Go.dA
namespace Go.dA
open Go.Conc
open Go.ConcN (sumTo upd sumTo_upd upd_ne upd_same)
def pD(X:dp):Loc->Prop
 | .cell a=>X a.block
 | .obj r=>X r
 |_=>False
def sG(v u:cJ):Ta:=λj q=>if j<v.drawn then v.tape j q else u.tape (u.drawn+(j-v.drawn)) q
def Cx(v u:cJ):Below v (sG v u):=λj a=>by grind [sG]
theorem WR.sG{v u:cJ}(h:HR R v u):WR R (dw v (sG v u)) u:=
 ⟨h.obj,h.low,λj q=>by show Go.dA.sG v u (v.drawn+j) q=_;unfold Go.dA.sG;grind⟩
def IQ{v:cJ}(l:∀b c,R.r b c->¬A c)(n:∀c,A c->c<k)(o:∀b c,R.r b c->c<m){e:Event}(h:XX R v k m e):EvL (pD A) m e:=by obtain⟨a,i,b,rfl,g,_,_⟩|⟨r,i,b,rfl,g,_⟩|⟨a,i,rfl,p,j⟩|⟨r,i,rfl,p,j⟩|rfl:=h;refine⟨λx d f=>?_,dq,dq,o _ _ g⟩;simp only[MemAct.ofEvent,MemAct.touch?,iN]at d;subst d;exact absurd f (l _ _ g);refine⟨λx d f=>?_,dq,dq,by simpa[MemAct.ofEvent,MemAct.low,Loc.low]using o _ _ g⟩;simp only[MemAct.ofEvent,MemAct.touch?,iN]at d;subst d;exact absurd f (l _ _ g);refine⟨λx d f=>?_,dq,dq,j⟩;simp only[MemAct.ofEvent,MemAct.touch?,iN]at d;subst d;have:=n _ f;omega;refine⟨λx d f=>?_,dq,dq,by simpa[MemAct.ofEvent,MemAct.low,Loc.low]using j⟩;simp only[MemAct.ofEvent,MemAct.touch?,iN]at d;subst d;have:=n _ f;omega;refine⟨λx d f=>?_,dq,dq,trivial⟩;simp[MemAct.ofEvent,MemAct.touch?]at d
structure FQ(P:cU)(fs:Array Func)(w0:cJ)(ρ:dO)(X:Nat->Prop)(c:rA)(gs:Array cQ)(a:cQ)(w:cJ)(t:Trace)(q:Nat->Nat):Prop where
 inv:Inv P c
 good:Good P ρ
 same:ρ.fs=fs
 at0:gs[0]? =some a
 gor:si P ρ [] (G c.fr c.cl) a
 heap:HR ρ c.v w
 leavers:Leavers (P.jj fs) t gs q
 past:Past (pD X) w.heap.size t
 low:∀b,X b->b<w.heap.size
 apart:∀b c',ρ.r b c'->¬X c'
 old:∀b c',ρ.r b c'->c'<w0.heap.size->yW c.v b
 grown:w0.heap.size<=w.heap.size
 kept:∀c',c'<w0.heap.size->w.heap[c']? =w0.heap[c']?
 world:w.tape=w0.tape/\w.os=w0.os/\w.output=w0.output
 holes:(∀f,ρ.hole f=true->P.funcs[f]?≠fs[f]?)/\ρ.dim=false/\¬ρ.Def
inductive Path (P:cU) (Stop:Frame->List Frame->cJ->Prop):rA->rA->Prop
 |one {c c1:rA} {T:Ta} {es:Array Event} (hn:¬Stop c.fr c.cl c.v) (hT:Below c.v T) (e:stepG P true (G c.fr c.cl) (dw c.v T)=.go (G c1.fr c1.cl) c1.v es):Path P Stop c c1
 |cons {c c1 c2:rA} {T:Ta} {es:Array Event} (hn:¬Stop c.fr c.cl c.v) (hT:Below c.v T) (e:stepG P true (G c.fr c.cl) (dw c.v T)=.go (G c1.fr c1.cl) c1.v es) (h:Path P Stop c1 c2):Path P Stop c c2
def Reach.OP{P:cU}{a:Frame->List Frame->dC}{M:rA->Prop}(j:∀c,a c.fr c.cl c.v->M c) (o:∀c,Reach P a c->¬a c.fr c.cl c.v->(∀b,Path P a c b->M b)->M c):∀c,Reach P a c->M c:=by
 intro c k;have l:Reach P a c/\M c/\∀b,Path P a c b->Reach P a b/\M b:=by
  induction k with
  | @here c h=>
   refine⟨.here h,j c h,λb d=>?_⟩;cases d with
   |one f _ _=>grind
   |cons f _ _ _=>grind
  | @next c g m p=>
   have q:Reach P a c:=.next g m;have i:∀b,Path P a c b->Reach P a b/\M b:=by
    intro b d;cases d with
    |one f n e=>
     grind
    |cons f n e d=>
     grind
   grind
 grind
section
variable{P:cU}{fs:Array Func}{w0:cJ}
theorem FQ.step{i:Frame->List Frame->dC}(N:∀fr O v,i fr O v->O≠[]){J:dO}{X:dp}{c:rA}{K:Array cQ}{a:cQ}{w:cJ}{t:Trace}{q:Nat->Nat}(h:FQ P fs w0 J X c K a w t q)(Q:eN P J c.fr a.frame) (R:Reach P i c)(S:¬i c.fr c.cl c.v)(d:Nat):∃l s B u C,Path P i c l/\stepG (P.jj fs) true a (w.at d)=.go B u C/\DR J s (dw c.v (sG c.v (w.at d))) (w.at d) l.v u C/\FQ P fs w0 s X l ((K.map (woken (P.jj fs) a B u)).setIfInBounds 0 B) B u (t++MemOp.ofEvents 0 a.frame.fn a.frame.place C) q:=by
 have T:=h.same;subst T;have hw:WR J (dw c.v (sG c.v (w.at d))) (w.at d):=WR.sG ⟨h.heap.obj,h.heap.low⟩;have U:=Cx c.v (w.at d);have hs:=IN h.good hw h.gor Q true true;have L:=h.inv.dw (sG c.v (w.at d));cases R with
 |here h=>grind
 |next p M=>
  have⟨l,V,e⟩:=p _ U;have W:=M _ l V U e;have hp:Path P i c l:=.one S U e;have E:Inv P l:=by
   obtain⟨o,w',C,D⟩|⟨g1,v1,C,D,k⟩|⟨ad,ae,v1,C,D,ac⟩:=L.step;grind;rw[show stepG P true (G c.fr c.cl) (dw c.v (sG c.v (w.at d)))=_ from D]at e;injection e with Y e2 e3;subst Y;exfalso;have Z:=k;have⟨k1,k2,k0,k3,k4⟩:=k;cases W with
   |here h=>exact N _ _ _ h k3
   |next p M=>
    have⟨c2,af,ag⟩:=p l.v.tape λ_ _=>rfl;have⟨o,w',z,ah⟩:=Z.ended (P:=P) true (dw l.v l.v.tape);grind
   rw[show stepG P true (G c.fr c.cl) (dw c.v (sG c.v (w.at d)))=_ from D]at e;injection e with Y e2 e3;injection Y with e4 e5;have⟨fr,O,v⟩:=l;grind
  rw[e]at hs;obtain k|⟨s,B,u,z,D,⟨d,m⟩,hg⟩:=hs;exfalso;have:=E.callers;exact this k.2.2.2.1;refine⟨l,s,B,u,z,hp,D,⟨d,m⟩,E,h.good.mono m.le,m.le.f.symm,?_,hg,m.rel.hr.drawn,?_,?_,λb hb=>ew (h.low b hb) m.usize,λb n r F=>?_,λb n r H=>?_,du h.grown m.usize,λn H=>?_,⟨m.tape.trans h.world.1,m.os.trans h.world.2.1,m.output.trans h.world.2.2⟩,⟨λf Q=>h.holes.1 f (by rw[m.le.h];grind),m.le.d▸h.holes.2.1,λ⟨f,Q⟩=>h.holes.2.2 ⟨f,by rw[m.le.w];grind⟩⟩⟩;have aa:0<K.size:=(iS.1 h.at0).1;grind;refine⟨λj x hj F=>?_,λj hj=>?_⟩;have ab:0≠j:=cM;rw[gd ab,vN]at F;obtain⟨y,hy,rfl⟩:=iU.1 F;have hq:=h.leavers.old j y hj hy;rw[woken_quitsD hq,Deaf_other t cM _ (λop A=>by obtain⟨e,_,rfl⟩:=Go.Conc.mem_ofEvents A;rfl)];grind;have aa:0<K.size:=(iS.1 h.at0).1;rw[Deaf_other t (g:=j) (g':=0) cL (MemOp.ofEvents 0 a.frame.fn a.frame.place z) (λop A=>by obtain⟨e,_,rfl⟩:=Go.Conc.mem_ofEvents A;rfl)];exact h.leavers.above j cL;have I:w.heap.size<=u.heap.size:=m.usize;refine(h.past.mono I).own λe he=>IQ h.apart h.low (λb c R=>?_) (m.evs e he);exact ew (hw.V8 R) I;obtain p|⟨_,p⟩:=m.fresh b n r;exact h.apart b n p F;have:=h.low n F;have M:w.heap.size<=n:=p;omega;obtain p|⟨_,p⟩:=m.fresh b n r;have L:yW (dw c.v (sG c.v (w.at d))) b:=h.old b n p H;exact L.keep (m.vT b L);have M:w.heap.size<=n:=p;have:=h.grown;omega;rw[m.same n (ew H h.grown) λb r=>h.old b n r H];exact h.kept n H
end
section
variable{P:cU}{fs:Array Func}{w0:cJ}{Stop:Frame->List Frame->cJ->Prop}
def OQ(P:cU)(fs:Array Func)(w0:cJ)(Stop:Frame->List Frame->dC):Prop:=
 ∀(e:dO) (X:dp) (c:rA) (i:Array cQ) (a:cQ) (w:cJ) (n:Option (Nat×Nat)) (t:Trace) (q:Nat->Nat) (f:dZ) (j b:eH),FQ P fs w0 e X c i a w t q->Reach P Stop c->e.S f=true->e.hole f=true->fX e j b->c.fr=Frame.enter P f j .normal->a.frame=Frame.enter (P.jj fs) f b .normal->∃(N:Nat) (d:Array cQ) (k:cJ) (g:Option (Nat×Nat)) (l:Trace) (o:Nat->Nat) (m:rA) (h:dO) (p:dp) (r:cQ),runNT (P.jj fs) N (crowd i w n) t=(.next (crowd d k g),l)/\FQ P fs w0 h p m d r k l o/\Path P Stop c m
def runNT_add{Q:cU}{c d a:Machine}{t e b:Trace}(h:runNT Q m c t=(.next d,e))(i:runNT Q k d e=(.next a,b)):runNT Q (m+k) c t=(.next a,b):=by
 induction m generalizing c t with
 |zero=>
  simp only[runNT]at h;grind
 |succ m j=>
  rw[show m+1+k=(m+k)+1 from cM];simp only[runNT]at h⊢;cases f:stepT Q c with
  |mk s g=>
   rw[f]at h;cases s with
   |next l=>grind
   |ended o w=>grind
def lT{Q:cU}{m b:Machine}{t:Trace}{a:Array MemOp}(h:stepT Q m=(.next b,a)):runNT Q 1 m t=(.next b,t++a):=by grind [runNT]
def FQ.pick{X:dp}{c:rA}{b:Array cQ}{w:cJ}{t:Trace}{q:Nat->Nat}(h:FQ P fs w0 R X c b Z w t q)(sl:Option (Nat×Nat)):(∃d a,stepT (P.jj fs) (crowd b w sl)=runT (P.jj fs) (crowd b (w.at d) a) 0)\/∃d a l r J,stepT (P.jj fs) (crowd b w sl)=(.next (crowd l (w.at d) a),r)/\FQ P fs w0 R X c l Z (w.at d) (t++r) J/\sumTo l.size J+1=sumTo b.size q:=by
 have s:Z.status=.running:=h.gor.st.2;have N:=h.at0;have v:=h.leavers;have B:∀g∈b,awake g:=by intro g C;obtain⟨i,z,rfl⟩:=Array.mem_iff_getElem.1 C;obtain rfl|f:=nt i;grind [Array.getElem?_eq_getElem,awake_of];exact awake_of ((v.old i _ f (nh z)).status.elim .inl cL)
 have⟨i,g,d,a,z,C,D⟩:=crowd_pick (P:=P.jj fs) (w:=w) (sl:=sl) B cL;obtain rfl|f:=nt i;grind;have A:=v.old i g f z;have E:(i==0)=false:=cL;have F:i<b.size:=cL;cases m:q i with
 |zero=>rw[m]at A;rw[A.1]at C;grind
 |succ k=>
  rw[m]at A;obtain⟨V,_⟩|⟨_,g',O,Q,u,S⟩:=A;grind;have n:=runT_crowd_go (P:=P.jj fs) (sl:=a) (i:=i) z (by rw[E];exact u (w.at d));have G:((b.map (woken (P.jj fs) g g' (w.at d))).setIfInBounds i g').size=b.size:=dq;have K:sumTo b.size (upd q i k)+(k+1)=sumTo b.size q+k:=by have:=sumTo_upd q k id F;simpa[m]using this
  refine .inr ⟨d,a,_,_,upd q i k,D.trans n,⟨h.inv,h.good,h.same,?_,h.gor,⟨h.heap.obj,h.heap.low⟩,⟨λj x L M=>?_,λj L=>?_⟩,h.past.mute cM Q,h.low,h.apart,h.old,h.grown,h.kept,h.world,h.holes⟩,by rw[G];omega⟩;have H:i≠0:=cM;rw[gd H,vN,N];simp[woken_run s];by_cases o:i=j;grind [Array.getElem?_setIfInBounds_self_of_lt,Option.some.inj,upd_same,Deaf_own];rw[gd o,vN]at M;obtain⟨y,T,rfl⟩:=iU.1 M;have I:=v.old j y L T;rw[woken_quitsD I,upd_ne q k (jg o),Deaf_other t o _ (λU p=>by obtain⟨e,_,rfl⟩:=Go.Conc.mem_ofEvents p;rfl)];grind;rw[Deaf_other t (g:=j) (g':=i) cL (MemOp.ofEvents i g.frame.fn g.frame.place O) (λU p=>by obtain⟨e,_,rfl⟩:=Go.Conc.mem_ofEvents p;rfl)];exact v.above j cL
def Path.then{c a b:rA}(h:Path P Stop c a)(k:b=a\/Path P Stop a b):Path P Stop c b:=by
 obtain rfl|k:=k;grind;induction h with
 |one d f e=>exact .cons d f e k
 |cons d f e _ g=>exact .cons d f e (g k)
def lead(Y:∀fr cl v,Stop fr cl v->cl≠[])(hole:OQ P fs w0 Stop):∀c,Reach P Stop c->∀(y:dO) (X:dp) (s:Array cQ) (a:cQ) (w:cJ) (sl:Option (Nat×Nat)) (t:Trace) (q:Nat->Nat),FQ P fs w0 y X c s a w t q->∃(N:Nat) (g:Array cQ) (A:cJ) (b:Option (Nat×Nat)) (B:Trace) (C:Nat->Nat) (l:rA) (j:dO) (J:dp) (K:cQ),runNT (P.jj fs) N (crowd s w sl) t=(.next (crowd g A b),B)/\FQ P fs w0 j J l g K A B C/\Stop l.fr l.cl l.v/\(l=c\/Path P Stop c l):=by
 intro c hc
 refine Reach.OP (M:=λc=>∀(y:dO) (X:dp) (s:Array cQ) (a:cQ) (w:cJ) (sl:Option (Nat×Nat)) (t:Trace) (q:Nat->Nat),
  FQ P fs w0 y X c s a w t q->∃(N:Nat) (g:Array cQ) (A:cJ) (b:Option (Nat×Nat)) (B:Trace) (C:Nat->Nat) (l:rA) (j:dO) (J:dp) (K:cQ),runNT (P.jj fs) N (crowd s w sl) t=(.next (crowd g A b),B)/\FQ P fs w0 j J l g K A B C/\Stop l.fr l.cl l.v/\(l=c\/Path P Stop c l)) ?_ ?_ c hc
 intro c hs y X s a w sl t q u;exact⟨0,s,w,sl,t,q,c,y,X,a,rfl,u,hs,.inl rfl⟩;intro c hr Z ih;have ae:∀{W z:rA},Path P Stop c W->(z=W\/Path P Stop W z)->Path P Stop c z:=λh k=>h.then k;have aa:∀(M:Nat) (y:dO) (X:dp) (s:Array cQ) (a:cQ) (w:cJ) (sl:Option (Nat×Nat)) (t:Trace) (q:Nat->Nat),sumTo s.size q<=M->
  FQ P fs w0 y X c s a w t q->∃(N:Nat) (g:Array cQ) (A:cJ) (b:Option (Nat×Nat)) (B:Trace) (C:Nat->Nat) (l:rA) (j:dO) (J:dp) (K:cQ),runNT (P.jj fs) N (crowd s w sl) t=(.next (crowd g A b),B)/\FQ P fs w0 j J l g K A B C/\Stop l.fr l.cl l.v/\(l=c\/Path P Stop c l):=by
  intro M;induction M with
  |zero=>
   intro y X s a w sl t q hM u;have D:=u.gor;have n:=D.fr;generalize E:(G c.fr c.cl).frame=fr at n;generalize x:a.frame=ac at n;cases n with
   |fr hf=>
    obtain⟨d,b,F⟩|⟨d,b,g,ab,C,_,_,hs⟩:=u.pick sl;have⟨W,j,a1,w1,es,hp,e,m,H⟩:=u.step Y (by rw[x];subst E;exact hf) hr Z d;have⟨N,o,L,p,O,Q,z,r,R,S,T,U,V,r4⟩:=ih W hp j X _ a1 w1 b _ q H;have h1:=F.trans (runT_crowd_go (P:=P.jj fs) (sl:=b) (i:=0) u.at0 (show stepG (P.jj fs) (0==0) a (w.at d)=_ from e));exact⟨1+N,o,L,p,O,Q,z,r,R,S,runNT_add (lT h1) T,U,V,cL⟩;grind
   | @hole f hS hh xs I hx=>
    have e2:a.frame=Frame.enter (P.jj fs) f I .normal:=by rw[x,u.same]
    have⟨N,g,A,b,B,C,l,j,J,K,T,U,V⟩:=hole y X c s a w sl t q f xs I u hr hS hh hx E e2;have⟨N2,o,L,p,O,Q,z,r,R,S,s1,s2,s3,s4⟩:=ih l V j J g K A b B C U;exact⟨N+N2,o,L,p,O,Q,z,r,R,S,runNT_add T s1,s2,s3,cL⟩
  |succ M ad=>
   intro y X s a w sl t q hM u;have D:=u.gor;have n:=D.fr;generalize E:(G c.fr c.cl).frame=fr at n;generalize x:a.frame=ac at n;cases n with
   |fr hf=>
    obtain⟨d,b,F⟩|⟨d,b,g,ab,C,F,H,hs⟩:=u.pick sl;have⟨W,j,a1,w1,es,hp,e,m,H⟩:=u.step Y (by rw[x];subst E;exact hf) hr Z d;have⟨N,o,L,p,O,Q,z,r,R,S,T,U,V,r4⟩:=ih W hp j X _ a1 w1 b _ q H;have h1:=F.trans (runT_crowd_go (P:=P.jj fs) (sl:=b) (i:=0) u.at0 (show stepG (P.jj fs) (0==0) a (w.at d)=_ from e));exact⟨1+N,o,L,p,O,Q,z,r,R,S,runNT_add (lT h1) T,U,V,cL⟩;have⟨N,o,L,p,O,Q,z,r,R,S,T,U,V,r4⟩:=ad y X g a (w.at d) b (t++ab) C cM H;exact⟨1+N,o,L,p,O,Q,z,r,R,S,runNT_add (lT F) T,U,V,r4⟩
   | @hole f hS hh xs I hx=>
    have e2:a.frame=Frame.enter (P.jj fs) f I .normal:=by rw[x,u.same]
    have⟨N,g,A,b,B,C,l,j,J,K,T,U,V⟩:=hole y X c s a w sl t q f xs I u hr hS hh hx E e2;have⟨N2,o,L,p,O,Q,z,r,R,S,s1,s2,s3,s4⟩:=ih l V j J g K A b B C U;exact⟨N+N2,o,L,p,O,Q,z,r,R,S,runNT_add T s1,s2,s3,cL⟩
 intro y X s a w sl t q u;exact aa _ y X s a w sl t q (di _) u
end
end Go.dA
