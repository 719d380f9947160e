/- Laws that the proof needs, part 3. Conditions: none. -/
import Derived.Scope
import Derived.RangeFuncRecord
import Derived.RangeFuncLeaves
import Derived.Test.YteeagjkaflglpaaGreatX02
set_option maxRecDepth 100000
set_option maxHeartbeats 8000000
set_option linter.all false
variable{m k i j o p s d:Nat}{w t e:er}{x y z:eu}{A B C:Nat->Prop}{l f:List Nat}{T U:eD}{a:Option Go.Addr}{M Y:List eu}{I J:Int}{h:Go.Addr}{D E:Bool}{K:fG}{S:er->Prop}
namespace Go.Proofs.W
open Go.RowKit
abbrev L:=List (Nat×eu)
def lk:L->Nat->Option eu
 |[],_=>none
 |p::r,t=>match Nat.beq p.1 t with
  |true=>some p.2
  |false=>lk r t
def nth{a:Type}:List a->Nat->Option a
 |[],_=>none
 |x::_,0=>some x
 |_::r,n+1=>nth r n
def mem:Nat->ew->Bool
 |_,[]=>false
 |n,x::r=>match Nat.beq n x with
  |true=>true
  |false=>mem n r
def ev(l:L):fI->Option eu
 | .tmp t=>lk l t
 | .const v=>some v
 | .func f=>some (.func (.func f) #[] #[])
 | .global _=>none
def evs(l:L):List fI->Option fD
 |[]=>some []
 |x::r=>match ev l x with
  |some v=>match evs l r with
   |some a=>some (v::a)
   |none=>none
  |none=>none
def TV(l:L):Option fI->Option (Option eu)
 |none=>some none
 |some x=>match ev l x with
  |some v=>some (some v)
  |none=>none
def ins(N:Nat)(d:Option Nat)(v:eu)(l:L):L:=match d with
 |none=>l
 |some d=>match Nat.blt d N with
  |true=>(d,v)::l
  |false=>l
structure Fr(N:Nat)(l:L)(a:Act):Prop where
 size:a.tmps.size=N
 defers:a.defers=[]
 at_:∀t v,lk l t=some v->a.eval (.tmp t)=v
structure xB(N:Nat)(l:L)(a:Act):Prop where
 size:a.tmps.size=N
 at_:∀t v,lk l t=some v->a.eval (.tmp t)=v
def Fr.b{N:Nat}{l:L}{a:Act}(h:Fr N l a):xB N l a:=⟨h.size,h.at_⟩
theorem xB.eval{N:Nat}{l:L}{a:Act}(h:xB N l a){x:fI}{v:eu}(b:ev l x=some v):a.eval x=v:=by
 cases x with
 |tmp t=>exact h.at_ t v b
 |const c=>exact eP b
 |func f=>exact eP b
 |global g=>cases b
theorem Fr.eval{N:Nat}{l:L}{a:Act}(h:Fr N l a){x:fI}{v:eu}(c:ev l x=some v):a.eval x=v:=h.b.eval c
theorem Fr.put{N:Nat}{l:L}{a:Act}(h:Fr N l a)(d:Option Nat)(v:eu)(f:∀t,d=some t->t<N):Fr N (ins N d v l) (a.put d v):=by
 refine⟨(o9 _ _ _).trans h.size,(wR _ _ _).trans h.defers,λt u b=>?_⟩;cases d with
 |none=>exact h.at_ t u b
 |some d=>
  have e:Nat.blt d N=true:=by simpa[Nat.blt_eq]using f d rfl
  simp only[ins,e]at b;simp only[lk]at b;cases c:Nat.beq d t with
  |true=>
   rw[c]at b;have:d=t:=jL c;subst this;rw[xR _ _ _ (by rw[h.size];exact f d rfl)];exact eP b
  |false=>
   rw[c]at b;have:d≠t:=xF c;rw[tT _ _ _ _ (by simpa using this)];exact h.at_ t u b
def Fr.xT{N:Nat}{l:L}{a:Act}(h:Fr N l a){d:Nat}{v:eu}(e:lk l d=some v):Fr N ((d,v)::l) a:=by
 refine⟨h.size,h.defers,λt u b=>?_⟩;simp only[lk]at b;cases c:Nat.beq d t with
 |true=>
  rw[c]at b;have:d=t:=jL c;subst this;exact eP b▸h.at_ _ _ e
 |false=>rw[c]at b;exact h.at_ t u b
def Sub:L->L->Prop
 |[],_=>True
 |p::r,l=>lk l p.1=some p.2/\Sub r l
theorem Sub.lk{b l:L}(h:Sub b l){t:Nat}{v:eu}(a:lk b t=some v):lk l t=some v:=by
 induction b with
 |nil=>cases a
 |cons p r d=>
  simp only[W.lk]at a;cases c:Nat.beq p.1 t with
  |true=>
   rw[c]at a;have:p.1=t:=jL c;subst this;exact eP a▸h.1
  |false=>rw[c]at a;exact d h.2 a
def Fr.sub{N:Nat}{l b:L}{a:Act}(h:Fr N l a)(c:Sub b l):Fr N b a:=⟨h.size,h.defers,λt v d=>h.at_ t v (c.lk d)⟩
structure lY(P:eE)(s:Sem eu)(w:er)(k:eu->er->Prop):Prop where
 out:∃v w',s.run P w=.ok v w'/\k v w'
structure H5(P:eE)(s:Sem Unit)(w:er)(k:er->Prop):Prop where
 out:∃w',s.run P w=.ok () w'/\k w'
structure zw(P:eE)(s:Sem Next)(w:er)(k:eu->er->Prop):Prop where
 out:∃v w',s.run P w=.ok (.value v) w'/\k v w'
structure Rl(P:eE)(f:fG)(args:List eu)(w:er)(k:eu->er->Prop)(pan:List PanicEntry->er->Prop):Prop where
 go:∀xs w,Sem.run P (callFunc f xs) w=.ok (.enter f xs) w
 out:Calls P f args.toArray w λe w'=>match e with
  | .returned v=>k v w'
  | .panicked c=>pan c w'
  | .outgrown=>False
structure BU where
 off:Nat->Nat->Option Nat
structure oT(P:eE)(T:BU):Prop where
 off:∀S i d,T.off S i=some d->∀b o w,Sem.run P (Instr.fieldAt S (.pointer (some ⟨b,o,none⟩)) i) w=.ok (.pointer (some ⟨b,o+d,none⟩)) w
def TW(l:L):List (Nat×fI)->Option (List (Nat×eu))
 |[]=>some []
 |p::r=>match ev l p.2 with
  |some v=>match TW l r with
   |some a=>some ((p.1,v)::a)
   |none=>none
  |none=>none
def H6(P:eE)(T:BU)(ks:ew)(l:L)(w:er)(o:Oper)(k:oz)(s:fa)(pan:List PanicEntry->fa):Prop:=
 match o.op with
 | .move x=>match ev l x with
  |some v=>k v w
  |none=>False
 | .assign x=>match ev l x with
  |some v=>k v w
  |none=>False
 | .pick (.tmp c) x y=>match lk l c with
  |some (.bool b)=>match mem c ks with
   |true=>(match b with
    |true=>match ev l x with
     |some v=>k v w
     |none=>False
    |false=>match ev l y with
     |some v=>k v w
     |none=>False)
   |false=>(b=true->match ev l x with
    |some v=>k v w
    |none=>False)/\(b=false->match ev l y with
    |some v=>k v w
    |none=>False)
  |_=>False
 | .nilCheck x=>match ev l x with
  |some (.pointer (some p))=>k (.pointer (some p)) w
  |some (.func (.func f) a b)=>k (.func (.func f) a b) w
  |_=>False
 | .fieldAddr S x i=>match ev l x with
  |some (.pointer (some ⟨b,o,none⟩))=>(match T.off S i with
   |some d=>k (.pointer (some ⟨b,o+d,none⟩)) w
   |none=>False)
  |_=>False
 | .extract x i=>match ev l x with
  |some (.tuple h)=>(match nth h.toList i with
   |some v=>k v w
   |none=>False)
  |_=>False
 | .field S x i=>match ev l x with
  |some v=>lY P (Instr.field S v i) w k
  |none=>False
 | .load t x=>match ev l x with
  |some v=>lY P (Instr.loadAt t v) w k
  |none=>False
 | .store t x y=>match ev l x with
  |some v=>(match ev l y with
   |some u=>H5 P (Instr.storeAt t v u) w s
   |none=>False)
  |none=>False
 | .alloc t=>lY P (Instr.alloc t true (.tuple #[])) w k
 | .box t x=>match ev l x with
  |some v=>lY P (Instr.box t v) w k
  |none=>False
 | .build t e=>match TW l e.toList with
  |some h=>lY P (Instr.build t h.toArray) w k
  |none=>False
 | .buildSlice t n e=>match TW l e.toList with
  |some h=>lY P (Instr.buildSlice t n h.toArray) w k
  |none=>False
 | .binOp b t x y _=>match ev l x with
  |some v=>(match ev l y with
   |some u=>lY P (do eqGuard b t x y v u;binOp b t v u) w k
   |none=>False)
  |none=>False
 | .unOp u _ x=>match ev l x with
  |some v=>lY P (Op.unary u v) w k
  |none=>False
 | .makeFunc q first j=>match evs l first.toList with
  |some A=>(match evs l j.toList with
   |some B=>k (.func q A.toArray B.toArray) w
   |none=>False)
  |none=>False
 | .makeMap t r=>match TV l r with
  |some v=>lY P (Instr.makeMap t v) w k
  |none=>False
 | .makeSlice t x y=>match ev l x with
  |some v=>(match ev l y with
   |some u=>lY P (Instr.makeSlice t v u) w k
   |none=>False)
  |none=>False
 | .slice t x C D E=>match ev l x with
  |some v=>(match TV l C with
   |some a=>(match TV l D with
    |some b=>(match TV l E with
     |some c=>lY P (Instr.sliceAt t v a b c) w k
     |none=>False)
    |none=>False)
   |none=>False)
  |none=>False
 | .indexAddr t x y=>match ev l x with
  |some v=>(match ev l y with
   |some u=>lY P (Instr.indexAt t v u) w k
   |none=>False)
  |none=>False
 | .index t x y=>match ev l x with
  |some v=>(match ev l y with
   |some u=>lY P (Instr.index t v u) w k
   |none=>False)
  |none=>False
 | .lookup t x y c=>match ev l x with
  |some v=>(match ev l y with
   |some u=>lY P (Instr.lookup t v u c) w k
   |none=>False)
  |none=>False
 | .mapUpdate t m x y=>match ev l m with
  |some z=>(match ev l x with
   |some v=>(match ev l y with
    |some u=>H5 P (Instr.mapUpdate t z v u) w s
    |none=>False)
   |none=>False)
  |none=>False
 | .call c=>(match c.callee with
  | .value f=>(match ev l f with
   |some (.func (.func g) first j)=>(match evs l c.args.toList with
    |some h=>Rl P g (first.toList++(h++j.toList)) w k pan
    |none=>False)
   |_=>False)
  | .builtin b=>(match evs l c.args.toList with
   |some h=>zw P (builtin b c.argTypes o.type (c.args.map λ| .const _=>true|_=>false) h.toArray) w k
   |none=>False)
  | .invoke _ _=>False)
 | .convert t u x=>match ev l x with
  |some v=>lY P (convert t u v) w k
  |none=>False
 |_=>False
section
variable{P:eE}{T:BU}{ks:List Nat}{N:Nat}{l:L}{a:Act}{w:er}{o:Oper}{k:eu->er->Prop}{s:er->Prop}{pan:List PanicEntry->er->Prop}{next:Act->er->Prop}{Q:Exit->Act->er->Prop}
theorem zN{a:Type}:∀(l:List a) (i:Nat),nth l i=l[i]?
 |[],_=>rfl
 |_::_,0=>rfl
 |_::r,n+1=>(zN r n).trans (by simp)
theorem xB.SU(h:xB N l a):∀{d:List fI} {c:fD},evs l d=some c->d.map a.eval=c
 |[],c,b=>by simp only[evs,iz]at b;subst b;rfl
 |x::r,c,b=>by simp only[evs]at b;split at b;rename_i v e;split at b;rename_i g f;simp only[iz]at b;subst b;simp[h.eval e,xB.SU h f];cases b;cases b
theorem xB.SW(h:xB N l a):∀{d:List (Nat×fI)} {c:List (Nat×eu)},TW l d=some c->d.map (λp=>(p.1,a.eval p.2))=c
 |[],c,b=>by simp only[TW,iz]at b;subst b;rfl
 |x::r,c,b=>by simp only[TW]at b;split at b;rename_i v e;split at b;rename_i g f;simp only[iz]at b;subst b;simp[h.eval e,xB.SW h f];cases b;cases b
def xB.Kh(h:xB N l a){x:Option fI}{v:Option eu}(b:TV l x=some v):x.map a.eval=v:=by
 cases x with
 |none=>simp only[TV,iz]at b;subst b;rfl
 |some x=>
  simp only[TV]at b;split at b;rename_i u c;simp only[iz]at b;subst b;simp[h.eval c];cases b
def rA(h:xB N l a){b:Array fI}{c:fD}(d:evs l b.toList=some c):b.map a.eval=c.toArray:=by have:=h.SU d;apply DF;simpa using this
def CO(h:xB N l a){b:Array (Nat×fI)}{c:List (Nat×eu)}(d:TW l b.toList=some c):b.map (λp=>(p.1,a.eval p.2))=c.toArray:=by have:=h.SW d;apply DF;simpa using this
def Fc{s:Sem eu}(h:lY P s w k)(c:∀v b,k v b->next (a.put o.dst v) b):o.upon P a next Q ((do let v<-s;pure (Next.value v):Sem Next).run P w):=by obtain⟨v,b,d,e⟩:=h.out;simp only[Sem.run_bind,d,Result.andThen_ok,Sem.run_pure];exact c v b e
def W5{c:Sem Unit}(h:H5 P c w s)(d:∀b,s b->next (a.put o.dst undef) b):o.upon P a next Q ((do c;pure Next.skip:Sem Next).run P w):=by obtain⟨b,e,f⟩:=h.out;simp only[Sem.run_bind,e,Result.andThen_ok,Sem.run_pure];exact d b f
def kX(O:oT P T)(q:xB N l a)(h:H6 P T ks l w o k s pan)(A:∀v C,k v C->next (a.put o.dst v) C)(L:∀C,s C->next (a.put o.dst undef) C)(R:∀c C,pan c C->Q (.panic c) a C):o.wp P a w next Q:=by
 unfold Oper.wp;unfold H6 at h;split at h;case h_1 x p=>
  split at h;rename_i v j;simp only[execOp,p,q.eval j,Sem.run_pure];exact A _ _ h;exact h.elim
 case h_2 x p=>
  split at h;rename_i v j;simp only[execOp,p,q.eval j,Sem.run_pure];exact A _ _ h;exact h.elim
 case h_3 c x y p=>
  split at h;case h_1 b U=>
   have E:a.eval (.tmp c)=.bool b:=q.eval (x:=.tmp c) U;simp only[execOp,p,E,asBool,pure_bind,Sem.run_pure];split at h;cases b with
   |true=>
    simp only at h;split at h;rename_i v j;simp only[fF,q.eval j];exact A _ _ h;exact h.elim
   |false=>
    simp only at h;split at h;rename_i v j;simp only[jE,gy,q.eval j];exact A _ _ h;exact h.elim
   cases b with
   |true=>
    have h:=h.1 rfl;split at h;rename_i v j;simp only[fF,q.eval j];exact A _ _ h;exact h.elim
   |false=>
    have h:=h.2 rfl;split at h;rename_i v j;simp only[jE,gy,q.eval j];exact A _ _ h;exact h.elim
  case h_2=>exact h.elim
 case h_4 x p=>
  split at h;rename_i ad j;simp only[execOp,p,q.eval j,Sem.run_pure];exact A _ _ h;rename_i f u v j;simp only[execOp,p,q.eval j,Sem.run_pure];exact A _ _ h;exact h.elim
 case h_5 S x i p=>
  split at h;rename_i b G j;split at h;rename_i d V;simp only[execOp,p,q.eval j];exact Fc (k:=k) ⟨_,_,O.off S i d V b G w,h⟩ A;exact h.elim;exact h.elim
 case h_6 x i p=>
  split at h;rename_i F j;split at h;rename_i v M;rw[zN]at M;have H:F[i]? =some v:=by simpa using M
  simp only[execOp,p,q.eval j];exact Fc (k:=k) ⟨v,w,by simp only[Instr.extract,H,Sem.run_pure],h⟩ A;exact h.elim;exact h.elim
 case h_7 S x i p=>
  split at h;rename_i v j;simp only[execOp,p,q.eval j];exact Fc h A;exact h.elim
 case h_8 t x p=>
  split at h;rename_i v j;simp only[execOp,p,q.eval j];exact Fc h A;exact h.elim
 case h_9 t x y p=>
  split at h;rename_i v j;split at h;rename_i u B;simp only[execOp,p,q.eval j,q.eval B];exact W5 h L;exact h.elim;exact h.elim
 case h_10 t p=>simp only[execOp,p];exact Fc h A
 case h_11 t x p=>
  split at h;rename_i v j;simp only[execOp,p,q.eval j];exact Fc h A;exact h.elim
 case h_12 t D p=>
  split at h;rename_i v j;simp only[execOp,p,CO q j];exact Fc h A;exact h.elim
 case h_13 t n D p=>
  split at h;rename_i v j;simp only[execOp,p,CO q j];exact Fc h A;exact h.elim
 case h_14 b t x y r p=>
  split at h;rename_i v j;split at h;rename_i u B;simp only[execOp,p,q.eval j,q.eval B];exact Fc h A;exact h.elim;exact h.elim
 case h_15 u t x p=>
  split at h;rename_i v j;simp only[execOp,p,q.eval j];exact Fc h A;exact h.elim
 case h_16 fn first cap p=>
  split at h;rename_i xs W;split at h;rename_i ys X;simp only[execOp,p,rA q W,rA q X];exact Fc (k:=k) ⟨_,_,by simp only[Instr.makeFunc,Sem.run_pure],h⟩ A;exact h.elim;exact h.elim
 case h_17 t r p=>
  split at h;rename_i v j;simp only[execOp,p,q.Kh j];exact Fc h A;exact h.elim
 case h_18 t x y p=>
  split at h;rename_i v j;split at h;rename_i u B;simp only[execOp,p,q.eval j,q.eval B];exact Fc h A;exact h.elim;exact h.elim
 case h_19 t x lo hi mx p=>
  split at h;rename_i v j;split at h;rename_i u B;split at h;rename_i u2 I;split at h;rename_i u3 J;simp only[execOp,p,q.eval j,q.Kh B,q.Kh I,q.Kh J];exact Fc h A;exact h.elim;exact h.elim;exact h.elim;exact h.elim
 case h_20 t x y p=>
  split at h;rename_i v j;split at h;rename_i u B;simp only[execOp,p,q.eval j,q.eval B];exact Fc h A;exact h.elim;exact h.elim
 case h_21 t x y p=>
  split at h;rename_i v j;split at h;rename_i u B;simp only[execOp,p,q.eval j,q.eval B];exact Fc h A;exact h.elim;exact h.elim
 case h_22 t x y c p=>
  split at h;rename_i v j;split at h;rename_i u B;simp only[execOp,p,q.eval j,q.eval B];exact Fc h A;exact h.elim;exact h.elim
 case h_23 t m x y p=>
  split at h;rename_i z Y;split at h;rename_i v j;split at h;rename_i u B;simp only[execOp,p,q.eval Y,q.eval j,q.eval B];exact W5 h L;exact h.elim;exact h.elim;exact h.elim
 case h_24 c p=>
  split at h;rename_i f E;split at h;rename_i g first cap hf
  split at h;rename_i F j;have Z:first++F.toArray++cap=(first.toList++(F++cap.toList)).toArray:=by apply DF;simp
  simp only[execOp,p,resolve,E,Deferred.ofValue,q.eval hf,rA q j,pure_bind,invoke,Z,h.go,Oper.upon_enter];refine h.out.mono λe C K=>?_;cases e with
  |returned v=>exact A v C K
  |panicked ch=>exact R ch C K
  |outgrown=>exact K.elim
  exact h.elim;exact h.elim;rename_i b E;split at h;rename_i F j;obtain⟨v,C,hr,h'⟩:=h.out;simp only[execOp,p,resolve,E,rA q j,pure_bind,invoke];exact Eq.mpr (eX (o.upon P a next Q) hr) (A v C h');exact h.elim;exact h.elim
 case h_25 t u x p=>
  split at h;rename_i v j;simp only[execOp,p,q.eval j];exact Fc h A;exact h.elim
 case h_26=>exact h.elim
def CP:List Oper->Nat->Option Nat
 |[],_=>none
 |o::_,0=>o.dst
 |_::r,n+1=>CP r n
def VE(N:Nat)(d:Option Nat)(X:Prop):Prop:=match d with
 |none=>X
 |some d=>match Nat.blt d N with
  |true=>X
  |false=>False
def wd(r:Option Nat):Fence:={Fence.wide with round:=r}
def Ov{r:Option Nat}{n:Nat}{a:fZ}{w:er}{R:Ending->fa}(h:Calls P K a w R):CallsIn (wd r) n P K a w R:=callsIn_wide.2 h
structure Xu(P:eE)(lp:Nat)(args:List eu)(w:er)(k:eu->er->Prop)(pan:List PanicEntry->er->Prop):Prop where
 out:∃f tmps assign body,(Instr.yield lp args.toArray).run P w=.ok (.round lp f tmps assign body) w/\RoundIn Fence.wide 0 P lp f tmps assign body w λe w'=>match e with
  | .returned v=>k v w'
  | .panicked c=>pan c w'
  | .outgrown=>False
def Ee(P:eE)(T:BU)(ks:ew)(l:L)(w:er)(o:Oper)(k:oz)(s:fa)(pan:List PanicEntry->fa):Prop:=
 match o.op with
 | .call c=>(match c.callee with
  | .value f=>(match ev l f with
   |some (.func (.yield a) first _)=>(match evs l c.args.toList with
    |some b=>Xu P a (first.toList++b) w k pan
    |none=>False)
   |_=>H6 P T ks l w o k s pan)
  |_=>H6 P T ks l w o k s pan)
 |_=>H6 P T ks l w o k s pan
def AI{r:Option Nat}{n:Nat}{x:Result Next}(h:o.upon P a next Q x):o.uponIn (wd r) n P a next Q x:=by
 have b:((wd r).depth.isSome=true->1<=n):=λh=>by cases h
 cases x with
 |ok v i=>
  cases v with
  |value v=>exact h
  |skip=>exact h
  |defer d=>exact h
  |enter f g=>exact⟨b,(Ov h).mono λe w h=>by cases e<;>exact h⟩
  |row row g=>exact⟨b,λc j _=>let⟨v,i,r,s⟩:=h c j;⟨v,i,r,stepsIn_wide.2 s⟩⟩
  |_=>exact h.elim
 |halt e i=>
  cases e with
  |panic v=>exact h
  |_=>exact h.elim
def Gw(h:H6 P T ks l w o k s pan):∀c,o.op≠ .defer c:=λc e=>by unfold H6 at h;rw[e]at h;exact h
def AJ{r:Option Nat}(z:oT P T)(m:xB N l a)(h:Ee P T ks l w o k s pan)(q:∀v d,k v d->next (a.put o.dst v) d)(A:∀d,s d->next (a.put o.dst undef) d)(t:∀c d,pan c d->Q (.panic c) a d):o.wpIn (wd r) 0 P a w next Q:=by
 have plain:H6 P T ks l w o k s pan->o.wpIn (wd r) 0 P a w next Q:=λh=>by refine⟨λ_ _=>trivial,?_⟩;rw[Oper.semAt_eq _ _ _ (Gw h)];exact AI (kX z m h q A t)
 unfold Ee at h;split at h;rename_i c u;split at h;rename_i f B;split at h;rename_i x first cap hf
 split at h;rename_i y C;obtain⟨g,i,b,j,D,E⟩:=h.out;refine⟨λ_ _=>trivial,?_⟩;rw[Oper.semAt_eq _ _ _ (λc e=>by rw[u]at e;cases e)];have F:first++y.toArray=(first.toList++y).toArray:=by apply DF;simp
 have e:Sem.run P (execOp a.eval o) w=.ok (.round x g i b j) w:=by simp only[execOp,u,resolve,B,Deferred.ofValue,m.eval hf,rA m C,pure_bind,invoke,F,D]
 rw[e]
 have n:RoundIn (wd r) (0-1) P x g i b j w λe d=>match e with
  | .returned v=>k v d
  | .panicked c=>pan c d
  | .outgrown=>False:=E
 refine⟨(λh=>by cases h),n.mono ?_⟩;intro e d p;cases e with
 |returned v=>exact q _ _ p
 |panicked c=>exact t _ _ p
 |outgrown=>exact p.elim
 exact h.elim;exact plain h;exact plain h;exact plain h
structure rI(ds:List Deferred)(N:Nat)(l:L)(a:Act):Prop where
 b:xB N l a
 d:a.defers=ds
def Fr.W6{N:Nat}{l:L}{a:Act}(h:Fr N l a):rI [] N l a:=⟨h.b,h.defers⟩
def rI.fr{N:Nat}{l:L}{a:Act}(h:rI [] N l a):Fr N l a:=⟨h.b.size,h.d,h.b.at_⟩
theorem xB.put{N:Nat}{l:L}{a:Act}(h:xB N l a)(d:Option Nat)(v:eu)(b:∀t,d=some t->t<N):xB N (ins N d v l) (a.put d v):=by have c:Fr N l ⟨a.tmps,[]⟩:=⟨h.size,rfl,h.at_⟩;have:=c.put d v b;cases d<;>exact⟨this.size,this.at_⟩
theorem xB.xT{N:Nat}{l:L}{a:Act}(h:xB N l a){d:Nat}{v:eu}(b:lk l d=some v):xB N ((d,v)::l) a:=by have c:Fr N l ⟨a.tmps,[]⟩:=⟨h.size,rfl,h.at_⟩;have:=c.xT b;exact⟨this.size,this.at_⟩
theorem rI.put{c:List Deferred}{N:Nat}{l:L}{a:Act}(h:rI c N l a)(d:Option Nat)(v:eu)(e:∀t,d=some t->t<N):rI c N (ins N d v l) (a.put d v):=⟨h.b.put d v e,(wR _ _ _).trans h.d⟩
theorem rI.xT{c:List Deferred}{N:Nat}{l:L}{a:Act}(h:rI c N l a){d:Nat}{v:eu}(e:lk l d=some v):rI c N ((d,v)::l) a:=⟨h.b.xT e,h.d⟩
def rI.sub{c:List Deferred}{N:Nat}{l e:L}{a:Act}(h:rI c N l a)(f:Sub e l):rI c N e a:=⟨⟨h.b.size,λt v g=>h.b.at_ t v (f.lk g)⟩,h.d⟩
def pf(P:eE)(T:BU)(N:Nat)(K:L->fa)(pan:L->List PanicEntry->fa)(a:List Oper):List Oper->ew->L->fa
 |[],_,l,w=>K l w
 |o::r,ks,l,w=>VE N o.dst (match o.guard with
  |none=>Ee P T ks l w o (λv c=>pf P T N K pan a r ks (ins N o.dst v l) c) (λc=>pf P T N K pan a r ks (ins N o.dst undef l) c) (pan l)
  |some (g,e)=>match CP a g with
   |none=>False
   |some d=>match lk l d with
    |some (.bool b)=>(match mem d ks with
     |true=>(match b,e with
      |true,true=>Ee P T ks l w o (λv c=>pf P T N K pan a r ks (ins N o.dst v l) c) (λc=>pf P T N K pan a r ks (ins N o.dst undef l) c) (pan l)
      |false,false=>Ee P T ks l w o (λv c=>pf P T N K pan a r ks (ins N o.dst v l) c) (λc=>pf P T N K pan a r ks (ins N o.dst undef l) c) (pan l)
      |_,_=>pf P T N K pan a r ks (ins N o.dst undef l) w)
     |false=>(b=true->match e with
      |true=>Ee P T (d::ks) ((d,.bool true)::l) w o (λv c=>pf P T N K pan a r (d::ks) (ins N o.dst v ((d,.bool true)::l)) c) (λc=>pf P T N K pan a r (d::ks) (ins N o.dst undef ((d,.bool true)::l)) c) (pan ((d,.bool true)::l))
      |false=>pf P T N K pan a r (d::ks) (ins N o.dst undef ((d,.bool true)::l)) w)/\
      (b=false->match e with
       |false=>Ee P T (d::ks) ((d,.bool false)::l) w o (λv c=>pf P T N K pan a r (d::ks) (ins N o.dst v ((d,.bool false)::l)) c) (λc=>pf P T N K pan a r (d::ks) (ins N o.dst undef ((d,.bool false)::l)) c) (pan ((d,.bool false)::l))
       |true=>pf P T N K pan a r (d::ks) (ins N o.dst undef ((d,.bool false)::l)) w))
    |some (.tuple _)=>pf P T N K pan a r ks (ins N o.dst undef l) w
    |_=>False)
def Ef{X:Prop}{d:Option Nat}(h:VE N d X):X/\∀t,d=some t->t<N:=by
 cases d with
 |none=>exact⟨h,λ_ e=>by cases e⟩
 |some d=>
  simp only[VE]at h;split at h;rename_i a;exact⟨h,λt e=>by cases e;simpa[Nat.blt_eq]using a⟩;exact h.elim
theorem pt:∀(l:List Oper) (g:Nat),CP l g=(l[g]?).bind (·.dst)
 |[],_=>rfl
 |_::_,0=>rfl
 |_::r,n+1=>(pt r n).trans (by simp)
def tV{b:Array Oper}{a:Act}{g d:Nat}{e:fZ}(f:(b[g]?).bind (·.dst)=some d)(c:a.eval (.tmp d)=.tuple e):yielded b a.tmps g=none:=by
 rw[mR]at c;unfold yielded;rw[f];simp only[tv];cases h:a.tmps[d]? with
 |none=>rfl
 |some x=>rw[h]at c;simp at c;subst c;rfl
theorem pR{r0:Option Nat}{ds:List Deferred}(B:oT P T){K:L->fa}{pan:L->List PanicEntry->fa}{e:Array Oper}(C:∀l a w,rI ds N l a->K l w->Q .normal a w)(D:∀l c a w,rI ds N l a->pan l c w->Q (.panic c) a w):∀(r:List Oper) (i:Nat) (ks:ew) (l:L) (a:Act) (w:er),(∀j,r[j]? =e[i+j]?)->rI ds N l a->pf P T N K pan e.toList r ks l w->wpOpsIn (wd r0) 0 P e Q (List.range' i r.length) a w
 |[],i,ks,l,a,w,_,f,h=>C l a w f h
 |o::r,i,ks,l,a,w,H,f,h=>by
  have I:e[i]? =some o:=(H 0).symm;have t:∀j,r[j]? =e[i+1+j]? :=λj=>by have:=H (j+1);simpa[sR,Nat.add_comm 1 j]using this
  obtain⟨h,F⟩:=Ef h
  have p:∀ks l,rI ds N l a->Region.wanted o (yielded e a.tmps)=true->Ee P T ks l w o (λv s=>pf P T N K pan e.toList r ks (ins N o.dst v l) s) (λs=>pf P T N K pan e.toList r ks (ins N o.dst undef l) s) (pan l)->
   wpOpsIn (wd r0) 0 P e Q (List.range' i (o::r).length) a w:=by
   intro ks l f n h;rw[gf,JS];simp only[wpOpsIn,I,n,fF];refine(AJ B f.b h (λv s u=>?_) (λs u=>?_) λc s u=>D l c a s f u);exact pR B C D r (i+1) ks _ _ s t (f.put o.dst v F) u;exact pR B C D r (i+1) ks _ _ s t (f.put o.dst undef F) u
  have skip:∀ks l,rI ds N l a->Region.wanted o (yielded e a.tmps)=false->pf P T N K pan e.toList r ks (ins N o.dst undef l) w->wpOpsIn (wd r0) 0 P e Q (List.range' i (o::r).length) a w:=by intro ks l f n h;rw[gf,JS];simp only[wpOpsIn,I,n,jE,gy];refine⟨λ_ _=>trivial,?_⟩;exact pR B C D r (i+1) ks _ _ w t (f.put o.dst undef F) h
  split at h;rename_i E;exact p ks l f (by simp[Region.wanted,E]) h;rename_i g m E;split at h;exact h.elim;rename_i d y;rw[pt]at y;have z:(e[g]?).bind (·.dst)=some d:=by simpa using y
  split at h;rename_i b A;have k:a.eval (.tmp d)=.bool b:=f.b.at_ d _ A;have G:yielded e a.tmps g=some b:=by
   rw[mR]at k;unfold yielded;rw[z];simp only[tv];cases J:a.tmps[d]? with
   |none=>rw[J]at k;simp[undef]at k
   |some x=>rw[J]at k;simp at k;subst k;rfl
  have n:Region.wanted o (yielded e a.tmps)=(b==m):=by simp[Region.wanted,E,G]
  split at h;cases b<;>cases m<;>simp only at h;exact p ks l f (by rw[n];rfl) h;exact skip ks l f (by rw[n];rfl) h;exact skip ks l f (by rw[n];rfl) h;exact p ks l f (by rw[n];rfl) h;cases b with
  |true=>
   have h:=h.1 rfl;have q:=f.xT A;cases m with
   |true=>simp only at h;exact p (d::ks) ((d,.bool true)::l) q (by rw[n];rfl) h
   |false=>exact skip (d::ks) ((d,.bool true)::l) q (by rw[n];rfl) h
  |false=>
   have h:=h.2 rfl;have q:=f.xT A;cases m with
   |true=>exact skip (d::ks) ((d,.bool false)::l) q (by rw[n];rfl) h
   |false=>simp only at h;exact p (d::ks) ((d,.bool false)::l) q (by rw[n];rfl) h
  rename_i M A;have k:a.eval (.tmp d)=.tuple M:=f.b.at_ d _ A;have G:yielded e a.tmps g=none:=tV z k;exact skip ks l f (by simp[Region.wanted,E,G]) h;exact h.elim
end
abbrev QW:=Exit->L->er->Prop
def lift(N:Nat)(Q:QW):Exit->Act->fa:=λe a w=>∃l,Fr N l a/\Q e l w
def Ow(K:L->fa)(Q:QW):QW
 | .normal,l,w=>K l w
 | .exit i,l,w=>Q (.exit i) l w
 | .goto i,l,w=>Q (.goto i) l w
 | .ret,l,w=>Q .ret l w
 | .panic c,l,w=>Q (.panic c) l w
 | .outgrown,l,w=>Q .outgrown l w
def lE(id:Nat)(Q:QW):QW
 | .exit i,l,w=>match Nat.beq i id with
  |true=>Q .normal l w
  |false=>Q (.exit i) l w
 | .normal,l,w=>Q .normal l w
 | .goto i,l,w=>Q (.goto i) l w
 | .ret,l,w=>Q .ret l w
 | .panic c,l,w=>Q (.panic c) l w
 | .outgrown,l,w=>Q .outgrown l w
structure iq(P:eE)(N:Nat)(c:Code)(l:L)(w:er)(Q:QW):Prop where
 out:∀a,Fr N l a->c.wp P (lift N Q) a w
def WC(P:eE)(T:BU)(N:Nat):Code->QW->L->fa
 | .skip,Q,l,w=>Q .normal l w
 | .label _,Q,l,w=>Q .normal l w
 | .ret,Q,l,w=>Q .ret l w
 | .exit i,Q,l,w=>Q (.exit i) l w
 | .goto i,Q,l,w=>Q (.goto i) l w
 | .region i a d,Q,l,w=>(match d with
  |false=>pf P T N (Q .normal) (λl c w=>Q (.panic c) l w) a.toList a.toList [] l w
  |true=>iq P N (.region i a true) l w Q)
 | .seq x y,Q,l,w=>WC P T N x (Ow (WC P T N y Q) Q) l w
 | .cond c x y,Q,l,w=>(match ev l c with
  |some (.bool b)=>(b=true->WC P T N x Q l w)/\(b=false->WC P T N y Q l w)
  |_=>False)
 | .block i c,Q,l,w=>(match c with
  | .loop h=>iq P N (.block i (.loop h)) l w Q
  | .rangeFunc f e g b=>iq P N (.block i (.rangeFunc f e g b)) l w Q
  |_=>WC P T N c (lE i Q) l w)
 | .loop c,Q,l,w=>iq P N (.loop c) l w Q
 | .scope c,Q,l,w=>iq P N (.scope c) l w Q
 | .rangeFunc f e g b,Q,l,w=>iq P N (.rangeFunc f e g b) l w Q
 | .refuse _,_,_,_=>False
theorem kC{P:eE}{T:BU}{N:Nat}(p:oT P T):∀(c:Code) (Q:QW) (l:L) (a:Act) (w:er),Fr N l a->WC P T N c Q l w->c.wp P (lift N Q) a w
 | .skip,Q,l,a,w,g,h=>wp_skip ⟨l,g,h⟩
 | .label _,Q,l,a,w,g,h=>wp_label ⟨l,g,h⟩
 | .ret,Q,l,a,w,g,h=>wp_ret ⟨l,g,h⟩
 | .exit i,Q,l,a,w,g,h=>wp_exit ⟨l,g,h⟩
 | .goto i,Q,l,a,w,g,h=>wp_goto ⟨l,g,h⟩
 | .region i r d,Q,l,a,w,g,h=>by
  cases d with
  |true=>exact iq.out h a g
  |false=>
   refine wpIn_wide.1 (wpIn_region (n:=0) ?_);have:=pR (r0:=none) (ds:=[]) p (Q:=lift N Q) (λl a w g s=>⟨l,g.fr,s⟩) (λl c a w g s=>⟨l,g.fr,s⟩) r.toList 0 [] l a w (λj=>by simp) g.W6 h;rw[Array.length_toList,<-List.range_eq_range']at this;exact this
 | .seq x y,Q,l,a,w,g,h=>by
  refine mK (mY (kC p x _ l a w g h) ?_);rintro e v z ⟨q,k,m⟩;cases e with
  |normal=>exact kC p y Q q v z k m
  |_=>exact⟨q,k,m⟩
 | .cond c x y,Q,l,a,w,g,h=>by simp only[WC]at h;split at h;rename_i b t;refine wp_cond_split (g.eval t) (λA=>?_) λB=>?_;exact kC p x Q l a w g (h.1 A);exact kC p y Q l a w g (h.2 B);exact h.elim
 | .block i c,Q,l,a,w,g,h=>by
  have u:WC P T N c (lE i Q) l w->(Code.block i c).wp P (lift N Q) a w:=λh=>by
   refine wp_block (mY (kC p c _ l a w g h) ?_);rintro e v z ⟨q,k,m⟩;cases e with
   |exit j=>
    simp only[Exit.inBlock];simp only[lE]at m;by_cases o:j=i;subst o;rw[eC rfl];rw[yE]at m;exact⟨q,k,m⟩;rw[ez o];have:Nat.beq j i=false:=by
     cases t:Nat.beq j i with
     |false=>rfl
     |true=>exact absurd (jL t) o
    rw[this]at m;exact⟨q,k,m⟩
   |_=>exact⟨q,k,m⟩
  cases c with
  |loop E=>exact iq.out h a g
  |rangeFunc f C D b=>exact iq.out h a g
  |_=>exact u h
 | .loop c,Q,l,a,w,g,h=>iq.out h a g
 | .scope c,Q,l,a,w,g,h=>iq.out h a g
 | .rangeFunc f C D b,Q,l,a,w,g,h=>iq.out h a g
 | .refuse _,_,_,_,_,_,h=>h.elim
def flat:Code->Bool
 | .region _ _ d=>!d
 | .seq x y=>flat x&&flat y
 | .cond _ x y=>flat x&&flat y
 | .block _ c=>flat c
 | .loop _=>false
 | .scope _=>false
 | .rangeFunc _ _ _ _=>false
 |_=>true
def Ox(b:List Deferred)(N:Nat)(Q:QW):Exit->Act->fa:=λe a w=>∃l,rI b N l a/\Q e l w
theorem nt{P:eE}{T:BU}{N:Nat}{r:Option Nat}{ds:List Deferred}(p:oT P T):∀(c:Code) (Q:QW) (l:L) (a:Act) (w:er),flat c=true->rI ds N l a->WC P T N c Q l w->c.wpIn (wd r) 0 P (Ox ds N Q) a w
 | .skip,Q,l,a,w,_,g,h=>wpIn_skip ⟨l,g,h⟩
 | .label _,Q,l,a,w,_,g,h=>wpIn_label ⟨l,g,h⟩
 | .ret,Q,l,a,w,_,g,h=>wpIn_ret ⟨l,g,h⟩
 | .exit i,Q,l,a,w,_,g,h=>wpIn_exit ⟨l,g,h⟩
 | .goto i,Q,l,a,w,_,g,h=>wpIn_goto ⟨l,g,h⟩
 | .region i s d,Q,l,a,w,k,g,h=>by
  cases d with
  |true=>cases k
  |false=>
   refine wpIn_region ?_;have:=pR (r0:=r) (ds:=ds) p (Q:=Ox ds N Q) (λl a w g t=>⟨l,g,t⟩) (λl c a w g t=>⟨l,g,t⟩) s.toList 0 [] l a w (λj=>by simp) g h;rw[Array.length_toList,<-List.range_eq_range']at this;exact this
 | .seq x y,Q,l,a,w,k,g,h=>by
  simp only[flat,fE]at k;refine wpIn_seq (wpIn_mono (nt p x _ l a w k.1 g h) ?_);rintro e z A ⟨q,m,n⟩;cases e with
  |normal=>exact nt p y Q q z A k.2 m n
  |_=>exact⟨q,m,n⟩
 | .cond c x y,Q,l,a,w,k,g,h=>by simp only[flat,fE]at k;simp only[WC]at h;split at h;rename_i b u;refine wpIn_cond_split (g.b.eval u) (λB=>?_) λC=>?_;exact nt p x Q l a w k.1 g (h.1 B);exact nt p y Q l a w k.2 g (h.2 C);exact h.elim
 | .block i c,Q,l,a,w,k,g,h=>by
  have v:flat c=true->WC P T N c (lE i Q) l w->(Code.block i c).wpIn (wd r) 0 P (Ox ds N Q) a w:=λk h=>by
   refine wpIn_block (wpIn_mono (nt p c _ l a w k g h) ?_);rintro e z A ⟨q,m,n⟩;cases e with
   |exit j=>
    simp only[Exit.inBlock];simp only[lE]at n;by_cases o:j=i;subst o;rw[eC rfl];rw[yE]at n;exact⟨q,m,n⟩;rw[ez o];have:Nat.beq j i=false:=by
     cases u:Nat.beq j i with
     |false=>rfl
     |true=>exact absurd (jL u) o
    rw[this]at n;exact⟨q,m,n⟩
   |_=>exact⟨q,m,n⟩
  cases c with
  |loop F=>cases k
  |rangeFunc f D E b=>cases k
  |_=>exact v k h
 | .loop c,Q,l,a,w,k,g,h=>by cases k
 | .scope c,Q,l,a,w,k,g,h=>by cases k
 | .rangeFunc f D E b,Q,l,a,w,k,g,h=>by cases k
 | .refuse _,_,_,_,_,_,_,h=>h.elim
def Gx(P:eE):List ResultVar->L->er->(fD->Prop)->Prop
 |[],_,_,k=>k []
 | .tmp t::r,l,w,k=>match lk l t with
  |some v=>Gx P r l w λa=>k (v::a)
  |none=>False
 | .cell t b::r,l,w,k=>match lk l t with
  |some (.pointer (some c))=>∃v,Sem.run P (loadVar b c) w=.ok v w/\Gx P r l w λa=>k (v::a)
  |_=>False
def one(vs:fD):eu:=match vs with
 |[v]=>v
 |vs=>.tuple vs.toArray
def QR(P:eE)(b:List ResultVar)(R:Ending->fa):QW
 | .normal,l,w=>Gx P b l w λa=>R (.returned (one a)) w
 | .ret,l,w=>Gx P b l w λa=>R (.returned (one a)) w
 | .panic c,_,w=>R (.panicked c) w
 |_,_,_=>False
def LR(a:fZ):ResultVar->Sem eu
 | .tmp t=>pure (a.getD t undef)
 | .cell x t=>do loadVar t (<-asAddr (a.getD x undef))
theorem AK{P:eE}{N:Nat}{a:Act}{w:er}:∀(m:List ResultVar) (l:L) (k:fD->Prop),Fr N l a->Gx P m l w k->∃c,Sem.run P (m.mapM (LR a.tmps)) w=.ok c w/\k c
 |[],l,k,d,h=>⟨[],by simp[Sem.run_pure],h⟩
 | .tmp t::r,l,k,d,h=>by simp only[Gx]at h;split at h;rename_i v e;obtain⟨c,f,g⟩:=AK r l _ d h;have b:LR a.tmps (.tmp t)=pure v:=eX pure (d.at_ t v e);refine⟨v::c,?_,g⟩;rw[List.mapM_cons,b];simp only[Sem.run_bind,Sem.run_pure,Result.andThen_ok,f];exact h.elim
 | .cell t i::r,l,k,d,h=>by
  simp only[Gx]at h;split at h;rename_i n e;obtain⟨v,o,h⟩:=h;obtain⟨c,f,g⟩:=AK r l _ d h;have b:a.tmps.getD t jg=.pointer (some n):=d.at_ t _ e;have j:LR a.tmps (.cell t i)=loadVar i n:=by show(do loadVar i (<-asAddr (a.tmps.getD t jg)))=_;rw[b];rfl
  refine⟨v::c,?_,g⟩;rw[List.mapM_cons,j];simp only[Sem.run_bind,o,Result.andThen_ok,f,Sem.run_pure];exact h.elim
def AL(b:Func)(c:fZ):results b c=(do let a<-b.results.mapM (LR c);pure (if h:a.size=1 then a[0]else .tuple a)):=by unfold results;congr 1
def SY{P:eE}{k:Func}{c:Code}{b:fD}{w:er}{R:Ending->fa}(N:Nat)(h:iq P N c (b.zipIdx.map λp=>(p.2,p.1)) w (QR P k.results.toList R))(a:Act)(z:a.tmps.size=N)(d:a.defers=[])(C:∀i v,b.toArray[i]? =some v->a.eval (.tmp i)=v):c.wp P (bodyPost P k R) a w:=by
 have D:Fr N (b.zipIdx.map λp=>(p.2,p.1)) a:=by
  refine⟨z,d,λt v E=>?_⟩;refine C t v ?_
  have s:∀(m:fD) (n:Nat),lk ((m.zipIdx n).map λp=>(p.2,p.1)) t=some v->n<=t/\m[t-n]? =some v:=by
   intro m;induction m with
   |nil=>intro n h;cases h
   |cons x r F=>
    intro n h;simp only[List.zipIdx_cons,lK,lk]at h;cases o:Nat.beq n t with
    |true=>
     rw[o]at h;have:n=t:=jL o;subst this;exact⟨eF _,by simpa using h⟩
    |false=>
     rw[o]at h;have G:n≠t:=xF o;obtain⟨B,u⟩:=F (n+1) h;refine⟨by omega,?_⟩;have:t-n=(t-(n+1))+1:=by omega
     rw[this];simpa using u
  have:=(s b 0 E).2;simpa using this
 refine mY (h.out a D) ?_;rintro e A g ⟨H,j,f⟩
 have l:Gx P k.results.toList H g (λq=>R (.returned (one q)) g)->A.defers=[]/\∃v,(results k A.tmps).run P g=.ok v g/\R (.returned v) g:=λf=>by
  obtain⟨q,B,u⟩:=AK _ _ _ j f;refine⟨j.defers,_,?_,u⟩;rw[AL,Sem.run_bind];have I:Sem.run P (k.results.mapM (LR A.tmps)) g=.ok q.toArray g:=by rw[JR,Sem.run_map,B];rfl
  rw[I];simp only[Result.andThen_ok,Sem.run_pure];congr 1;obtain _|⟨x,_|⟨y,r⟩⟩:=q;rfl;rfl;simp[one]
 cases e with
 |normal=>exact l f
 |ret=>exact l f
 |panic c=>exact⟨j.defers,f⟩
 |exit i=>exact f.elim
 |goto i=>exact f.elim
 |outgrown=>exact f.elim
def SZ{P:eE}{a:Func}{c:Code}{args:fD}{w:er}{R:Ending->fa}(N:Nat)
 (d:P.funcs[K]? =some a)(e:a.body=some c)(f:a.ntmps=N)(b:args.length<=N)(h:iq P N c (args.zipIdx.map λp=>(p.2,p.1)) w (QR P a.results.toList R)):Calls P K args.toArray w R:=
 Oq N d e f (SY N h) (by simpa using b)
def U6{P:eE}{T:BU}(e:oT P T){b:Func}{c:Code}{args:fD}{w:er}{R:Ending->fa}(N:Nat)
 (f:P.funcs[K]? =some b)(g:b.body=some c)(i:b.ntmps=N)(d:args.length<=N)(h:WC P T N c (QR P b.results.toList R) (args.zipIdx.map λp=>(p.2,p.1)) w):Calls P K args.toArray w R:=
 SZ N f g i d ⟨λa j=>kC e c _ _ a w j h⟩
theorem iq.seq{P:eE}{T:BU}(g:oT P T){N:Nat}{x y:Code}{l:L}{w:er}{Q:QW}(h:WC P T N x (Ow (λc d=>iq P N y c d Q) Q) l w):iq P N (.seq x y) l w Q:=⟨λa i=>by
 refine mK (mY (kC g x _ l a w i h) ?_);rintro e j d ⟨c,b,f⟩;cases e with
 |normal=>exact f.out j b
 |_=>exact⟨c,b,f⟩⟩
def iq.of{P:eE}{T:BU}(b:oT P T){N:Nat}{c:Code}{l:L}{w:er}{Q:QW}(h:WC P T N c Q l w):iq P N c l w Q:=⟨λa d=>kC b c _ l a w d h⟩
def IW(ops:Array Oper)(o:Oper):ew:=o.after.toList.filterMap λe=>if Region.binds .any e then(ops[e.on]?).bind (·.dst)else none
def kg(ops:Array Oper)(o:Oper)(a:Act):eu:=.tuple ((IW ops o).map λt=>a.eval (.tmp t)).toArray
def Eg{ops:Array Oper}{o:Oper}{a b:Act}(h:∀t∈IW ops o,a.eval (.tmp t)=b.eval (.tmp t)):kg ops o a=kg ops o b:=by unfold kg;rw[List.map_congr_left h]
def LU{ops:Array Oper}{o:Oper}{a b:Act}(h:kg ops o a=kg ops o b){t:Nat}(c:t∈IW ops o):a.eval (.tmp t)=b.eval (.tmp t):=by
 unfold kg at h;have d:((IW ops o).map λt=>a.eval (.tmp t))=(IW ops o).map λt=>b.eval (.tmp t):=by injection h with h;simpa using eX Array.toList h
 exact List.map_inj_left.1 d t c
def oB(ops:Array Oper)(N m:Nat):Bool:=
 (List.range ops.size).all (λi=>match ops[i]? with
  |some o=>(o.after.all λe=>decide (e.on<i)||!Region.binds .any e)&&(match o.dst with|some d=>decide (d<N)&&(List.range ops.size).all (λj=>decide (j=i)||match ops[j]? with|some a=>a.dst !=some d|none=>true)|none=>true)
  |none=>true)&&((decide (m=ops.size)||(List.range m).all λj=>(List.range (m+1)).any λk=>decide (j<k)&&waits ops k j)&&(decide (m=ops.size)||decide (m+1=ops.size)))
section
variable{P:eE}{ops:Array Oper}{Q:Exit->Act->er->Prop}{a0:Act}{w0:er}{N m sp:Nat}{zu:Bool->Nat->eu->er->Prop}{E E':er->er->Prop}{Rch:Bool->er->Prop}
structure Eh(Rch:Bool->er->Prop)(sp:Nat)(ops:Array Oper)(a0:Act)(N m:Nat)(zu:Bool->Nat->eu->er->Prop)(L:Array Bool)(a:Act)(w:er):Prop where
 size:a.tmps.size=N
 defers:a.defers=a0.defers
 keep:∀j,wrote ops j=false->a.eval (.tmp j)=a0.eval (.tmp j)
 val:∀i o d,i<m->L.getD i false=true->ops[i]? =some o->o.dst=some d->zu (L.getD sp false) i (a.eval (.tmp d)) w
 ext:Rch (L.getD sp false) w
 tail:∀i,m<=i->L.getD i false=false
 closed:∀i j,L.getD i false=true->waits ops i j=true->L.getD j false=true
 valn:∀i o,i<m->L.getD i false=true->ops[i]? =some o->o.dst=none->zu (L.getD sp false) i (kg ops o a) w
 fresh:∀j,(∀k o,L.getD k false=true->ops[k]? =some o->o.dst≠some j)->a.eval (.tmp j)=a0.eval (.tmp j)
def Before(ops:Array Oper)(i j:Nat):Prop:=∀k o,ops[k]? =some o->o.dst=some j->waits ops k i=true
def LV{ops:Array Oper}{i j:Nat}(h:wrote ops j=false):Before ops i j:=λk o a b=>by have:wrote ops j=true:=vE.2 ⟨o,oQ a,by rw[b];simp⟩;rw[this]at h;cases h
def S0(ops:Array Oper)(k i:Nat):Prop:=waits ops k i=true\/∃j,waits ops k j=true/\waits ops j i=true
def pu(E E':er->fa)(Rch:Bool->fa)(sp:Nat)(P:eE)(ops:Array Oper)(Q:Exit->Act->fa)(a0:Act)(N:Nat)(zu:Bool->Nat->oz)(i:Nat)(o:Oper):Prop:=
 ∀b a w,(i=sp\/S0 ops sp i->b=false)->a.tmps.size=N->a.defers=a0.defers->(∀j,Before ops i j->a.eval (.tmp j)=a0.eval (.tmp j))->
  (∀j d,(o.after.any λe=>e.on==j&&Region.binds .any e)=true->((ops[j]?).bind (·.dst))=some d->zu b j (a.eval (.tmp d)) w)->Rch b w->
  wpOp P ops Q i (λf c=>∃v,f=a.put o.dst v/\(if i=sp then E' w c else E w c)/\zu (b||decide (i=sp)) i v c/\(o.dst=none->v=kg ops o a)) a w
def tW(Rch:Bool->fa)(P:eE)(ops:Array Oper)(Q:Exit->Act->fa)(a0:Act)(N m:Nat)(zu:Bool->Nat->oz):Prop:=
 ∀b a w,a.tmps.size=N->a.defers=a0.defers->(∀j,wrote ops j=false->a.eval (.tmp j)=a0.eval (.tmp j))->(∀i d,i<m->((ops[i]?).bind (·.dst))=some d->zu b i (a.eval (.tmp d)) w)->(∀i o,i<m->ops[i]? =some o->o.dst=none->zu b i (kg ops o a) w)->Rch b w->
  (m=ops.size->Q .normal a w)/\(m+1=ops.size->wpOp P ops Q m (λc e=>Q .normal c e) a w)
structure S3(E E':er->er->Prop)(Rch:Bool->er->Prop)(zu:Bool->Nat->eu->er->Prop):Prop where
 v:∀b i v w w',zu b i v w->E w w'->zu b i v w'
 x:∀i v w w',zu false i v w->E' w w'->zu true i v w'
 r:∀b w w',Rch b w->E w w'->Rch b w'
 rx:∀w w',Rch false w->E' w w'->Rch true w'
def Eh.next(U:oB ops N m=true)(M:S3 E E' Rch zu){L:Array Bool}{a:Act}{w:er}(f:Eh Rch sp ops a0 N m zu L a w)(hL:L.size=ops.size){i:Nat}{o:Oper}(y:ops[i]? =some o)(hm:i<m)
 {v:eu}{F:er}(q:if i=sp then E' w F else E w F)(V:zu (L.getD sp false||decide (i=sp)) i v F)(O:o.dst=none->v=kg ops o a)(z:L.getD i false=false)(A:∀j,waits ops i j=true->L.getD j false=true):Eh Rch sp ops a0 N m zu (L.setIfInBounds i true) (a.put o.dst v) F:=by
 have G:(L.setIfInBounds i true).getD sp false=(L.getD sp false||decide (i=sp)):=by rw[mw _ _ _ (by have:=(ik.1 y).1;omega)];by_cases e:i=sp;simp[e];simp[e]
 have last:∀k u,zu (L.getD sp false) k u w->zu (L.getD sp false||decide (i=sp)) k u F:=λk u h=>by by_cases e:i=sp;subst e;rw[eC rfl]at q;rw[z]at h⊢;simpa using M.x _ _ _ _ h q;rw[ez e]at q;simpa[e]using M.v _ _ _ _ _ h q
 have W:i<ops.size:=(ik.1 y).1;simp only[oB,fE]at U;have g:=mO.1 U.1 i (fT.2 W);rw[y]at g;simp only[fE]at g;refine⟨by rw[o9,f.size],by rw[wR,f.defers],λj p=>?_,λk B d l c b s=>?_,?_,λk l=>?_,λk j l p=>?_,λk B l c b s=>?_,λj p=>?_⟩;rw[tT,f.keep j p];intro e;have:wrote ops j=true:=vE.2 ⟨o,oQ y,by rw[e];simp⟩;rw[this]at p;cases p;rw[G];rw[mw _ _ _ (by omega)]at c;by_cases e:i=k;subst e;rw[y]at b;obtain rfl:=eP b;rw[s,xR];exact V;have n:=g.2;rw[s]at n;simp only[fE,lU]at n;rw[f.size];exact n.1;rw[ez e]at c;have P:k<ops.size:=(ik.1 b).1;rw[tT];exact last _ _ (f.val k B d l c b s);intro Q;have n:=g.2;rw[Q]at n;simp only[fE,lU]at n;have H:=mO.1 n.2 k (fT.2 P);rw[b]at H;simp[s,jb e]at H;rw[G];have I:=f.ext;by_cases e:i=sp;subst e;rw[eC rfl]at q;rw[z]at I⊢;simpa using M.rx _ _ I q;rw[ez e]at q;simpa[e]using M.r _ _ _ I q;rw[mw _ _ _ (by omega),ez (by omega)];exact f.tail k l;rw[mw _ _ _ (by omega)]at l⊢;split;rfl;by_cases e:i=k;subst e;exact A j p;rw[ez e]at l;exact f.closed k j l p;rw[G];rw[mw _ _ _ (by omega)]at c;by_cases e:i=k;subst e;rw[y]at b;obtain rfl:=eP b;have X:kg ops o (a.put o.dst v)=kg ops o a:=by rw[s];rfl
 rw[X,<-O s];exact V;rw[ez e]at c;have C:kg ops B (a.put o.dst v)=kg ops B a:=by
  refine Eg λt Y=>?_;obtain⟨x,I,D⟩:=List.mem_filterMap.1 Y;split at D;rename_i G;refine tT _ _ _ _ λQ=>?_;have Z:waits ops k x.on=true:=by unfold waits;rw[b];exact vE.2 ⟨x,by simpa using I,by simp[G]⟩
  have J:=f.closed k x.on c Z;have R:i≠x.on:=λh=>by rw[<-h,z]at J;cases J
  obtain⟨o2,K,S⟩:=kI.1 D;have T:x.on<ops.size:=(ik.1 K).1;have n:=g.2;rw[Q]at n;simp only[fE,lU]at n;have H:=mO.1 n.2 x.on (fT.2 T);rw[K]at H;simp[S,jb R]at H;cases D
 rw[C];exact last _ _ (f.valn k B l c b s);rw[tT _ _ _ _ λe=>p i o (by rw[mw _ _ _ (by omega),eC rfl]) y e];refine f.fresh j λk B l b=>p k B ?_ b;rw[mw _ _ _ (by omega)];split;rfl;exact l
def zx{id:Nat}(hm:P.follows .mixedOrders=true)(U:oB ops N m=true)(hV:S3 E E' Rch zu)(h0:Rch false w0.drew)(hN:a0.tmps.size=N) (hs:∀i o,i<m->ops[i]? =some o->pu E E' Rch sp P ops Q a0 N zu i o)(h1:tW Rch P ops Q a0 N m zu):(Code.region id ops true).wp P Q a0 w0:=by
 refine wp_region_any hm ?_;have V:m=ops.size\/m+1=ops.size:=by simp only[oB,fE,tn,lU]at U;exact U.2.2
 have an:m<=ops.size:=by omega
 have M:m+1=ops.size->∀j,j<m->∃k,j<k/\k<=m/\waits ops k j=true:=λao j f=>by have h:=U;simp only[oB,fE]at h;obtain h|h:=tn _ _▸h.2.1;have:=fQ h;omega;have W:=mO.1 h j (fT.2 f);obtain⟨k,hk,H⟩:=List.any_eq_true.1 W;simp only[fE,lU]at H;have:=fT.1 hk;exact⟨k,H.1,by omega,H.2⟩
 have z:∀(i:Nat) (o:Oper),ops[i]? =some o->∀e∈o.after,Region.binds .any e=true->e.on<i:=λi o r e I hb=>by have q:i<ops.size:=(ik.1 r).1;have X:=U;simp only[oB,fE]at X;have O:=mO.1 X.1 i (fT.2 q);rw[r]at O;simp only[fE]at O;have:=xE.1 O.1 e I;simpa[hb]using this
 have A:∀L:Array Bool,L.size=ops.size->Region.ready .any ops L=[]->∀i,i<ops.size->L.getD i false=true:=by
  intro L Y hr i;induction i using Nat.strongRecOn with
  |_ i ih=>
   intro q;refine Ff λaf=>?_;have r:ops[i]? =some ops[i]:=lA q;have t:i∈Region.ready .any ops L:=by
    unfold Region.ready;refine ku.2 ⟨fT.2 q,?_⟩;simp only[fE,tl];refine⟨?_,?_⟩;have:L.getD i false=false:=by simpa using af
    have B:i<L.size:=by omega
    simp[B]at this⊢;exact this;rw[r];simp only[kT,lT];refine xE.2 λe I=>?_;cases ag:Region.binds .any e with
    |false=>simp
    |true=>
     have Z:=z i _ r e I ag;rw[ih e.on Z (by omega)];simp
   rw[hr]at t;cases t
 have ah:∀(p:Nat) (L:Array Bool) (a:Act) (w:er),L.size=ops.size->Eh Rch sp ops a0 N m zu L a w->((List.range ops.size).countP λi=>!L.getD i false)<=p->wpAny P .any ops Q p L a w:=by
  intro p;induction p with
  |zero=>
   intro L a w Y g hc
   have n:∀i,i<ops.size->L.getD i false=true:=λi q=>by
    have h0:(List.range ops.size).countP (λi=>!L.getD i false)=0:=by omega
    have:=List.countP_eq_zero.1 h0 i (fT.2 q);simpa using this
   refine⟨?_,?_⟩;unfold Region.ready;refine Fg.2 λi q=>?_;have h:=n i (fT.1 q);have B:i<L.size:=by have:=fT.1 q;omega
   simp[B]at h⊢;intro W;rw[h]at W;cases W;have R:m=ops.size:=by obtain h|h:=V;exact h;have H:=n m (by omega);rw[g.tail m (eF _)]at H;cases H
   exact(h1 _ a w g.size g.defers g.keep (λi d q s=>by obtain⟨o,r,s⟩:=kI.1 s;exact g.val i o d q (n i (by omega)) r s) (λi o q r s=>g.valn i o q (n i (by omega)) r s) g.ext).1 R
  |succ p ih=>
   intro L a w Y g hc;refine⟨λhr=>?_,λi q=>?_⟩;have n:=A L Y hr;have R:m=ops.size:=by obtain h|h:=V;exact h;have H:=n m (by omega);rw[g.tail m (eF _)]at H;cases H
   exact(h1 _ a w g.size g.defers g.keep (λi d q s=>by obtain⟨o,r,s⟩:=kI.1 s;exact g.val i o d q (n i (by omega)) r s) (λi o q r s=>g.valn i o q (n i (by omega)) r s) g.ext).1 R
   unfold Region.ready at q;obtain⟨J,C⟩:=ku.1 q;have J:=fT.1 J;simp only[fE,tl]at C;have r:ops[i]? =some ops[i]:=lA J;rw[r]at C;simp only[kT,lT]at C;have b:L.getD i false=false:=by
    have h:=C.1;have B:i<L.size:=by omega
    simp[B]at h⊢;exact h
   have u:∀j,(ops[i].after.any λe=>e.on==j&&Region.binds .any e)=true->L.getD j false=true:=λj f=>by obtain⟨e,I,f⟩:=vE.1 f;simp only[fE,pB]at f;have h:=xE.1 C.2 e I;rw[f.2]at h;rw[<-f.1];simpa using h
   have aa:(List.range ops.size).countP (λj=>!(L.setIfInBounds i true).getD j false)<=p:=by
    have Z:(List.range ops.size).countP (λj=>!(L.setIfInBounds i true).getD j false)<(List.range ops.size).countP (λj=>!L.getD j false):=by
     have t:=fT.2 J;generalize List.range ops.size=l at t;have S:∀l:ew,l.countP (λj=>!(L.setIfInBounds i true).getD j false)<=l.countP (λj=>!L.getD j false):=λl=>List.countP_mono_left λx _ hx=>by rw[mw _ _ _ (by omega)]at hx;split at hx;cases hx;exact hx
     induction l with
     |nil=>cases t
     |cons x l ai=>
      obtain rfl|D:=gI.1 t;rw[List.countP_cons_of_neg (by rw[mw _ _ _ (by omega)];simp),List.countP_cons_of_pos (by rw[b];rfl)];exact Nat.lt_succ_of_le (S l);have W:=ai D;rw[List.countP_cons,List.countP_cons];have H:(if(!(L.setIfInBounds i true).getD x false)=true then 1 else 0)<=(if(!L.getD x false)=true then 1 else 0):=by rw[mw _ _ _ (by omega)];split;simp;exact eF _
      omega
    omega
   obtain D|D:=gQ i m
   have aj:=hs i ops[i] D r (L.getD sp false) a w (λe=>by
    obtain e|e:=e;rw[<-e];exact b;cases ab:L.getD sp false with
    |false=>rfl
    |true=>
     obtain e|⟨j,e1,e2⟩:=e;rw[g.closed sp i ab e]at b;cases b;rw[g.closed j i (g.closed sp j ab e1) e2]at b;cases b) g.size g.defers (λj f=>g.fresh j λk o hk r e=>by
    have:=g.closed k i hk (f k o r e);rw[b]at this;cases this) (λj d f s=>by
    obtain⟨o',F,s⟩:=kI.1 s;have ap:j<i:=by obtain⟨e,I,f⟩:=vE.1 f;simp only[fE,pB]at f;rw[<-f.1];exact z i _ r e I f.2
    exact g.val j o' d (by omega) (u j f) F s) g.ext
   refine wpOp_mono (λa' w' h=>?_) aj;obtain⟨v,rfl,I,hv,ak⟩:=h;exact ih _ _ _ (by simp[Y]) (g.next U hV Y r D I hv ak b λj f=>u j (by unfold waits at f;rw[r]at f;exact f)) aa;have G:m+1=ops.size:=by omega
   obtain rfl:i=m:=by omega
   have y:∀c j,j+c=i->0<c->L.getD j false=true:=by
    intro c;induction c using Nat.strongRecOn with
    |_ c al=>
     intro j f aq;obtain⟨k,ar,au,K⟩:=M G j (by omega);obtain am|am:=gQ k i;exact g.closed k j (al (i-k) (by omega) k (by omega) (by omega)) K;obtain rfl:k=i:=by omega
     refine u j ?_;unfold waits at K;rw[r]at K;exact K
   have ac:=(h1 _ a w g.size g.defers g.keep (λj d f s=>by obtain⟨o',F,s⟩:=kI.1 s;exact g.val j o' d f (y (i-j) j (by omega) (by omega)) F s) (λj o' f F s=>g.valn j o' f (y (i-j) j (by omega) (by omega)) F s) g.ext).2 G;refine wpOp_mono (λa' w' h=>?_) ac;have n:∀j,j<ops.size->(L.setIfInBounds i true).getD j false=true:=λj f=>by rw[mw _ _ _ (by omega)];split;rfl;exact y (i-j) j (by omega) (by omega)
   have ad:Region.ready .any ops (L.setIfInBounds i true)=[]:=by
    unfold Region.ready;refine Fg.2 λj f=>?_;have h:=n j (fT.1 f);have ae:j<(L.setIfInBounds i true).size:=by have:=fT.1 f;simp;omega
    rw[z0,lA ae]at h;rw[z0,lA ae];simp only[lT]at h⊢;rw[h];simp
   cases p with
   |zero=>exact⟨ad,h⟩
   |succ p=>exact⟨λ_=>h,λj f=>by rw[ad]at f;cases f⟩
 refine ah _ _ _ _ (by simp) ⟨hN,rfl,λ_ _=>rfl,λi o d _ T _ _=>?_,?_,λi _=>?_,λi j q _=>?_,λi o _ T _ _=>?_,λ_ _=>rfl⟩ ?_;simp[z0,wB]at T;split at T<;>simp at T;have:(Array.replicate ops.size false).getD sp false=false:=by simp only[z0,wB];split<;>rfl
 rw[this];exact h0;simp only[z0,wB];split<;>rfl;simp[z0,wB]at q;split at q<;>simp at q;simp[z0,wB]at T;split at T<;>simp at T;exact ff List.countP_le_length (by simp)
end
abbrev jD:=eu->er->Prop
def AM{a:Type}(f:a->Bool):List a->Bool
 |[]=>false
 |x::r=>match f x with
  |true=>true
  |false=>AM f r
def S4:Option Nat->Nat->Bool
 |some d,t=>Nat.beq d t
 |none,_=>false
def UF(a:List Oper)(t:Nat):Bool:=AM (λo=>S4 o.dst t) a
def zy(a:List Oper)(o:Oper)(t:Nat):Bool:=match UF a t with
 |false=>true
 |true=>AM (λe=>match Region.binds .any e with
  |true=>S4 (CP a e.on) t
  |false=>false) o.after.toList
def rd:fI->ew
 | .tmp t=>[t]
 |_=>[]
def VF:List fI->ew
 |[]=>[]
 |x::r=>rd x++VF r
def V3:List (Nat×fI)->ew
 |[]=>[]
 |x::r=>rd x.2++V3 r
def VG:Option fI->ew
 |none=>[]
 |some x=>rd x
def Rm:Op->ew
 | .move x=>rd x
 | .assign x=>rd x
 | .nilCheck x=>rd x
 | .fieldAddr _ x _=>rd x
 | .extract x _=>rd x
 | .field _ x _=>rd x
 | .load _ x=>rd x
 | .box _ x=>rd x
 | .unOp _ _ x=>rd x
 | .convert _ _ x=>rd x
 | .pick c x y=>rd c++(rd x++rd y)
 | .store _ x y=>rd x++rd y
 | .binOp _ _ x y _=>rd x++rd y
 | .makeSlice _ x y=>rd x++rd y
 | .indexAddr _ x y=>rd x++rd y
 | .index _ x y=>rd x++rd y
 | .lookup _ x y _=>rd x++rd y
 | .mapUpdate _ m x y=>rd m++(rd x++rd y)
 | .build _ d=>V3 d.toList
 | .buildSlice _ _ d=>V3 d.toList
 | .makeFunc _ a b=>VF a.toList++VF b.toList
 | .makeMap _ r=>VG r
 | .slice _ x a b c=>rd x++(VG a++(VG b++VG c))
 | .call c=>(match c.callee with
  | .value f=>rd f
  |_=>[])++VF c.args.toList
 |_=>[]
def Rn(a:List Oper)(o:Oper):ew:=match o.guard with
 |none=>[]
 |some (g,_)=>match CP a g with
  |some d=>[d]
  |none=>[]
def tX(c:Nat->Bool)(l:L):ew->L
 |[]=>[]
 |t::r=>match c t with
  |true=>(match lk l t with
   |some v=>(t,v)::tX c l r
   |none=>tX c l r)
  |false=>tX c l r
def oU(c:Nat->Bool):List (Nat×jD)->List (Nat×jD)
 |[]=>[]
 |p::r=>match c p.1 with
  |true=>p::oU c r
  |false=>oU c r
def AN(a:List Oper)(o:Oper):ew:=Rm o.op++Rn a o
def zz:List (Nat×jD)->er->(L->Prop)->Prop
 |[],_,f=>f []
 |p::r,w,f=>∀v,p.2 v w->zz r w λl=>f ((p.1,v)::l)
def Gy(l:L):ew->Option fD
 |[]=>some []
 |t::r=>match lk l t with
  |some v=>(match Gy l r with
   |some a=>some (v::a)
   |none=>none)
  |none=>none
abbrev B4:=List Nat×(List eu->er->Prop)
def AO:List B4->L->er->Prop->Prop
 |[],_,_,X=>X
 |p::r,l,w,X=>match Gy l p.1 with
  |some a=>p.2 a w->AO r l w X
  |none=>AO r l w X
inductive AP (E E':er->er->Prop) (w:er) (f:er->(eu->er->Prop)->Prop) (kx:eu->Prop) (kr:jD->Prop) (kp:jD->Prop) (lb:Bool) (kl:jD->Prop) (ea:Bool):Prop
 |exact(v:eu) (h:∀w1,E' w w1->f w1 λu w2=>u=v/\E w1 w2) (k:kx v)
 |rel (R:jD) (st:∀v a b,R v a->E' a b->R v b) (h:∀w1,E' w w1->f w1 λu w2=>R u w2/\E w1 w2) (k:kr R)
 |LW (R:jD) (st:∀v a b,R v a->E a b->R v b) (h:∀w1,E' w w1->f w1 λu w2=>R u w2/\E w1 w2) (k:kp R)
 |late (hb:lb=true) (R:jD) (st:∀v a b,R v a->E a b->R v b) (h:∀w1,E' w w1->f w1 λu w2=>R u w2/\E w1 w2) (k:kl R)
 |early (he:ea=true) (R:jD) (st:∀v a b,R v a->E a b->R v b) (h:∀w1,E w w1->f w1 λu w2=>R u w2/\E w1 w2) (k:kp R)
 |Ei (he:ea=true) (v:eu) (h:∀w1,E w w1->f w1 λu w2=>u=v/\E w1 w2) (k:kx v)
inductive V4 (E1 E2 Es:er->er->Prop) (w:er) (f:er->(List eu->er->Prop)->Prop) (kj:(List eu->er->Prop)->Prop):Prop
 |AS (J:List eu->er->Prop) (st:∀vs a b,J vs a->Es a b->J vs b) (h:∀w1,E1 w w1->f w1 λvs w2=>J vs w2/\E2 w1 w2) (k:kj J)
def Gz:List (Nat×jD)->ew
 |[]=>[]
 |p::r=>p.1::Gz r
def LX:L->fD
 |[]=>[]
 |p::r=>p.2::LX r
def Oy(T:BU)(e:ew)(l:L):Op->Option eu
 | .move x=>ev l x
 | .assign x=>ev l x
 | .pick (.tmp c) x y=>match lk l c with
  |some (.bool b)=>(match mem c e with
   |true=>(match b with
    |true=>ev l x
    |false=>ev l y)
   |false=>none)
  |_=>none
 | .nilCheck x=>match ev l x with
  |some (.pointer (some f))=>some (.pointer (some f))
  |_=>none
 | .fieldAddr S x i=>match ev l x with
  |some (.pointer (some ⟨b,o,none⟩))=>(match T.off S i with
   |some d=>some (.pointer (some ⟨b,o+d,none⟩))
   |none=>none)
  |_=>none
 | .extract x i=>match ev l x with
  |some (.tuple g)=>nth g.toList i
  |_=>none
 | .makeFunc h first a=>match evs l first.toList with
  |some j=>(match evs l a.toList with
   |some k=>some (.func h j.toArray k.toArray)
   |none=>none)
  |none=>none
 |_=>none
def GA{P:eE}{T:BU}{j:ew}{l:L}{w:er}{o:Oper}{k:oz}{s:fa}{pan:List PanicEntry->fa}(h:Oy T j l o.op=some x)(e:k x w):H6 P T j l w o k s pan:=by
 unfold H6;unfold Oy at h;split at h;case h_1 f a=>simp only[a,h];exact e
 case h_2 f a=>simp only[a,h];exact e
 case h_3 c f y a=>
  simp only[a];split at h;rename_i b m;try simp only[m]
  split at h;rename_i n;try simp only[n]
  cases b with
  |true=>simp only at h⊢;simp only[h];exact e
  |false=>simp only at h⊢;simp only[h];exact e
  cases h
  cases h
 case h_4 f a=>
  simp only[a];split at h;rename_i u g;obtain rfl:=eP h;simp only[g];exact e;cases h
 case h_5 S f i a=>
  simp only[a];split at h;rename_i b p g;split at h;rename_i d q;obtain rfl:=eP h;(try simp only[g,q]);exact e;cases h;cases h
 case h_6 f i a=>
  simp only[a];split at h;rename_i v g;simp only[g,h];exact e;cases h
 case h_7 z first cap a=>
  simp only[a];split at h;rename_i A r;split at h;rename_i B t;obtain rfl:=eP h;(try simp only[r,t]);exact e;cases h;cases h
 case h_8=>cases h
def IX(o:Oper)(r:List Oper):Bool:=match r,o.dst,o.guard with
 |[],none,none=>true
 |_,_,_=>false
def Ro{a:Type}(f:a->Bool):List a->Bool
 |[]=>true
 |x::r=>match f x with
  |true=>Ro f r
  |false=>false
def early0(a:List Oper)(i t:Nat):Bool:=match UF a t with
 |false=>false
 |true=>Ro (λo=>match S4 o.dst t with
  |true=>AM (λe=>match Region.binds .any e with
   |true=>Nat.beq e.on i
   |false=>false) o.after.toList
  |false=>true) a
def rW(c e:Nat->Bool)(l a:L):ew->L
 |[]=>[]
 |t::r=>match c t with
  |true=>(match lk l t with
   |some v=>(t,v)::rW c e l a r
   |none=>rW c e l a r)
  |false=>(match e t with
   |true=>(match lk a t with
    |some v=>(t,v)::rW c e l a r
    |none=>rW c e l a r)
   |false=>rW c e l a r)
def Rp(a:List Oper)(i:Nat)(o:Oper)(l b:L):L:=rW (zy a o) (early0 a i) l b (AN a o)
def B5(d:Option Nat)(R:jD)(a:List (Nat×jD)):List (Nat×jD):=match d with
 |some d=>(d,R)::a
 |none=>a
def Oz(a:List Oper)(sp i:Nat):Bool:=match nth a sp with
 |some o=>AM (λe=>match Region.binds .any e with
  |true=>Nat.beq e.on i
  |false=>false) o.after.toList
 |none=>false
def tY(a:List Oper)(sp i:Nat):Bool:=match nth a sp with
 |some o=>AM (λe=>match Region.binds .any e with
  |true=>(match Nat.beq e.on i with
   |true=>true
   |false=>Oz a e.on i)
  |false=>false) o.after.toList
 |none=>false
def TX(b:Bool):List (Nat×jD)->List (Nat×jD)->List (Nat×jD)
 |[],a=>a
 |p::r,a=>match b with
  |true=>p::(r++a)
  |false=>a
def OA{a b:List (Nat×jD)}{p:Nat×jD}(h:p∈TX D a b):p∈b\/(D=true/\p∈a):=by
 cases a with
 |nil=>exact .inl h
 |cons q r=>
  cases D with
  |false=>exact .inl h
  |true=>
   obtain rfl|h:=gI.1 h;exact .inr ⟨rfl,gD⟩;obtain h|h:=ja.1 h;exact .inr ⟨rfl,gG _ h⟩;exact .inl h
def GB(P:Program)(T:BU)(N:Nat)(pn:List PanicEntry->World->Prop)(E E':World->World->Prop)(a:List Oper)(w:World)(i:Nat)(e:L)(o:Oper)(f:List Nat)(l:L)(b c:List (Nat×jD))(j g:Bool)(d:L->List (Nat×jD)->List (Nat×jD)->Bool->Prop):Prop:=
 match Oy T f (Rp a i o l e) o.op with
 |some v=>d (ins N o.dst v l) b c false
 |none=>AP E E' w (λh k=>zz (TX g (oU (zy a o) c) (oU (zy a o) b)) h λm=>H6 P T f (m++Rp a i o l e) h o k (λ_=>False) pn)
  (λv=>d (ins N o.dst v l) b c false) (λR=>d l (B5 o.dst R b) c false) (λR=>d l b (B5 o.dst R c) false) j (λR=>d l (B5 o.dst R b) c true) g
def U7(P:eE)(T:BU)(E E':er->fa)(a:List Oper)(w:er)(o:Oper)(e:ew)(l:L)(b:List (Nat×jD))(f:B4->Prop):Prop:=
 V4 E' E E' w (λc g=>zz (oU (zy a o) b) c λd=>H6 P T e (d++tX (zy a o) l (AN a o)) c o (λ_ _=>False) (λh=>g (LX d) h) λ_ _=>False)
  (λJ=>f (Gz (oU (zy a o) b),J))
def runT(P:eE)(T:BU)(E E':er->fa)(a:List Oper)(w:er)(o:Oper)(f:ew)(l:L)(b c:List (Nat×jD))(g:B4->Prop):Prop:=
 V4 E E' E w (λd h=>zz (oU (zy a o) c++oU (zy a o) b) d λe=>H6 P T f (e++tX (zy a o) l (AN a o)) d o (λ_ _=>False) (λi=>h (LX e) i) λ_ _=>False)
  (λJ=>g (Gz (oU (zy a o) c++oU (zy a o) b),J))
inductive Xv (E E':er->er->Prop) (w:er) (f:er->(eu->er->Prop)->Prop) (kr:jD->Prop):Prop
 |spec (R:jD) (st:∀v a b,R v a->E a b->R v b) (h:∀w1,E w w1->f w1 λu w2=>R u w2/\E' w1 w2) (k:kr R)
def U8(P:eE)(T:BU)(pn:List PanicEntry->fa)(E E':er->fa)(a:List Oper)(w:er)(o:Oper)(c:ew)(l:L)(d e:List (Nat×jD))(f:jD->Prop):Prop:=
 Xv E E' w (λb g=>zz (oU (zy a o) e++oU (zy a o) d) b λh=>H6 P T c (h++tX (zy a o) l (AN a o)) b o g (λ_=>False) pn) f
def AT:List (Nat×jD)->List (Nat×jD)->List (Nat×jD)
 |[],a=>a
 |p::r,a=>(p.1,λ_ _=>True)::AT r a
def wS(a:ew)(o:Oper):Bool:=match o.dst with
 |some _=>AM (λe=>match Region.binds .any e with
  |true=>mem e.on a
  |false=>false) o.after.toList
 |none=>false
def IY(b:Bool)(i:Nat)(a:ew):ew:=match b with
 |true=>i::a
 |false=>a
def Ki(o:Oper):Bool:=match o.dst,o.guard with
 |none,none=>(match o.op with
  | .store _ _ _=>true
  | .mapUpdate _ _ _ _=>true
  |_=>false)
 |_,_=>false
def DW(P:eE)(T:BU)(N:Nat)(pn:List PanicEntry->er->Prop)(E E':er->er->Prop)(sp:Nat)(a:List Oper)(w:er)(j:L)(K:L->er->Prop):Nat->List Oper->List Nat->L->List (Nat×jD)->List (Nat×jD)->List B4->List Nat->Prop
 |_,[],_,l,h,n,q,k=>∀s,E' w s->zz h s λm=>AO q m s (K (m++l) s)
 |i,o::r,c,l,h,n,q,k=>match IX o r with
  |true=>∀s,E' w s->zz h s λm=>AO q m s (H6 P T [] (m++l) s o (λ_ _=>False) (λv=>K (m++l) v) λ_ _=>False)
  |false=>match Ki o with
  |true=>(match Nat.beq i sp with
   |true=>runT P T E E' a w o c l h n λp=>DW P T N pn E E' sp a w j K (i+1) r c l (AT n h) [] (p::q) k
   |false=>U7 P T E E' a w o c l h λp=>DW P T N pn E E' sp a w j K (i+1) r c l h n (p::q) k)
  |false=>VE N o.dst (match o.guard with
   |none=>(match Nat.beq i sp with
    |true=>U8 P T pn E E' a w o c l h n λR=>DW P T N pn E E' sp a w j K (i+1) r c l (B5 o.dst R (AT n h)) [] q (match o.dst with
     |some _=>[i]
     |none=>[])
    |false=>GB P T N pn E E' a w i j o c l h n (wS k o) (tY a sp i) λm e f t=>DW P T N pn E E' sp a w j K (i+1) r c m e f q (IY t i k))
   |some (g,u)=>(match CP a g with
    |none=>False
    |some d=>match zy a o d with
     |false=>False
     |true=>match lk l d with
      |some (.bool b)=>(match mem d c with
       |true=>(match b,u with
        |true,true=>GB P T N pn E E' a w i j o c l h n (wS k o) (tY a sp i) λm e f t=>DW P T N pn E E' sp a w j K (i+1) r c m e f q (IY t i k)
        |false,false=>GB P T N pn E E' a w i j o c l h n (wS k o) (tY a sp i) λm e f t=>DW P T N pn E E' sp a w j K (i+1) r c m e f q (IY t i k)
        |_,_=>DW P T N pn E E' sp a w j K (i+1) r c (ins N o.dst undef l) h n q k)
       |false=>(match u with
        |true=>(b=true->GB P T N pn E E' a w i j o (d::c) ((d,.bool true)::l) h n (wS k o) (tY a sp i) λm e f t=>DW P T N pn E E' sp a w j K (i+1) r (d::c) m e f q (IY t i k))/\
         (b=false->DW P T N pn E E' sp a w j K (i+1) r (d::c) (ins N o.dst undef ((d,.bool false)::l)) h n q k)
        |false=>(b=true->DW P T N pn E E' sp a w j K (i+1) r (d::c) (ins N o.dst undef ((d,.bool true)::l)) h n q k)/\
         (b=false->GB P T N pn E E' a w i j o (d::c) ((d,.bool false)::l) h n (wS k o) (tY a sp i) λm e f t=>DW P T N pn E E' sp a w j K (i+1) r (d::c) m e f q (IY t i k))))
      |some (.tuple _)=>DW P T N pn E E' sp a w j K (i+1) r c (ins N o.dst undef l) h n q k
      |_=>False))
def yO(a:List Oper):L->L
 |[]=>[]
 |p::r=>match UF a p.1 with
  |true=>yO a r
  |false=>p::yO a r
def vv:List Oper->Nat
 |[]=>0
 |o::r=>match IX o r with
  |true=>0
  |false=>vv r+1
section
variable{P:eE}{T:BU}{N m sp:Nat}{pn:List PanicEntry->er->Prop}{E E':er->er->Prop}{ops:Array Oper}{w0:er}{a0:Act}{K:L->er->Prop}{Q:Exit->Act->er->Prop}
theorem oC{a:Type}{f:a->Bool}:∀{l:List a},AM f l=true->∃x∈l,f x=true
 |x::r,h=>by simp only[AM]at h;split at h;rename_i b;exact⟨x,gD,b⟩;obtain⟨y,c,d⟩:=oC h;exact⟨y,gG _ c,d⟩
theorem Kj{a:Type}{f:a->Bool}:∀{l:List a} {x:a},x∈l->f x=true->AM f l=true
 |y::r,x,h,b=>by simp only[AM];obtain rfl|h:=gI.1 h;rw[b];split;rfl;exact Kj h b
def zO{d:Option Nat}{t:Nat}:S4 d t=true↔d=some t:=by
 cases d with
 |none=>simp[S4]
 |some d=>
  simp only[S4,iz];exact⟨jL,λh=>by rw[h];exact yE t⟩
def uR{ops:Array Oper}{t:Nat}:UF ops.toList t=wrote ops t:=by
 cases h:UF ops.toList t with
 |true=>
  obtain⟨o,a,b⟩:=oC h;exact(vE.2 ⟨o,by simpa using a,by simpa using zO.1 b⟩).symm
 |false=>
  cases b:wrote ops t with
  |false=>rfl
  |true=>
   obtain⟨o,a,c⟩:=vE.1 b;have:=Kj (f:=λo=>S4 o.dst t) (by simpa using a:o∈ops.toList) (zO.2 (by simpa using c));unfold UF at h;rw[h]at this;cases this
def LY(e:oB ops N m=true){i j t:Nat}{o f:Oper}(g:ops[i]? =some o)(c:ops[j]? =some f)(h:o.dst=some t)(k:f.dst=some t):i=j:=by have l:i<ops.size:=(ik.1 g).1;have n:j<ops.size:=(ik.1 c).1;simp only[oB,fE]at e;have a:=mO.1 e.1 i (fT.2 l);rw[g]at a;simp only[fE]at a;have d:=a.2;rw[h]at d;simp only[fE,lU]at d;have b:=mO.1 d.2 j (fT.2 n);rw[c]at b;simp only[k,tn,lU]at b;obtain b|b:=b;exact b.symm;simp at b
structure Cons(ops:Array Oper)(a0:Act)(i:Nat)(S:Nat->Bool->jD)(l:L)(rs ps:List (Nat×jD))(js:List B4):Prop where
 l:∀t v,lk l t=some v->(wrote ops t=false/\a0.eval (.tmp t)=v)\/∃j o,j<i/\ops[j]? =some o/\o.dst=some t/\∀b u w,S j b u w->u=v
 r:∀p∈rs,∃j o,j<i/\ops[j]? =some o/\o.dst=some p.1/\∀b u w,S j b u w->p.2 u w
 p:∀p∈ps,∃j o,j<i/\ops[j]? =some o/\o.dst=some p.1/\∀u w,S j false u w->p.2 u w
 j:∀p∈js,∃j o,j<i/\ops[j]? =some o/\o.dst=none/\∀b a w,S j b (kg ops o a) w->p.2 (p.1.map λt=>a.eval (.tmp t)) w
structure At(ops:Array Oper)(a0:Act)(N i:Nat)(S:Nat->Bool->jD)(b:Bool)(D:Nat->Prop)(a:Act)(w:er):Prop where
 size:a.tmps.size=N
 defers:a.defers=a0.defers
 keep:∀j,Before ops i j->a.eval (.tmp j)=a0.eval (.tmp j)
 val:∀j d,D j->((ops[j]?).bind (·.dst))=some d->S j b (a.eval (.tmp d)) w
def pS(I:oB ops N m=true){i:Nat}{S n:Nat->Bool->jD}{l:L}{J:List B4}{C E:List (Nat×jD)}(q:Cons ops a0 i S l C E J)(s:∀j,j<i->n j=S j){o:Oper}{a:Act}{w:er}
 (F:At ops a0 N i n D (λj=>(o.after.any λe=>e.on==j&&Region.binds .any e)=true) a w){t:Nat}(u:zy ops.toList o t=true):(∀v,lk l t=some v->a.eval (.tmp t)=v)/\(∀p∈C,p.1=t->p.2 (a.eval (.tmp t)) w)/\(D=false->∀p∈E,p.1=t->p.2 (a.eval (.tmp t)) w):=by
 have g:wrote ops t=true->∀j f,ops[j]? =some f->f.dst=some t->n j D (a.eval (.tmp t)) w:=λx j f b c=>by
  unfold zy at u;rw[uR,x]at u;obtain⟨e,K,y⟩:=oC u;split at y;rename_i M;have G:=zO.1 y;rw[pt]at G;have H:(ops[e.on]?).bind (·.dst)=some t:=by simpa using G
  obtain⟨P,z,A⟩:=kI.1 H;obtain rfl:=LY I z b A c;exact F.val _ _ (vE.2 ⟨e,by simpa using K,by simp[M]⟩) H;cases y
 have d:∀{j:Nat} {f:Oper},ops[j]? =some f->f.dst=some t->wrote ops t=true:=λb c=>vE.2 ⟨_,oQ b,by simp[c]⟩;refine⟨λv O=>?_,?_,?_⟩;obtain⟨x,h⟩|⟨j,f,k,b,c,h⟩:=q.l t v O;rw[F.keep t (LV x)];exact h;have:=g (d b c) j f b c;rw[s j k]at this;exact h _ _ _ this;rintro p B rfl;obtain⟨j,f,k,b,c,h⟩:=q.r p B;have:=g (d b c) j f b c;rw[s j k]at this;exact h _ _ _ this;rintro rfl p B rfl;obtain⟨j,f,k,b,c,h⟩:=q.p p B;have:=g (d b c) j f b c;rw[s j k]at this;exact h _ _ this
theorem tZ{c:Nat->Bool}{l:L}{a:Act}(h:∀t,c t=true->∀v,lk l t=some v->a.eval (.tmp t)=v):∀(d:ew) (t:Nat) (v:eu),lk (tX c l d) t=some v->a.eval (.tmp t)=v
 |[],t,v,b=>by cases b
 |x::r,t,v,b=>by simp only[tX]at b;split at b;rename_i e;split at b;rename_i u f;simp only[lk]at b;split at b;rename_i g;obtain rfl:=jL g;obtain rfl:=eP b;exact h x e _ f;exact tZ h r t v b;exact tZ h r t v b;exact tZ h r t v b
theorem AU{a:Act}{w:er}:∀{d:List (Nat×jD)} {f:L->Prop},zz d w f->(∀p∈d,p.2 (a.eval (.tmp p.1)) w)->∃c,f c/\∀t v,lk c t=some v->a.eval (.tmp t)=v
 |[],f,h,_=>⟨[],h,λt v b=>by cases b⟩
 |p::r,f,h,e=>by obtain⟨c,g,i⟩:=AU (h _ (e p gD)) λq j=>e q (gG _ j);refine⟨_,g,λt v b=>?_⟩;simp only[lk]at b;split at b;rename_i k;obtain rfl:=jL k;exact eP b;exact i t v b
def Ej{l a:L}{t:Nat}(h:lk (a++l) t=some x):lk a t=some x\/lk l t=some x:=by
 induction a with
 |nil=>exact .inr h
 |cons p r b=>
  simp only[qp,lk]at h⊢;split at h;exact .inl h;exact b h
theorem iG{c:Nat->Bool}:∀{a:List (Nat×jD)} {p:Nat×jD},p∈oU c a->p∈a/\c p.1=true
 |q::r,p,h=>by simp only[oU]at h;split at h;rename_i b;obtain rfl|h:=gI.1 h;exact⟨gD,b⟩;exact⟨gG _ (iG h).1,(iG h).2⟩;exact⟨gG _ (iG h).1,(iG h).2⟩
def qP(o:Oper)(j:Nat):Prop:=(o.after.any λe=>e.on==j&&Region.binds .any e)=true
theorem Cons.ins{i:Nat}{S s:Nat->Bool->jD}{l:L}{A:List B4}{B C:List (Nat×jD)}(v:Cons ops a0 i S l B C A)(y:∀j,j<i->s j=S j){o:Oper}(E:ops[i]? =some o)(F:∀d,o.dst=some d->∀b u w,s i b u w->u=x):Cons ops a0 (i+1) s (W.ins N o.dst x l) B C A:=by
 have e:∀t u,lk l t=some u->(wrote ops t=false/\a0.eval (.tmp t)=u)\/∃j o,j<i+1/\ops[j]? =some o/\o.dst=some t/\∀b D w,s j b D w->D=u:=λt u h=>by obtain h|⟨j,f,g,k,m,n⟩:=v.l t u h;exact .inl h;exact .inr ⟨j,f,by omega,k,m,by rw[y j g];exact n⟩
 refine⟨λt u c=>?_,λp q=>?_,λp q=>?_,λp q=>?_⟩;cases z:o.dst with
 |none=>rw[z]at c;exact e t u c
 |some d=>
  rw[z]at c;simp only[W.ins]at c;split at c;simp only[lk]at c;split at c;rename_i G;obtain rfl:=jL G;obtain rfl:=eP c;exact .inr ⟨i,o,by omega,E,z,F _ z⟩;exact e t u c;exact e t u c
 obtain⟨j,f,g,k,m,n⟩:=v.r p q;exact⟨j,f,by omega,k,m,by rw[y j g];exact n⟩;obtain⟨j,f,g,k,m,n⟩:=v.p p q;exact⟨j,f,by omega,k,m,by rw[y j g];exact n⟩;obtain⟨j,f,g,k,m,n⟩:=v.j p q;exact⟨j,f,by omega,k,m,λb a w h=>n b a w (by rw[<-y j g];exact h)⟩
def Cons.xT{i:Nat}{S:Nat->Bool->jD}{l:L}{c:List B4}{e f:List (Nat×jD)}(a:Cons ops a0 i S l e f c){d:Nat}(g:lk l d=some x):Cons ops a0 i S ((d,x)::l) e f c:=by refine⟨λt u b=>?_,a.r,a.p,a.j⟩;simp only[lk]at b;split at b;rename_i h;obtain rfl:=jL h;obtain rfl:=eP b;exact a.l _ _ g;exact a.l t u b
theorem Cons.B5{i:Nat}{S q:Nat->Bool->jD}{l:L}{z:List B4}{y A:List (Nat×jD)}(s:Cons ops a0 i S l y A z)(v:∀j,j<i->q j=S j){o:Oper}(B:ops[i]? =some o){R:jD}(C:∀d,o.dst=some d->∀b u w,q i b u w->R u w):Cons ops a0 (i+1) q l (W.B5 o.dst R y) A z:=by
 have n:∀p∈y,∃j o,j<i+1/\ops[j]? =some o/\o.dst=some p.1/\∀b u w,q j b u w->p.2 u w:=λp c=>by obtain⟨j,e,f,g,k,m⟩:=s.r p c;exact⟨j,e,by omega,g,k,by rw[v j f];exact m⟩
 refine⟨λt u h=>?_,λp c=>?_,λp c=>?_,λp c=>?_⟩;obtain h|⟨j,e,f,g,k,m⟩:=s.l t u h;exact .inl h;exact .inr ⟨j,e,by omega,g,k,by rw[v j f];exact m⟩;cases x:o.dst with
 |none=>rw[x]at c;exact n p c
 |some d=>
  rw[x]at c;obtain rfl|c:=gI.1 c;exact⟨i,o,by omega,B,x,C _ x⟩;exact n p c
 obtain⟨j,e,f,g,k,m⟩:=s.p p c;exact⟨j,e,by omega,g,k,by rw[v j f];exact m⟩;obtain⟨j,e,f,g,k,m⟩:=s.j p c;exact⟨j,e,by omega,g,k,λb a w h=>m b a w (by rw[<-v j f];exact h)⟩
def Cons.V5{i:Nat}{S q:Nat->Bool->jD}{l:L}{v x:List (Nat×jD)}{y:List B4}(m:Cons ops a0 i S l v x y)(n:∀j,j<i->q j=S j){o:Oper}(z:ops[i]? =some o)(A:o.dst=none){s:B4}(B:∀b a w,q i b (kg ops o a) w->s.2 (s.1.map λt=>a.eval (.tmp t)) w):Cons ops a0 (i+1) q l v x (s::y):=by refine⟨λt u h=>?_,λp c=>?_,λp c=>?_,λp c=>?_⟩;obtain h|⟨j,d,e,f,g,k⟩:=m.l t u h;exact .inl h;exact .inr ⟨j,d,by omega,f,g,by rw[n j e];exact k⟩;obtain⟨j,d,e,f,g,k⟩:=m.r p c;exact⟨j,d,by omega,f,g,by rw[n j e];exact k⟩;obtain⟨j,d,e,f,g,k⟩:=m.p p c;exact⟨j,d,by omega,f,g,by rw[n j e];exact k⟩;obtain rfl|c:=gI.1 c;exact⟨i,o,by omega,z,A,B⟩;obtain⟨j,d,e,f,g,k⟩:=m.j p c;exact⟨j,d,by omega,f,g,λb a w h=>k b a w (by rw[<-n j e];exact h)⟩
theorem CQ:∀{b a:List (Nat×jD)} {p:Nat×jD},p∈AT b a->p∈a\/∃q∈b,p=(q.1,λ_ _=>True)
 |[],a,p,h=>.inl h
 |q::r,a,p,h=>by obtain rfl|h:=gI.1 h;exact .inr ⟨q,gD,rfl⟩;obtain h|⟨x,c,d⟩:=CQ h;exact .inl h;exact .inr ⟨x,gG _ c,d⟩
def Cons.W7{i:Nat}{S:Nat->Bool->jD}{l:L}{c d:List (Nat×jD)}{e:List B4}(a:Cons ops a0 i S l c d e):Cons ops a0 i S l (AT d c) [] e:=by refine⟨a.l,λp b=>?_,(λp b=>by cases b),a.j⟩;obtain h|⟨q,f,rfl⟩:=CQ b;exact a.r p h;obtain⟨j,o,g,k,m,_⟩:=a.p q f;exact⟨j,o,g,k,m,λ_ _ _ _=>trivial⟩
def Cons.U9{i:Nat}{S q:Nat->Bool->jD}{l:L}{z y:List (Nat×jD)}{A:List B4}(s:Cons ops a0 i S l z y A)(v:∀j,j<i->q j=S j){o:Oper}(B:ops[i]? =some o){R:jD}(C:∀d,o.dst=some d->q i false=R):Cons ops a0 (i+1) q l z (W.B5 o.dst R y) A:=by
 have n:∀p∈y,∃j o,j<i+1/\ops[j]? =some o/\o.dst=some p.1/\∀u w,q j false u w->p.2 u w:=λp c=>by obtain⟨j,e,f,g,k,m⟩:=s.p p c;exact⟨j,e,by omega,g,k,by rw[v j f];exact m⟩
 refine⟨λt u h=>?_,λp c=>?_,λp c=>?_,λp c=>?_⟩;obtain h|⟨j,e,f,g,k,m⟩:=s.l t u h;exact .inl h;exact .inr ⟨j,e,by omega,g,k,by rw[v j f];exact m⟩;obtain⟨j,e,f,g,k,m⟩:=s.r p c;exact⟨j,e,by omega,g,k,by rw[v j f];exact m⟩;cases x:o.dst with
 |none=>rw[x]at c;exact n p c
 |some d=>
  rw[x]at c;obtain rfl|c:=gI.1 c;exact⟨i,o,by omega,B,x,λu w h=>by rw[C _ x]at h;exact h⟩;exact n p c
 obtain⟨j,e,f,g,k,m⟩:=s.j p c;exact⟨j,e,by omega,g,k,λb a w h=>m b a w (by rw[<-v j f];exact h)⟩
structure Told(E E':er->er->Prop)(R:Bool->jD):Prop where
 e:∀b v w w',R b v w->E w w'->R b v w'
 x:∀v w w',R false v w->E' w w'->R true v w'
theorem Kk{b:Type}{f:b->Bool}:∀{l:List b},Ro f l=true->∀x∈l,f x=true
 |y::r,h,x,a=>by simp only[Ro]at h;split at h;rename_i c;obtain rfl|a:=gI.1 a;exact c;exact Kk h x a;cases h
def LZ{i t:Nat}(h:early0 ops.toList i t=true):Before ops i t:=λk o b c=>by unfold early0 at h;split at h;cases h;have:=Kk h o (by simpa using oQ b);rw[c,show S4 (some t) t=true from yE t]at this;obtain⟨e,d,a⟩:=oC this;split at a;rename_i f;unfold waits;rw[b];exact vE.2 ⟨e,by simpa using d,by simp[jL a,f]⟩;cases a
theorem CR{c e:Nat->Bool}{l i:L}{a:Act}(h:∀t,c t=true->∀v,lk l t=some v->a.eval (.tmp t)=v)(k:∀t,e t=true->∀v,lk i t=some v->a.eval (.tmp t)=v):∀(m:ew) (t:Nat) (v:eu),lk (rW c e l i m) t=some v->a.eval (.tmp t)=v
 |[],t,v,b=>by cases b
 |x::r,t,v,b=>by
  have g:=CR h k r t v;have d:∀u,a.eval (.tmp x)=u->lk ((x,u)::rW c e l i r) t=some v->a.eval (.tmp t)=v:=λu f h=>by simp only[lk]at h;split at h;rename_i n;obtain rfl:=jL n;obtain rfl:=eP h;exact f;exact g h
  simp only[rW]at b;split at b;rename_i j;split at b;rename_i u f;exact d u (h x j u f) b;exact g b;split at b;rename_i j;split at b;rename_i u f;exact d u (k x j u f) b;exact g b;exact g b
def OB(O:oT P T)(A:∀c a w,a.tmps.size=N->a.defers=a0.defers->pn c w->Q (.panic c) a w)(hE:jd E)(ad:∀a b,E a b->E' a b)(hB:oB ops N m=true){i:Nat}{S:Nat->Bool->jD}{l:L}{rs ps:List (Nat×jD)}{js:List B4}{ks:ew}{o:Oper}{ea:Bool}{l0:L}(ae:∀t v,lk l0 t=some v->a0.eval (.tmp t)=v){go:L->List (Nat×jD)->List (Nat×jD)->Bool->Prop}(J:Cons ops a0 i S l rs ps js)(U:ops[i]? =some o) (h:GB P T N pn E E' ops.toList w0 i l0 o ks l rs ps D ea go):∃R:Bool->jD,Told E E' R/\
  (∀(g:Nat->Bool->jD) (b:Bool),(D=true->b=true)->(∀j,j<i->g j=S j)->∀a w,At ops a0 N i g b (qP o) a w->(ea=true->b=false/\E w0 w)->E' w0 w->o.wp P a w (λa' y=>∃v,a'=a.put o.dst v/\E w y/\R b v y) Q)/\
  ∃l' Y Z aa,go l' Y Z aa/\(aa=true->D=true/\∀u w,¬R false u w)/\∀g:Nat->Bool->jD,(∀j,j<i->g j=S j)->(∀d,o.dst=some d->g i=R)->Cons ops a0 (i+1) g l' Y Z js:=by
 have frame:∀(g:Nat->Bool->jD) (b:Bool),(∀j,j<i->g j=S j)->∀a w,At ops a0 N i g b (qP o) a w->∀x:L,(∀t v,lk x t=some v->a.eval (.tmp t)=v)->xB N (x++Rp ops.toList i o l l0) a:=λg b n a w q x ab=>by refine⟨q.size,λt v ht=>?_⟩;obtain h|h:=Ej ht;exact ab t v h;exact CR (λt hc v hv=>(pS hB J n q hc).1 v hv) (λt hc v hv=>(q.keep t (LZ hc)).trans (ae t v hv)) _ t v h
 have z:∀(g:Nat->Bool->jD) (b:Bool),(∀j,j<i->g j=S j)->∀a w,At ops a0 N i g b (qP o) a w->(ea=true->b=false)->∀f:L->Prop,zz (TX ea (oU (zy ops.toList o) ps) (oU (zy ops.toList o) rs)) w f->∃x,f x/\xB N (x++Rp ops.toList i o l l0) a:=λg b n a w q r f hf=>by
  obtain⟨x,B,C⟩:=AU (a:=a) hf λp V=>by obtain V|⟨H,V⟩:=OA V;exact(pS hB J n q (iG V).2).2.1 p (iG V).1 rfl;exact(pS hB J n q (iG V).2).2.2 (r H) p (iG V).1 rfl
  exact⟨x,B,frame g b n a w q x C⟩
 unfold GB at h;split at h;rename_i v hv;refine⟨λ_ u _=>u=v,⟨λ_ _ _ _ h _=>h,λ_ _ _ h _=>h⟩,λg b _ n a w q r H=>?_,_,_,_,_,h,(λh=>by cases h),λg n F=>J.ins n U λd G b u w K=>by rw[F d G]at K;exact K⟩;refine kX O (frame g b n a w q [] λt v ht=>by cases ht) (GA (k:=λu w2=>u=v/\w2=w) (s:=λ_=>False) (pan:=λ_ _=>False) hv ⟨rfl,rfl⟩) ?_ (λ_ h=>h.elim) λ_ _ h=>h.elim;rintro u y ⟨rfl,rfl⟩;exact⟨u,rfl,hE.refl _,rfl⟩;cases h with
 |exact v h k=>
  refine⟨λ_ u _=>u=v,⟨λ_ _ _ _ h _=>h,λ_ _ _ h _=>h⟩,λg b _ n a w q r H=>?_,_,_,_,_,k,(λh=>by cases h),λg n F=>J.ins n U λd G b u w K=>by rw[F d G]at K;exact K⟩;obtain⟨x,B,I⟩:=z g b n a w q (λe=>(r e).1) _ (h w H);refine kX O I B ?_ (λ_ h=>h.elim) λc y h=>A c a y q.size q.defers h;rintro u y ⟨rfl,C⟩;exact⟨u,rfl,C,rfl⟩
 |rel R M h k=>
  refine⟨λ_=>R,⟨λ_ _ _ _ h e=>M _ _ _ h (ad _ _ e),λ_ _ _ h e=>M _ _ _ h e⟩,λg b _ n a w q r H=>?_,_,_,_,_,k,(λh=>by cases h),λg n F=>J.B5 n U λd G b u w h=>by rw[F d G]at h;exact h⟩;obtain⟨x,B,I⟩:=z g b n a w q (λe=>(r e).1) _ (h w H);refine kX O I B ?_ (λ_ h=>h.elim) λc y h=>A c a y q.size q.defers h;rintro u y ⟨C,W⟩;exact⟨u,rfl,W,C⟩
 |LW R M h k=>
  refine⟨λb u w=>b=true\/R u w,⟨λ_ _ _ _ h e=>h.imp id λh=>M _ _ _ h e,λ_ _ _ _ _=>.inl rfl⟩,λg b _ n a w q r H=>?_,_,_,_,_,k,(λh=>by cases h),λg n F=>J.U9 n U λd G=>by rw[F d G];funext u w;simp⟩;obtain⟨x,B,I⟩:=z g b n a w q (λe=>(r e).1) _ (h w H);refine kX O I B ?_ (λ_ h=>h.elim) λc y h=>A c a y q.size q.defers h;rintro u y ⟨C,W⟩;exact⟨u,rfl,W,.inr C⟩
 |late ac R M h k=>
  refine⟨λb u w=>b=true/\R u w,⟨λ_ _ _ _ h e=>⟨h.1,M _ _ _ h.2 e⟩,λ_ _ _ h _=>by cases h.1⟩,λg b hb n a w q r H=>?_,_,_,_,_,k,λ_=>⟨ac,λu w h=>by cases h.1⟩,λg n F=>J.B5 n U λd G b u w h=>by rw[F d G]at h;exact h.2⟩;obtain⟨x,B,I⟩:=z g b n a w q (λe=>(r e).1) _ (h w H);refine kX O I B ?_ (λ_ h=>h.elim) λc y h=>A c a y q.size q.defers h;rintro u y ⟨C,W⟩;exact⟨u,rfl,W,hb ac,C⟩
 |early X R M h k=>
  refine⟨λb u w=>b=true\/R u w,⟨λ_ _ _ _ h e=>h.imp id λh=>M _ _ _ h e,λ_ _ _ _ _=>.inl rfl⟩,λg b _ n a w q r H=>?_,_,_,_,_,k,(λh=>by cases h),λg n F=>J.U9 n U λd G=>by rw[F d G];funext u w;simp⟩;obtain⟨x,B,I⟩:=z g b n a w q (λe=>(r e).1) _ (h w (r X).2);refine kX O I B ?_ (λ_ h=>h.elim) λc y h=>A c a y q.size q.defers h;rintro u y ⟨C,W⟩;exact⟨u,rfl,W,.inr C⟩
 |Ei X v h k=>
  refine⟨λ_ u _=>u=v,⟨λ_ _ _ _ h _=>h,λ_ _ _ h _=>h⟩,λg b _ n a w q r H=>?_,_,_,_,_,k,(λh=>by cases h),λg n F=>J.ins n U λd G b u w K=>by rw[F d G]at K;exact K⟩;obtain⟨x,B,I⟩:=z g b n a w q (λe=>(r e).1) _ (h w (r X).2);refine kX O I B ?_ (λ_ h=>h.elim) λc y h=>A c a y q.size q.defers h;rintro u y ⟨rfl,C⟩;exact⟨u,rfl,C,rfl⟩
theorem xU{a:Act}{w:er}{e:L}{X:Prop}(f:∀t v,lk e t=some v->a.eval (.tmp t)=v):∀{k:List B4},AO k e w X->(∀p∈k,p.2 (p.1.map λt=>a.eval (.tmp t)) w)->X
 |[],h,_=>h
 |p::r,h,g=>by
  have b:∀(d:List Nat) (c:List eu),Gy e d=some c->(d.map λt=>a.eval (.tmp t))=c:=by
   intro d;induction d with
   |nil=>intro c h;simp only[Gy,iz]at h;subst h;rfl
   |cons t r l=>
    intro c h;simp only[Gy]at h;split at h;rename_i v m;split at h;rename_i n o;simp only[iz]at h;subst h;simp[f t v m,l n o];cases h;cases h
  simp only[AO]at h;split at h;rename_i c i;exact xU f (h (b _ _ i▸g p gD)) λq j=>g q (gG _ j);exact xU f h λq j=>g q (gG _ j)
theorem xV{a:Act}{w:er}:∀{d:List (Nat×jD)} {f:L->Prop},zz d w f->(∀p∈d,p.2 (a.eval (.tmp p.1)) w)->∃c,f c/\(∀t v,lk c t=some v->a.eval (.tmp t)=v)/\LX c=(Gz d).map λt=>a.eval (.tmp t)
 |[],f,h,_=>⟨[],h,(λt v b=>by cases b),rfl⟩
 |p::r,f,h,e=>by obtain⟨c,g,i,j⟩:=xV (h _ (e p gD)) λq k=>e q (gG _ k);refine⟨_,g,λt v b=>?_,by simp[LX,Gz,j]⟩;simp only[lk]at b;split at b;rename_i l;obtain rfl:=jL l;exact eP b;exact i t v b
theorem GD:∀{a:List (Nat×jD)} {t:Nat},t∈Gz a->∃p∈a,p.1=t
 |p::r,t,h=>by obtain rfl|h:=gI.1 h;exact⟨p,gD,rfl⟩;obtain⟨q,b,c⟩:=GD h;exact⟨q,gG _ b,c⟩
def Kl{o:Oper}{t:Nat}(d:wrote ops t=true)(a:zy ops.toList o t=true):t∈IW ops o:=by
 unfold zy at a;rw[uR,d]at a;obtain⟨e,f,b⟩:=oC a;split at b;rename_i g;have c:=zO.1 b;rw[pt]at c;have h:(ops[e.on]?).bind (·.dst)=some t:=by simpa using c
 exact List.mem_filterMap.2 ⟨e,f,by rw[eC g];exact h⟩;cases b
def CS(hT:oT P T)(G:oB ops N m=true){E1 E2 H:er->fa}(ab:∀a b,E a b->E' a b){i:Nat}{S:Nat->Bool->jD}{l:L}{I K:List (Nat×jD)}{js:List B4}{ks:ew}{o:Oper}(y:Bool)(M:∀a b,E a b->H a b)(O:y=false->∀a b,E' a b->H a b){C:List (Nat×jD)}(hq:∀p∈C,(p∈I\/(y=true/\p∈K))/\zy ops.toList o p.1=true){go:B4->Prop}(x:Cons ops a0 i S l I K js)(ho:ops[i]? =some o)(f:o.dst=none)
 (h:V4 E1 E2 H w0 (λw1 κ=>zz C w1 λl'=>H6 P T ks (l'++tX (zy ops.toList o) l (AN ops.toList o)) w1 o (λ_ _=>False) (λw2=>κ (LX l') w2) λ_ _=>False) (λJ=>go (Gz C,J))):∃R:Bool->jD,Told E E' R/\
  (∀(g:Nat->Bool->jD) (b U:Bool),(y=true->b=false/\U=true)->(∀j,j<i->g j=S j)->∀a w,At ops a0 N i g b (qP o) a w->E1 w0 w->o.wp P a w (λa' V=>∃v,a'=a.put o.dst v/\E2 w V/\R U v V/\v=kg ops o a) Q)/\
  ∃p,go p/\∀g:Nat->Bool->jD,(∀j,j<i->g j=S j)->g i=R->Cons ops a0 (i+1) g l I K (p::js):=by
 obtain⟨J,st,h,k⟩:=h;let D:=Gz C;have W:∀t∈D,t∈IW ops o:=λt z=>by obtain⟨p,X,rfl⟩:=GD z;obtain⟨d,e⟩:=hq p X;obtain d|⟨_,d⟩:=d;obtain⟨j,o',hj,q,s,_⟩:=x.r p d;exact Kl (vE.2 ⟨_,oQ q,by simp[s]⟩) e;obtain⟨j,o',hj,q,s,_⟩:=x.p p d;exact Kl (vE.2 ⟨_,oQ q,by simp[s]⟩) e
 refine⟨λb v w=>(y=true->b=true)/\∃a:Act,v=kg ops o a/\J (D.map λt=>a.eval (.tmp t)) w,⟨λ_ v a b ⟨h0,c,u,n⟩ A=>⟨h0,c,u,st _ _ _ n (M _ _ A)⟩,λv a b ⟨h0,c,u,n⟩ A=>⟨λ_=>rfl,c,u,st _ _ _ n (O (by cases y<;>simp_all) _ _ A)⟩⟩,λg b U hb B a w F A=>?_,_,k,λg B hi=>x.V5 B ho f λb a w hs=>?_⟩;obtain⟨Y,u,n,h3⟩:=xV (a:=a) (h w A) λp X=>by obtain⟨d,e⟩:=hq p X;obtain d|⟨Z,d⟩:=d;exact(pS G x B F e).2.1 p d rfl;exact(pS G x B F e).2.2 (hb Z).1 p d rfl
 have hF:xB N (Y++tX (zy ops.toList o) l (AN ops.toList o)) a:=by refine⟨F.size,λt v z=>?_⟩;obtain h|h:=Ej z;exact n t v h;exact tZ (λt hc v hv=>(pS G x B F hc).1 v hv) _ t v h
 refine kX hT hF u (λ_ _ h=>h.elim) (λV hw=>?_) λ_ _ h=>h.elim;obtain⟨hJ,aa⟩:=hw;rw[h3]at hJ;exact⟨_,by rw[f];rfl,aa,⟨λZ=>(hb Z).2,a,rfl,hJ⟩,rfl⟩;rw[hi]at hs;obtain⟨_,b,u,n⟩:=hs;have:(D.map λt=>b.eval (.tmp t))=D.map λt=>a.eval (.tmp t):=List.map_congr_left λt z=>(LU u (W t z)).symm;rw[this]at n;exact n
def OC(B:oT P T)(n:∀c a w,a.tmps.size=N->a.defers=a0.defers->pn c w->Q (.panic c) a w)(q:oB ops N m=true){i:Nat}{S:Nat->Bool->jD}{l:L}{y z:List (Nat×jD)}{C:List B4}{D:ew}{o:Oper}{A:jD->Prop}(r:Cons ops a0 i S l y z C)(U:ops[i]? =some o) (h:U8 P T pn E E' ops.toList w0 o D l y z A):∃R:jD,(∀v a b,R v a->E a b->R v b)/\A R/\
  (∀s:Nat->Bool->jD,(∀j,j<i->s j=S j)->∀a w,At ops a0 N i s false (qP o) a w->E w0 w->o.wp P a w (λF f=>∃v,F=a.put o.dst v/\E' w f/\R v f) Q):=by
 obtain⟨R,G,h,k⟩:=h;refine⟨R,G,k,λs u a w e H=>?_⟩;obtain⟨x,I,J,V⟩:=xV (a:=a) (h w H) λp d=>by obtain d|d:=ja.1 d;exact(pS q r u e (iG d).2).2.2 rfl p (iG d).1 rfl;exact(pS q r u e (iG d).2).2.1 p (iG d).1 rfl
 have K:xB N (x++tX (zy ops.toList o) l (AN ops.toList o)) a:=by refine⟨e.size,λt v M=>?_⟩;obtain h|h:=Ej M;exact J t v h;exact tZ (λt O v g=>(pS q r u e O).1 v g) _ t v h
 refine kX B K I (λv f g=>?_) (λ_ h=>h.elim) λc f h=>n c a f e.size e.defers h;exact⟨v,rfl,g.2,g.1⟩
def IZ{a:Act}{g d:Nat}(e:(ops[g]?).bind (·.dst)=some d)(b:a.eval (.tmp d)=.bool D):yielded ops a.tmps g=some D:=by
 rw[mR]at b;unfold yielded;rw[e];simp only[tv];cases c:a.tmps[d]? with
 |none=>rw[c]at b;simp[undef]at b
 |some x=>rw[c]at b;simp at b;subst b;rfl
def OD(ops:Array Oper)(i:Nat)(S:Nat->Bool->jD)(a:ew):Prop:=∀j∈a,∃o d,j<i/\ops[j]? =some o/\o.dst=some d/\∀u w,¬S j false u w
def OD.next{ops:Array Oper}{i:Nat}{S a:Nat->Bool->jD}{b:ew}(h:OD ops i S b)(c:∀j,j<i->a j=S j):OD ops (i+1) a b:=λj e=>by obtain⟨o,d,f,g,k,l⟩:=h j e;exact⟨o,d,by omega,g,k,by rw[c j f];exact l⟩
theorem mem_iff{n:Nat}:∀{l:ew},mem n l=true->n∈l
 |x::r,h=>by simp only[mem]at h;split at h;rename_i a;rw[jL a];exact gD;exact gG _ (mem_iff h)
def TY{l0:L}(aL:∀t v,lk l0 t=some v->a0.eval (.tmp t)=v)(hT:oT P T)(aB:∀c a w,a.tmps.size=N->a.defers=a0.defers->pn c w->Q (.panic c) a w)(hE:jd E)(ae:∀a b,E a b->E' a b)(hB:oB ops N m=true)(hK:∀l a w,rI a0.defers N l a->K l w->Q .normal a w):∀(r:List Oper) (i:Nat) (A:List Nat) (l:L) (M Z:List (Nat×jD)) (I:List B4) (lt:List Nat) (S:Nat->Bool->jD),(∀j,r[j]? =ops[i+j]?)->i+vv r=m->Cons ops a0 i S l M Z I->(∀j,Told E E' (S j))->OD ops i S lt->DW P T N pn E E' sp ops.toList w0 l0 K i r A l M Z I lt->
  ∃f:Nat->Bool->jD,(∀j,j<i->f j=S j)/\(∀j,Told E E' (f j))/\(∀j o,i<=j->j<m->ops[j]? =some o->pu E E' (λb w=>(b=true\/E w0 w)/\E' w0 w) sp P ops Q a0 N (λb j=>f j b) j o)/\tW (λb w=>(b=true\/E w0 w)/\E' w0 w) P ops Q a0 N m (λb j=>f j b):=by
 have aC:∀(b:Bool) (i:Nat) (S:Nat->Bool->jD) (l:L) (M Z:List (Nat×jD)) (I:List B4),i=m->Cons ops a0 i S l M Z I->∀a w,a.tmps.size=N->a.defers=a0.defers->(∀j,wrote ops j=false->a.eval (.tmp j)=a0.eval (.tmp j))->
  (∀i d,i<m->((ops[i]?).bind (·.dst))=some d->S i b (a.eval (.tmp d)) w)->(∀i o,i<m->ops[i]? =some o->o.dst=none->S i b (kg ops o a) w)->∀X:L->Prop,(zz M w λl'=>AO I l' w (X l'))->∃l',X l'/\rI a0.defers N (l'++l) a:=by
  rintro b i S l M Z I rfl B a w hz y hk hv ag X hf;obtain⟨l',h1,h2⟩:=AU (a:=a) hf λp hp=>by obtain⟨j,o,J,H,y,h⟩:=B.r p hp;exact h _ _ _ (hv j p.1 J (by rw[H];exact y))
  refine⟨l',xU h2 h1 (λp hp=>?_),⟨hz,λt v ht=>?_⟩,y⟩;obtain⟨j,o,J,H,y,h⟩:=B.j p hp;exact h _ _ _ (ag j o J H y);obtain h|h:=Ej ht;exact h2 t v h;obtain⟨hw,h⟩|⟨j,o,J,H,y,h⟩:=B.l t v h;rw[hk t hw];exact h;exact h _ _ _ (hv j t J (by rw[H];exact y))
 intro r;induction r with
 |nil=>
  intro i A l M Z I lt S hr hi B an G h;have ao:i=m:=by simpa[vv]using hi
  refine⟨S,λ_ _=>rfl,an,λj o h1 h2=>by omega,λb a w hz y hk hv ag he=>?_⟩;have aT:ops.size<=m:=by have:=hr 0;simp only[List.getElem?_nil,nT]at this;have:=Array.getElem?_eq_none_iff.1 this.symm;omega
  refine⟨λ_=>?_,λh=>by omega⟩;obtain⟨l',h1,hF⟩:=aC b i S l M Z I ao B a w hz y hk hv ag _ (h w he.2);exact hK _ a w hF h1
 |cons o r ih=>
  intro i A l M Z I lt S hr hi B an G h;have H:ops[i]? =some o:=(hr 0).symm;have aU:i<ops.size:=(ik.1 H).1;have aM:∀j,r[j]? =ops[i+1+j]? :=λj=>by have:=hr (j+1);simpa[sR,Nat.add_comm 1 j]using this
  unfold DW at h;split at h;rename_i ht;have ao:i=m:=by simpa[vv,ht]using hi
  refine⟨S,λ_ _=>rfl,an,λj o h1 h2=>by omega,λb a w hz y hk hv ag he=>⟨λh=>by omega,λ_=>?_⟩⟩;obtain⟨l',h1,hF⟩:=aC b i S l M Z I ao B a w hz y hk hv ag _ (h w he.2);have aD:o.dst=none/\o.guard=none:=by unfold IX at ht;split at ht;rename_i h1 h2;exact⟨h1,h2⟩;cases ht
  unfold wpOp;rw[<-ao,H];simp only[Region.wanted,aD.2,fF];refine .inl (kX hT hF.b h1 (λ_ _ h=>h.elim) (λO h'=>?_) λ_ _ h=>h.elim);rw[aD.1];exact hK _ a O hF h';rename_i ht;have aN:i+1+vv r=m:=by simp only[vv,ht]at hi;omega
  have aa:∀(R:Bool->jD) (ax:List Nat) (l':L) (ab ac:List (Nat×jD)) (ap:List B4) (aq:List Nat),Told E E' R->(∀f:Nat->Bool->jD,(∀j,j<i->f j=S j)->f i=R->Cons ops a0 (i+1) f l' ab ac ap)->(∀f:Nat->Bool->jD,(∀j,j<i->f j=S j)->f i=R->OD ops (i+1) f aq)->DW P T N pn E E' sp ops.toList w0 l0 K (i+1) r ax l' ab ac ap aq->
   (∀f:Nat->Bool->jD,(∀j,j<i->f j=S j)->f i=R->pu E E' (λb w=>(b=true\/E w0 w)/\E' w0 w) sp P ops Q a0 N (λb j=>f j b) i o)->
   ∃f:Nat->Bool->jD,(∀j,j<i->f j=S j)/\(∀j,Told E E' (f j))/\(∀j o,i<=j->j<m->ops[j]? =some o->pu E E' (λb w=>(b=true\/E w0 w)/\E' w0 w) sp P ops Q a0 N (λb j=>f j b) j o)/\tW (λb w=>(b=true\/E w0 w)/\E' w0 w) P ops Q a0 N m (λb j=>f j b):=by
   intro R ax l' ab ac ap aq hR af aE h' n;let S1:Nat->Bool->jD:=λj=>if j=i then R else S j
   have ay:∀j,j<i->S1 j=S j:=λj J=>by simp only[S1];rw[ez (by omega)]
   have ah:S1 i=R:=by show(if i=i then _ else _)=_;rw[eC rfl]
   obtain⟨f,h1,h2,h3,h4⟩:=ih (i+1) ax l' ab ac ap aq S1 aM aN (af S1 ay ah) (λj=>by simp only[S1];split;exact hR;exact an j) (aE S1 ay ah) h';have z:∀j,j<i->f j=S j:=λj J=>(h1 j (by omega)).trans (ay j J);refine⟨f,z,h2,λj o' J aO az=>?_,h4⟩;obtain rfl|J:=Nat.eq_or_lt_of_le J;rw[H]at az;obtain rfl:=eP az;exact n f z ((h1 i (by omega)).trans ah);exact h3 j o' J aO az
  split at h;rename_i ai;have ar:o.dst=none/\o.guard=none:=by unfold Ki at ai;split at ai;rename_i h1 h2;exact⟨h1,h2⟩;cases ai
  split at h;rename_i s;have s:=jL s;unfold runT at h;obtain⟨R,hR,n,p,h',af⟩:=CS (E:=E) (Q:=Q) (go:=λp=>DW P T N pn E E' sp ops.toList w0 l0 K (i+1) r A l (AT Z M) [] (p::I) lt) hT hB ae true (λ_ _ h=>h) (λh=>by cases h) (λp hp=>(ja.1 hp).elim (λh=>⟨.inr ⟨rfl,(iG h).1⟩,(iG h).2⟩) λh=>⟨.inl (iG h).1,(iG h).2⟩) B H ar.1 h;refine aa R A l (AT Z M) [] (p::I) lt hR (λf q hi=>(af f q hi).W7) (λf q _=>G.next q) h' λf z U b a w hb hz V hk hv he=>?_;obtain rfl:=hb (.inl s);have hs:=n f false true (λ_=>⟨rfl,rfl⟩) z a w ⟨hz,V,hk,hv⟩ (he.1.resolve_left (by simp));unfold wpOp;rw[H];simp only[Region.wanted,ar.2,fF];refine .inl ?_;simp only[eC s];rw[U];refine Oper.wp_mono (λa' O hx=>?_) hs;obtain⟨v,q1,q2,q3,q4⟩:=hx;exact⟨v,q1,q2,by simpa[s]using q3,λ_=>q4⟩;rename_i s;have s:=xF s;unfold U7 at h;obtain⟨R,hR,n,p,h',af⟩:=CS (E:=E) (Q:=Q) (go:=λp=>DW P T N pn E E' sp ops.toList w0 l0 K (i+1) r A l M Z (p::I) lt) hT hB ae false ae (λ_ _ _ h=>h) (λp hp=>⟨.inl (iG hp).1,(iG hp).2⟩) B H ar.1 h;refine aa R A l M Z (p::I) lt hR af (λf q _=>G.next q) h' λf z U b a w hb hz V hk hv he=>?_;have hs:=n f b b (λh=>by cases h) z a w ⟨hz,V,hk,hv⟩ he.2;unfold wpOp;rw[H];simp only[Region.wanted,ar.2,fF];refine .inl ?_;simp only[ez s];rw[U];refine Oper.wp_mono (λa' O hx=>?_) hs;obtain⟨v,q1,q2,q3,q4⟩:=hx;exact⟨v,q1,q2,by simpa[s]using q3,λ_=>q4⟩;rename_i aS;obtain⟨h,y⟩:=Ef h
  have aj:∀(A:List Nat) (l:L),Cons ops a0 i S l M Z I->(∀(f:Nat->Bool->jD) (b:Bool),(∀j,j<i->f j=S j)->∀a w,At ops a0 N i f b (qP o) a w->Region.wanted o (yielded ops a.tmps)=true)->GB P T N pn E E' ops.toList w0 i l0 o A l M Z (wS lt o) (tY ops.toList sp i) (λl' ab ac lb=>DW P T N pn E E' sp ops.toList w0 l0 K (i+1) r A l' ab ac I (IY lb i lt))->
   ∃f:Nat->Bool->jD,(∀j,j<i->f j=S j)/\(∀j,Told E E' (f j))/\(∀j o,i<=j->j<m->ops[j]? =some o->pu E E' (λb w=>(b=true\/E w0 w)/\E' w0 w) sp P ops Q a0 N (λb j=>f j b) j o)/\tW (λb w=>(b=true\/E w0 w)/\E' w0 w) P ops Q a0 N m (λb j=>f j b):=by
   intro A l B hw h;obtain⟨R,hR,n,l',ab,ac,aF,h',aG,af⟩:=OB (Q:=Q) hT aB hE ae hB aL B H h;let R1:Bool->jD:=λb v w=>o.dst=none\/R b v w;have aH:∀d,o.dst=some d->R1=R:=λd y=>by funext b v w;simp only[R1,y];simp
   refine aa R1 A l' ab ac I (IY aF i lt) ⟨λb v w O h e=>h.imp id λh=>hR.e b v w O h e,λv w O h e=>h.imp id λh=>hR.x v w O h e⟩ (λf q hi=>af f q λd y=>hi.trans (aH d y)) (λf q hi=>by
    cases aF with
    |false=>exact G.next q
    |true=>
     obtain⟨h1,h2⟩:=aG rfl;intro j J;obtain rfl|J:=gI.1 J;cases y:o.dst with
     |none=>unfold wS at h1;rw[y]at h1;cases h1
     |some d=>exact⟨o,d,Nat.lt_succ_self _,H,y,by rw[hi,aH d y];exact h2⟩
     exact G.next q j J) h' λf z U b a w hb hz V hk hv he=>?_
   have F:At ops a0 N i f b (qP o) a w:=⟨hz,V,hk,hv⟩
   have aP:wS lt o=true->b=true:=λau=>by
    unfold wS at au;split at au;obtain⟨e,ak,D⟩:=oC au;split at D;rename_i al;obtain⟨o2,d2,g1,g2,g3,g4⟩:=G _ (mem_iff D);have av:=hv e.on d2 (vE.2 ⟨e,by simpa using ak,by simp[al]⟩) (by rw[g2];exact g3);cases b with
    |true=>rfl
    |false=>
     simp only[z _ g1]at av;exact absurd av (g4 _ _)
    cases D
    cases au
   have aQ:tY ops.toList sp i=true->b=false/\E w0 w:=λC=>by
    skip
    have aR:∀{k j:Nat},Oz ops.toList k j=true->waits ops k j=true:=λ{k j} C=>by
     unfold Oz at C;unfold waits;rw[zN]at C;have hg:ops.toList[k]? =ops[k]? :=by simp
     rw[hg]at C;split at C;rename_i o2 aA;obtain⟨e,ak,D⟩:=oC C;rw[aA];split at D;rename_i al;exact vE.2 ⟨e,by simpa using ak,by simp[jL D,al]⟩;cases D;cases C
    have hw:S0 ops sp i:=by
     unfold tY at C;rw[zN]at C;have hg:ops.toList[sp]? =ops[sp]? :=by simp
     rw[hg]at C;split at C;rename_i o2 aA;obtain⟨e,ak,D⟩:=oC C;split at D;rename_i al;have aI:waits ops sp e.on=true:=by unfold waits;rw[aA];exact vE.2 ⟨e,by simpa using ak,by simp[al]⟩
     split at D;rename_i hx;rw[<-jL hx];exact .inl aI;exact .inr ⟨e.on,aI,aR D⟩;cases D;cases C
    exact⟨hb (.inr hw),he.1.resolve_left (by rw[hb (.inr hw)];simp)⟩
   have hs:=n f b aP z a w F aQ he.2;unfold wpOp;rw[H];simp only[hw f b z a w F,fF];refine .inl ?_;rw[U];refine Oper.wp_mono (λa' O hx=>?_) hs;obtain⟨v,q1,q2,q3⟩:=hx;have q5:if i=sp then E' w O else E w O:=by split;exact ae _ _ q2;exact q2
   have q6:R1 (b||decide (i=sp)) v O:=by by_cases e:i=sp;rw[hb (.inl e)]at q3;have:=hR.x v O O q3 (ae _ _ (hE.refl O));simpa[e,hb (.inl e)]using(Or.inr this:R1 true v O);simpa[e]using(Or.inr q3:R1 b v O)
   cases ad:o.dst with
   |none=>exact⟨kg ops o a,by rw[q1,ad];rfl,q5,.inl ad,λ_=>rfl⟩
   |some d=>exact⟨v,by rw[q1,ad],q5,q6,λh=>by cases h⟩
  have skip:∀(A:List Nat) (l:L),Cons ops a0 i S l M Z I->(∀(f:Nat->Bool->jD) (b:Bool),(∀j,j<i->f j=S j)->∀a w,At ops a0 N i f b (qP o) a w->Region.wanted o (yielded ops a.tmps)=false)->DW P T N pn E E' sp ops.toList w0 l0 K (i+1) r A (W.ins N o.dst undef l) M Z I lt->
   ∃f:Nat->Bool->jD,(∀j,j<i->f j=S j)/\(∀j,Told E E' (f j))/\(∀j o,i<=j->j<m->ops[j]? =some o->pu E E' (λb w=>(b=true\/E w0 w)/\E' w0 w) sp P ops Q a0 N (λb j=>f j b) j o)/\tW (λb w=>(b=true\/E w0 w)/\E' w0 w) P ops Q a0 N m (λb j=>f j b):=by
   intro A l B hw h';let R1:Bool->jD:=λ_ u _=>o.dst=none\/u=undef;refine aa R1 A _ M Z I lt ⟨λ_ _ _ _ h _=>h,λ_ _ _ h _=>h⟩ (λf q hi=>B.ins q H λd y b u w hu=>by rw[hi]at hu;obtain hu|hu:=hu;rw[y]at hu;cases hu;exact hu) (λf q _=>G.next q) h' λf z U b a w hb hz V hk hv he=>?_;have F:At ops a0 N i f b (qP o) a w:=⟨hz,V,hk,hv⟩;unfold wpOp;rw[H];simp only[hw f b z a w F,jE,gy];rw[U];have q5:if i=sp then E' w w else E w w:=by split;exact ae _ _ (hE.refl w);exact hE.refl w
   cases ad:o.dst with
   |none=>exact⟨kg ops o a,rfl,q5,.inl ad,λ_=>rfl⟩
   |some d=>exact⟨undef,rfl,q5,.inr rfl,λh=>by cases h⟩
  split at h;rename_i hg;split at h;rename_i s;have s:=jL s;obtain⟨R,hR,h',n⟩:=OC (Q:=Q) hT aB hB B H h
  refine aa (λb v w=>o.dst=none\/(b=true/\R v w)) A l _ [] I _ ⟨λb v w O h e=>h.imp (λh=>h) λh=>⟨h.1,hR _ _ _ h.2 e⟩,λv w O h _=>h.imp (λh=>h) λh=>by cases h.1⟩ (λf q hi=>B.W7.B5 q H λd y b u w hu=>by
   rw[hi]at hu;obtain hu|hu:=hu;rw[y]at hu;cases hu;exact hu.2) (λf q hi=>by
   intro j J;cases y:o.dst with
   |none=>rw[y]at J;cases J
   |some d=>
    rw[y]at J;obtain rfl:=gW.1 J;exact⟨o,d,Nat.lt_succ_self _,H,y,λu w hx=>by rw[hi]at hx;obtain hx|hx:=hx;rw[y]at hx;cases hx;cases hx.1⟩) h' λf z U b a w hb hz V hk hv he=>?_
  obtain rfl:=hb (.inl s);have hs:=n f z a w ⟨hz,V,hk,hv⟩ (he.1.resolve_left (by simp));unfold wpOp;rw[H];simp only[Region.wanted,hg,fF];refine .inl ?_;simp only[eC s];rw[U];refine Oper.wp_mono (λa' O hx=>?_) hs;obtain⟨v,q1,q2,q3⟩:=hx;cases ad:o.dst with
  |none=>exact⟨kg ops o a,by rw[q1,ad];rfl,q2,.inl rfl,λ_=>rfl⟩
  |some d=>exact⟨v,by rw[q1,ad],q2,.inr ⟨by simp[s],q3⟩,λh=>by cases h⟩
  exact aj A l B (λ_ _ _ _ _ _=>by simp[Region.wanted,hg]) h;rename_i g am hg;split at h;exact h.elim;rename_i d aJ;rw[pt]at aJ;have aK:(ops[g]?).bind (·.dst)=some d:=by simpa using aJ
  split at h;exact h.elim;rename_i aw;split at h;rename_i b hb;have hw:∀(f:Nat->Bool->jD) (Y:Bool),(∀j,j<i->f j=S j)->∀a w,At ops a0 N i f Y (qP o) a w->Region.wanted o (yielded ops a.tmps)=(b==am):=λf Y q a w F=>by have:=(pS hB B q F aw).1 _ hb;simp[Region.wanted,hg,IZ aK this]
  split at h;cases b<;>cases am<;>simp only at h;exact aj A l B (λf Y q a w F=>by rw[hw f Y q a w F];rfl) h;exact skip A l B (λf Y q a w F=>by rw[hw f Y q a w F];rfl) h;exact skip A l B (λf Y q a w F=>by rw[hw f Y q a w F];rfl) h;exact aj A l B (λf Y q a w F=>by rw[hw f Y q a w F];rfl) h;cases am<;>simp only at h<;>cases b;exact aj (d::A) ((d,.bool false)::l) (B.xT hb) (λf Y q a w F=>by rw[hw f Y q a w F];rfl) (h.2 rfl);exact skip (d::A) ((d,.bool true)::l) (B.xT hb) (λf Y q a w F=>by rw[hw f Y q a w F];rfl) (h.1 rfl);exact skip (d::A) ((d,.bool false)::l) (B.xT hb) (λf Y q a w F=>by rw[hw f Y q a w F];rfl) (h.2 rfl);exact aj (d::A) ((d,.bool true)::l) (B.xT hb) (λf Y q a w F=>by rw[hw f Y q a w F];rfl) (h.1 rfl);rename_i vs hb;exact skip A l B (λf Y q a w F=>by have:=tV aK ((pS hB B q F aw).1 _ hb);simp[Region.wanted,hg,this]) h;exact h.elim
def GF(F:oT P T)(q:∀c a w,a.tmps.size=N->a.defers=a0.defers->pn c w->Q (.panic c) a w)(s:jd E)(f:jd E')(g:∀a b,E a b->E' a b)(G:P.follows .mixedOrders=true){l:L}{id:Nat}(A:oB ops N m=true)(u:vv ops.toList=m)(y:xB N l a0)(H:∀l a w,rI a0.defers N l a->K l w->Q .normal a w) (h:DW P T N pn E E' sp ops.toList w0 l K 0 ops.toList [] (yO ops.toList l) [] [] [] []):(Code.region id ops true).wp P Q a0 w0:=by
 have drop:∀(l:L),∀t v,lk (yO ops.toList l) t=some v->wrote ops t=false/\lk l t=some v:=by
  intro l;induction l with
  |nil=>intro t v h;cases h
  |cons p r B=>
   intro t v h;simp only[yO]at h;split at h;rename_i d;obtain⟨C,n⟩:=B t v h;refine⟨C,?_⟩;simp only[lk];split;rename_i z;obtain rfl:=jL z;rw[uR,C]at d;cases d;exact n;rename_i d;simp only[lk]at h⊢;split at h;rename_i z;obtain rfl:=jL z;rw[uR]at d;exact⟨d,h⟩;exact B t v h
 obtain⟨S,_,n,I,J⟩:=TY (Q:=Q) (a0:=a0) (sp:=sp) y.at_ F q s g A H ops.toList 0 [] _ [] [] [] [] (λ_ _ _ _=>True) (λj=>by simp) (by simpa using u)
  ⟨λt v D=>.inl ⟨(drop l t v D).1,y.at_ t v (drop l t v D).2⟩,(λp d=>by cases d),(λp d=>by cases d),λp d=>by cases d⟩ (λ_=>⟨λ_ _ _ _ _ _=>trivial,λ_ _ _ _ _=>trivial⟩) (λj M=>by cases M) h
 refine zx (E:=E) (E':=E') (sp:=sp) (Rch:=λb w=>(b=true\/E w0 w)/\E' w0 w) G A ⟨λb i v w k=>(n i).e b v w k,λi v w k=>(n i).x v w k,λb w k h e=>⟨h.1.imp (λh=>h) λh=>s.trans _ _ _ h e,f.trans _ _ _ h.2 (g _ _ e)⟩,λw k h e=>⟨.inl rfl,f.trans _ _ _ h.2 e⟩⟩ ⟨.inr (s.drew _),f.drew _⟩ y.size (λi o O R=>I i o (iQ _) O R) J
end
def Va:List (Nat×ew):=[(24,[0,1,2,3,4,5,6]),(29,[0,1]),(56,[0,1]),(81,[0,1,2]),(84,[0,1,2]),(101,[0,1,2,3]),(121,[0,1,2]),(125,[0,1,2,3,4]),(141,[0,1,2]),(166,[0,1,2,3,4,7]),(173,[0,1,2,3,4]),(184,[0,1]),(186,[0,7,43,44,45]),(199,[0,1,2,3]),(207,[0,1,2,3]),(220,[0,1]),(245,[0,1,2,8]),(247,[0,1])]
def Rq:List (Nat×ew)->Nat->Nat->Option Nat
 |[],_,_=>none
 |p::r,S,i=>match Nat.beq p.1 S with
  |true=>nth p.2 i
  |false=>Rq r S i
def H7:BU:=⟨Rq Va⟩
noncomputable def Km(p:Nat×ew):Bool:=match Tryz.prog.underlying p.1 with
 |some (.struct a)=>(List.range p.2.length).all λi=>match nth p.2 i,a[i]? with
  |some d,some f=>f.offset==d&&(match Tryz.prog.info? f.type with
   |some x=>x.size !=0
   |none=>false)
  |_,_=>false
 |_=>false
def V6:Va.all Km=true:=by kernel_rfl
theorem GG:∀(l:List (Nat×ew)) (S i d:Nat),Rq l S i=some d->∃p∈l,p.1=S/\nth p.2 i=some d
 |p::r,S,i,d,h=>by simp only[Rq]at h;split at h;rename_i a;exact⟨p,gD,jL a,h⟩;obtain⟨q,b,c⟩:=GG r S i d h;exact⟨q,gG _ b,c⟩
theorem OE{a:Type}:∀{l:List a} {i:Nat} {d:a},nth l i=some d->i<l.length
 |_::_,0,_,_=>Nat.succ_pos _
 |_::r,n+1,_,h=>Nat.succ_lt_succ (OE (l:=r) h)
def jG{t:eD}{d:TypeDesc}(h:Tryz.prog.underlying t=some d)(w:er):Sem.run V.prog (underlying t) w=.ok d w:=by rw[V.xG];unfold underlying;rw[Sem.run_bind,run_program,Result.andThen_ok,h,Sem.run_pure]
def GH{t:eD}{x:TypeInfo}(h:Tryz.prog.info? t=some x)(w:er):Sem.run V.prog (typeInfo t) w=.ok x w:=by rw[V.Fq];unfold typeInfo;rw[Sem.run_bind,run_program,Result.andThen_ok,h,Sem.run_pure]
def I0{t:eD}{x:TypeInfo}(h:Tryz.prog.info? t=some x)(w:er):Sem.run V.prog (sizeOf t) w=.ok x.size w:=by unfold sizeOf;rw[Sem.run_bind,GH h,Result.andThen_ok,Sem.run_pure]
def OF{t:eD}{x:TypeInfo}{z:eu}(h:Tryz.prog.info? t=some x)(a:x.zero=some z)(w:er):Sem.run V.prog (zeroValue t) w=.ok z w:=by unfold zeroValue;rw[Sem.run_bind,GH h,Result.andThen_ok,a,Sem.run_pure]
def fu:oT V.prog H7:=⟨λS i d h b o w=>by
 obtain⟨p,l,rfl,k⟩:=GG _ _ _ _ h;have c:=mO.1 V6 p l;unfold Km at c;split at c;rename_i r m;have a:=mO.1 c i (fT.2 (OE k));rw[k]at a;split at a;rename_i s f e n;obtain rfl:=eP e;simp only[fE,pB]at a;obtain⟨rfl,g⟩:=a;split at g;rename_i x q;have j:x.size≠0:=by simpa using g
 unfold Instr.fieldAt;rw[Sem.run_bind,jG m,Result.andThen_ok];simp only[n,Instr.sureAddr,pure_bind,fieldPlace,Sem.run_bind,I0 q,Result.andThen_ok,ez j,Sem.run_pure];simp[Addr.add];cases g;cases a;cases c⟩
structure TI where
 kd:Nat
 sz:Nat
 es:Nat
 ln:Nat
def W8:List (Nat×TI):=[(3,⟨0,1,0,0⟩),(4,⟨0,1,0,0⟩),(22,⟨3,1,3,0⟩),(24,⟨1,7,0,0⟩),(25,⟨3,1,3,0⟩),(26,⟨3,1,2,0⟩),(27,⟨3,1,1,0⟩),(29,⟨1,2,0,0⟩),(31,⟨0,1,0,0⟩),(38,⟨0,1,0,0⟩),(43,⟨3,1,7,0⟩),(44,⟨3,1,1,0⟩),(45,⟨3,1,1,0⟩),(56,⟨1,2,0,0⟩),(60,⟨0,1,0,0⟩),(64,⟨3,1,1,0⟩),(66,⟨3,1,1,0⟩),(81,⟨1,3,0,0⟩),(84,⟨1,3,0,0⟩),(95,⟨3,1,4,0⟩),(101,⟨1,4,0,0⟩),(112,⟨0,1,0,0⟩),(117,⟨3,1,1,0⟩),(119,⟨0,1,0,0⟩),(121,⟨1,3,0,0⟩),(125,⟨1,5,0,0⟩),(133,⟨0,1,0,0⟩),(138,⟨0,1,0,0⟩),(139,⟨3,1,8,0⟩),(141,⟨1,3,0,0⟩),(154,⟨0,1,0,0⟩),(164,⟨2,3,1,3⟩),(166,⟨1,8,0,0⟩),(173,⟨1,5,0,0⟩),(178,⟨2,6,1,6⟩),(179,⟨2,36,6,6⟩),(180,⟨0,1,0,0⟩),(181,⟨0,1,0,0⟩),(182,⟨0,1,0,0⟩),(184,⟨1,2,0,0⟩),(186,⟨1,47,0,0⟩),(199,⟨1,4,0,0⟩),(200,⟨0,1,0,0⟩),(204,⟨2,6,1,6⟩),(205,⟨2,32,1,32⟩),(207,⟨1,35,0,0⟩),(209,⟨0,1,0,0⟩),(217,⟨2,5,1,5⟩),(220,⟨1,2,0,0⟩),(222,⟨3,1,1,0⟩),(225,⟨3,1,1,0⟩),(243,⟨0,1,0,0⟩),(245,⟨1,12,0,0⟩),(247,⟨1,5,0,0⟩),(248,⟨3,1,4,0⟩)]
def VH:List (Nat×TI)->Nat->Option TI
 |[],_=>none
 |p::r,S=>match Nat.beq p.1 S with
  |true=>some p.2
  |false=>VH r S
def ty(t:Nat):Option TI:=VH W8 t
noncomputable def AV(t n:Nat):Bool:=match Tryz.prog.info? t with
 |some x=>x.size==n
 |none=>false
noncomputable def UG(p:Nat×TI):Bool:=AV p.1 p.2.sz&&(match Tryz.prog.underlying p.1 with
 |some (.struct _)=>p.2.kd==1
 |some (.array n e)=>p.2.kd==2&&p.2.ln==n&&AV e p.2.es
 |some (.slice e)=>p.2.kd==3&&AV e p.2.es
 |some _=>p.2.kd==0
 |none=>false)
def V7:W8.all UG=true:=by kernel_rfl
theorem Ko:∀(l:List (Nat×TI)) (S:Nat) (d:TI),VH l S=some d->(S,d)∈l
 |p::r,S,d,h=>by simp only[VH]at h;split at h;rename_i a;obtain rfl:=jL a;obtain rfl:=eP h;exact gD;exact gG _ (Ko r S d h)
def Kp{t:Nat}{x:TI}(h:ty t=some x):UG (t,x)=true:=mO.1 V7 _ (Ko _ _ _ h)
def n9{t n:Nat}(h:AV t n=true)(w:er):Sem.run V.prog (sizeOf t) w=.ok n w:=by unfold AV at h;split at h;rename_i x a;rw[I0 a,pB.1 h];cases h
def Rr{t:Nat}{x:TI}(h:ty t=some x)(w:er):Sem.run V.prog (sizeOf t) w=.ok x.sz w:=by have:=Kp h;simp only[UG,fE]at this;exact n9 this.1 w
def TZ{t:Nat}{x:TI}(h:ty t=some x)(w:er):Sem.run V.prog (isAgg t) w=.ok (x.kd==1||x.kd==2) w:=by
 have:=Kp h;simp only[UG,fE]at this;have a:=this.2;unfold isAgg;cases b:Tryz.prog.underlying t with
 |none=>rw[b]at a;cases a
 |some d=>
  rw[b]at a;rw[Sem.run_bind,jG b,Result.andThen_ok];cases d<;>simp only[fE,pB]at a<;>simp[a]
def ue{t:Nat}{x:TI}(h:ty t=some x)(c:x.kd=3):∃e,Tryz.prog.underlying t=some (.slice e)/\AV e x.es=true:=by
 have:=Kp h;simp only[UG,fE]at this;have a:=this.2;cases b:Tryz.prog.underlying t with
 |none=>rw[b]at a;cases a
 |some d=>
  rw[b]at a;cases d<;>simp only[fE,pB]at a<;>first|(exfalso;omega)|skip
  exact⟨_,rfl,a.2⟩
def GI{t:Nat}{x:TI}(h:ty t=some x)(c:x.kd=2):∃e,Tryz.prog.underlying t=some (.array x.ln e)/\AV e x.es=true:=by
 have:=Kp h;simp only[UG,fE]at this;have a:=this.2;cases b:Tryz.prog.underlying t with
 |none=>rw[b]at a;cases a
 |some d=>
  rw[b]at a;cases d<;>simp only[fE,pB]at a<;>first|(exfalso;omega)|skip
  exact⟨_,by rw[a.1.2],a.2⟩
def zL:List (Nat×fD):=[(3,[.int .i64 0]),(24,[.int .i64 0,.int .i64 0,.int .i64 0,.int .i64 0,.int .i64 0,.int .i64 0,.slice none 0 0]),(27,[.slice none 0 0]),(29,[.int .i64 0,.slice none 0 0]),(31,[.nilFunc]),(56,[.int .i64 0,.int .i64 0]),(66,[.slice none 0 0]),(81,[.int .i64 0,.int .i64 0,.int .i64 0]),(84,[.int .i64 0,.int .i64 0,.bool false]),(101,[.int .i64 0,.int .i64 0,.bool false,.bool false]),(125,[.bool false,.int .i64 0,.int .i64 0,.slice none 0 0,.slice none 0 0]),(141,[.pointer none,.slice none 0 0,.int .i64 0]),(166,[.int .i64 0,.int .i64 0,.int .i64 0,.bool false,.bool false,.bool false,.bool false,.bool false]),(173,[.bool false,.int .i64 0,.int .i64 0,.int .i64 0,.int .i64 0]),(178,[.int .i64 0,.int .i64 0,.int .i64 0,.int .i64 0,.int .i64 0,.int .i64 0]),(186,[.int .i64 0,.int .i64 0,.int .i64 0,.int .i64 0,.int .i64 0,.int .i64 0,.slice none 0 0,.int .i64 0,.int .i64 0,.int .i64 0,.int .i64 0,.int .i64 0,.int .i64 0,.int .i64 0,.int .i64 0,.int .i64 0,.int .i64 0,.int .i64 0,.int .i64 0,.int .i64 0,.int .i64 0,.int .i64 0,.int .i64 0,.int .i64 0,.int .i64 0,.int .i64 0,.int .i64 0,.int .i64 0,.int .i64 0,.int .i64 0,.int .i64 0,.int .i64 0,.int .i64 0,.int .i64 0,.int .i64 0,.int .i64 0,.int .i64 0,.int .i64 0,.int .i64 0,.int .i64 0,.int .i64 0,.int .i64 0,.int .i64 0,.map none,.map none,.nilFunc,.nilFunc]),(199,[.slice none 0 0,.int .i64 0,.int .i64 0,.bool false]),(204,[.int .u8 0,.int .u8 0,.int .u8 0,.int .u8 0,.int .u8 0,.int .u8 0]),(209,[.nilFunc]),(217,[.bool false,.bool false,.bool false,.bool false,.bool false]),(220,[.slice none 0 0,.bool false]),(225,[.slice none 0 0]),(247,[.int .i64 0,.slice none 0 0,.int .i64 0,.int .i64 0,.bool false])]
def zG:List (Nat×fD)->Nat->Option fD
 |[],_=>none
 |p::r,S=>match Nat.beq p.1 S with
  |true=>some p.2
  |false=>zG r S
def zc(t:Nat):Option fD:=zG zL t
noncomputable def VI(t:Nat):Option eu:=(Tryz.prog.info? t).bind (·.zero)
def Xw:(zL.map λp=>(VI p.1).map (·.cells.toList))=zL.map λp=>some p.2:=by kernel_rfl
theorem S5:∀(l:List (Nat×fD)),(l.map λp=>(VI p.1).map (·.cells.toList))=(l.map λp=>some p.2)->∀t a,zG l t=some a->(VI t).map (·.cells.toList)=some a
 |p::r,h,t,a,b=>by simp only[lK,sM]at h;simp only[zG]at b;split at b;rename_i c;obtain rfl:=jL c;obtain rfl:=eP b;exact h.1;exact S5 r h.2 t a b
def T1{t:Nat}{b:fD}(h:zc t=some b):∃z,z.cells=b.toArray/\∀w,Sem.run V.prog (zeroValue t) w=.ok z w:=by
 have a:=S5 _ Xw t b h;unfold VI at a;cases c:Tryz.prog.info? t with
 |none=>rw[c]at a;cases a
 |some x=>
  rw[c]at a;simp only[tv]at a;cases d:x.zero with
  |none=>rw[d]at a;cases a
  |some z=>
   rw[d]at a;refine⟨z,?_,λw=>OF c d w⟩;have:=eP a;rw[<-this]
section
variable{w:er}{k:eu->er->Prop}{s:er->Prop}
def Rs(a b:Nat):(a==b)=Nat.beq a b:=by
 cases h:Nat.beq a b with
 |true=>simpa using jL h
 |false=>simpa using xF h
def I1(t:Nat):Option Bool:=match ty t with
 |some x=>match Nat.beq x.kd 1 with
  |true=>some true
  |false=>some (Nat.beq x.kd 2)
 |none=>none
def AW{t:Nat}{b:Bool}(h:I1 t=some b)(w:er):Sem.run V.prog (isAgg t) w=.ok b w:=by
 unfold I1 at h;split at h;rename_i x c;rw[TZ c];split at h;rename_i a;obtain rfl:=eP h;have:x.kd=1:=jL a;simp[this];rename_i a;obtain rfl:=eP h;have:x.kd≠1:=xF a;have e:(x.kd==1)=false:=by simpa using this
 rw[e,Bool.false_or,Rs];cases h
def S6(t:Nat):Option Nat:=match ty t with
 |some x=>some x.sz
 |none=>none
def Ek{t n:Nat}(h:S6 t=some n)(w:er):Sem.run V.prog (sizeOf t) w=.ok n w:=by unfold S6 at h;split at h;rename_i x a;obtain rfl:=eP h;exact Rr a w;cases h
def eH{t:eD}{v:eu}(c:w.cell? h=some v)(a:k v w)(b:I1 t=some false:=by rfl):lY V.prog (Instr.loadAt t (.pointer (some h))) w k:=by refine⟨v,w,?_,a⟩;simp only[Instr.loadAt,Instr.sureAddr,pure_bind,loadVar,Sem.run_bind,AW b,Result.andThen_ok,jE,gy];go_simp
def je(b o j:Nat):(⟨b,o,none⟩:Addr).add j=⟨b,o+j,none⟩:=by unfold Addr.add;split<;>simp_all
def iu{t:eD}{vs:fD}(a:∀j v,vs[j]? =some v->w.cell? ⟨i,o+j,none⟩=some v)(h:k (.agg vs.toArray) w)(b:I1 t=some true:=by rfl)(c:S6 t=some vs.length:=by rfl):
 lY V.prog (Instr.loadAt t (.pointer (some ⟨i,o,none⟩))) w k:=by
 refine⟨_,w,?_,h⟩;have d:=run_loadCells_list (P:=lS) w (eQ i o) vs λj v e=>by rw[je];exact a j v e
 simp only[Instr.loadAt,Instr.sureAddr,pure_bind,loadVar,Sem.run_bind,AW b,Ek c,Result.andThen_ok,fF,d,Sem.run_pure]
def jk(a:fZ)(o:Nat):fD->fZ
 |[]=>a
 |v::r=>jk (a.setIfInBounds o v) (o+1) r
theorem qz:∀(d:fD) (w:er) (b o:Nat) (a:fZ) (t:eD) (c:Nat×Nat),w.heap[b]? =some (.cells a t c)->(w.setCells b o d).heap[b]? =some (.cells (jk a o d) t c)
 |[],w,b,o,a,t,c,h=>h
 |v::r,w,b,o,a,t,c,h=>qz r (w.setCell (eQ b o) v) b (o+1) (a.setIfInBounds o v) t c (by simp[World.setCell,oP,h])
theorem mS:∀(c:fD) (w a:er) (b o:Nat),eY (λx=>x=b) a w->eY (λx=>x=b) a (w.setCells b o c)
 |[],_,_,_,_,h=>h
 |v::r,w,a,b,o,h=>mS r _ a b (o+1) (h.setCell _ _ λ_=>rfl)
def kY{t:eD}{v:eu}{a:fZ}{e:eD}(b:w.heap[i]? =some (.cells a e))(m:o+v.cells.size<=a.size)(h:∀c,eY (λx=>x=i) w c->c.heap[i]? =some (.cells (jk a o v.cells.toList) e)->s c)
 (g:∀u∈v.cells.toList,u.oneCell'=true:=by simp[Value.cells])(k:S6 t=some v.cells.size:=by rfl):H5 V.prog (Instr.storeAt t (.pointer (some ⟨i,o,none⟩)) v) w s:=by
 have l:=run_storeCells_cells (P:=lS) i o v.cells.toList 0 w (λj f=>by
  have d:o+0+j<a.size:=by
   have:j<v.cells.size:=by simpa using f
   omega
  simp only[World.cell?,b];simpa using d) (λj f=>by simp[World.frozen?,b]) g
 refine⟨_,?_,h (w.setCells i o v.cells.toList) (mS _ _ _ _ _ (eY.refl _ w)) (qz _ _ _ _ _ _ _ b)⟩;simp only[Instr.storeAt,Instr.sureAddr,pure_bind,storeVar,Sem.run_bind,Ek k,Result.andThen_ok,ne_eq,not_true_eq_false,gy];exact l
def tg:fD->Bool
 |[]=>true
 |v::r=>match v.oneCell' with
  |true=>tg r
  |false=>false
theorem iK:∀{l:fD},tg l=true->∀u∈l,u.oneCell'=true
 |v::r,h,u,a=>by simp only[tg]at h;split at h;rename_i b;obtain rfl|a:=gI.1 a;exact b;exact iK h u a;cases h
def fV{t:eD}{v:eu}{a:fZ}{c:eD}(d:w.heap[i]? =some (.cells a c))(h:∀b,eY (λx=>x=i) w b->b.heap[i]? =some (.cells (jk a o v.cells.toList) c)->s b)
 (e:Nat.ble (o+v.cells.size) a.size=true:=by rfl)(f:tg v.cells.toList=true:=by rfl)(g:S6 t=some v.cells.size:=by rfl):H5 V.prog (Instr.storeAt t (.pointer (some ⟨i,o,none⟩)) v) w s:=
 kY d (sS e) h (iK f) g
def xW(t:Nat):fD:=match zc t with
 |some a=>a
 |none=>[]
def V8(t:Nat):Bool:=match zc t with
 |some _=>true
 |none=>false
def ji{t:eD}(h:∀a b,Ext w a->w.heap.size<=b->a.heap[b]? =some (.cells (xW t).toArray t)->k (.pointer (some ⟨b,0,none⟩)) a)(c:V8 t=true:=by rfl):lY V.prog (Instr.alloc t true (.tuple #[])) w k:=by
 unfold V8 at c;cases d:zc t with
 |none=>rw[d]at c;cases c
 |some f=>
  have e:xW t=f:=by simp[xW,d]
  obtain⟨z,g,i⟩:=T1 d;rw[e]at h;refine⟨_,w.alloc (.cells f.toArray t),?_,h _ w.mN (Ext.alloc _ _) (eF _) (io _ _)⟩;simp only[Instr.alloc,Sem.run_bind,i,Result.andThen_ok,newVar,newRow,g];go_simp
def jx{t:eD}{v:eu}(h:∀a b,Ext w a->w.heap.size<=b->a.heap[b]? =some (.cells v.cells t)->k (.pointer (some ⟨b,0,none⟩)) a):lY V.prog (Instr.box t v) w k:=by refine⟨_,w.alloc (.cells v.cells t),?_,h _ w.mN (Ext.alloc _ _) (eF _) (io _ _)⟩;simp only[Instr.box,newVar,newRow];go_simp
def iV{t b o l c:Nat}(a g:Nat){i:Int}(q:a<l)(h:k (.pointer (some ⟨b,o+a*g,none⟩)) w)(j:i=(a:Nat):=by rfl)(m:ty t=some ⟨3,1,g,0⟩:=by rfl):lY V.prog (Instr.indexAt t (.slice (some ⟨b,o,none⟩) l c) (.int .i64 i)) w k:=by
 subst j;obtain⟨e,n,p⟩:=ue m rfl;refine⟨_,w,?_,h⟩;have d:(a:Int)<(l:Int):=by omega
 have f:(0:Int)<=(a:Int):=by omega
 unfold Instr.indexAt;simp only[asIntOf,pure_bind,Sem.run_bind,jG n,Result.andThen_ok,Sem.run_pure,f,d,and_self,fF,n9 p,sL,je]
def zP{t b o:Nat}(a f n:Nat){g:Int}(q:a<n)(h:k (.pointer (some ⟨b,o+a*f,none⟩)) w)(j:g=(a:Nat):=by rfl)(l:ty t=some ⟨2,i,f,n⟩:=by rfl):lY V.prog (Instr.indexAt t (.pointer (some ⟨b,o,none⟩)) (.int .i64 g)) w k:=by
 subst j;obtain⟨e,m,p⟩:=GI l rfl;refine⟨_,w,?_,h⟩;have c:(a:Int)<(n:Int):=by omega
 have d:(0:Int)<=(a:Int):=by omega
 unfold Instr.indexAt;simp only[asIntOf,Instr.sureAddr,pure_bind,Sem.run_bind,jG m,Result.andThen_ok,Sem.run_pure,d,c,and_self,fF,n9 p,sL,je]
def gN{t b o l c:Nat}(a:Nat){i:Int}(d:a<l)(h:k (.pointer (some ⟨b,o+a,none⟩)) w)(e:i=(a:Nat):=by rfl)(f:ty t=some ⟨3,1,1,0⟩:=by rfl):lY V.prog (Instr.indexAt t (.slice (some ⟨b,o,none⟩) l c) (.int .i64 i)) w k:=
 iV a 1 d (by rw[nZ];exact h) e f
def vS{t b o:Nat}(a n:Nat){i:Int}(c:a<n)(h:k (.pointer (some ⟨b,o+a,none⟩)) w)(d:i=(a:Nat):=by rfl)(e:ty t=some ⟨2,n,1,n⟩:=by rfl):lY V.prog (Instr.indexAt t (.pointer (some ⟨b,o,none⟩)) (.int .i64 i)) w k:=
 zP a 1 n c (by rw[nZ];exact h) d e
def fe{t b:eD}{c:Array Bool}(h:k (.int .i64 i) w)(d:ty b=some ⟨3,1,o,0⟩:=by rfl):zw V.prog (builtin .len #[b] t c #[.slice a i j]) w k:=by
 obtain⟨e,f,_⟩:=ue d rfl;refine⟨_,w,?_,h⟩;have g:Sem.run lS (Builtin.len_ #[b] t #[.slice a i j]) w=.ok (i64 i) w:=by unfold Builtin.len_;simp only[Cn,Ck,Sem.run_bind,jG f,Result.andThen_ok,Sem.run_pure];rfl
 unfold builtin;simp only[Sem.run_bind,g,Result.andThen_ok,Sem.run_pure]
def gT{b:Bool}(h:k (.bool (!b)) w):lY V.prog (Op.unary .not (.bool b)) w k:=⟨_,w,by go_simp,h⟩
section
variable{t:eD}{x y:fI}{m n:Int}{κ:IntKind}
def eK(h:k (.int .i64 (m+n)) w)(a: -9223372036854775808<=m+n/\m+n<=9223372036854775807:=by omega):lY V.prog (do eqGuard .add t x y (.int .i64 m) (.int .i64 n);binOp .add t (.int .i64 m) (.int .i64 n)) w k:=
 ⟨_,w,by go_simp;exact IntWalk.i64_in _ a,h⟩
def jP(h:k (.int .i64 (m-n)) w)(a: -9223372036854775808<=m-n/\m-n<=9223372036854775807:=by omega):lY V.prog (do eqGuard .sub t x y (.int .i64 m) (.int .i64 n);binOp .sub t (.int .i64 m) (.int .i64 n)) w k:=
 ⟨_,w,by go_simp;exact IntWalk.i64_in _ a,h⟩
def vT(h:k (.int .i64 (m*n)) w)(a: -9223372036854775808<=m*n/\m*n<=9223372036854775807:=by omega):lY V.prog (do eqGuard .mul t x y (.int .i64 m) (.int .i64 n);binOp .mul t (.int .i64 m) (.int .i64 n)) w k:=
 ⟨_,w,by go_simp;exact IntWalk.i64_in _ a,h⟩
def fO(h:k (.bool (decide (m<n))) w):lY V.prog (do eqGuard .lss t x y (.int κ m) (.int κ n);binOp .lss t (.int κ m) (.int κ n)) w k:=⟨_,w,by go_simp,h⟩
def CU(h:k (.bool (decide (m<=n))) w):lY V.prog (do eqGuard .leq t x y (.int κ m) (.int κ n);binOp .leq t (.int κ m) (.int κ n)) w k:=⟨_,w,by go_simp,h⟩
def vw(h:k (.bool (decide (n<m))) w):lY V.prog (do eqGuard .gtr t x y (.int κ m) (.int κ n);binOp .gtr t (.int κ m) (.int κ n)) w k:=⟨_,w,by go_simp,h⟩
def yP(h:k (.bool (decide (n<=m))) w):lY V.prog (do eqGuard .geq t x y (.int κ m) (.int κ n);binOp .geq t (.int κ m) (.int κ n)) w k:=⟨_,w,by go_simp,h⟩
def iL(h:k (.bool (decide (m=n))) w):lY V.prog (do eqGuard .eql t x y (.int κ m) (.int κ n);binOp .eql t (.int κ m) (.int κ n)) w k:=⟨_,w,by go_simp;rw[Bool.eq_iff_iff];simp,h⟩
def jS(h:k (.bool (decide (m≠n))) w):lY V.prog (do eqGuard .neq t x y (.int κ m) (.int κ n);binOp .neq t (.int κ m) (.int κ n)) w k:=⟨_,w,by go_simp;rw[Bool.eq_iff_iff];simp,h⟩
end
@[simp] def Xx (v:eu):one [v]=v:=rfl
@[simp] def Xy (u v:eu):one [u,v]=.tuple #[u,v]:=rfl
def xX{a:Array eD}{t:eD}{b:Array Bool}{m n:Int}(h:k (.int .i64 (max m n)) w):zw V.prog (builtin .max a t b #[.int .i64 m,.int .i64 n]) w k:=by
 refine⟨_,w,?_,h⟩;have c:Sem.run lS (Builtin.max_ a t #[i64 m,i64 n]) w=.ok (i64 (max m n)) w:=by unfold Builtin.max_;simp only[List.foldlM_cons,List.foldlM_nil,Builtin.max2,pure_bind,Sem.run_pure];congr 2;show(if n>m then n else m)=_;omega
 unfold builtin;simp only[Sem.run_bind,c,Result.andThen_ok,Sem.run_pure]
def wT{t:eD}(b:Nat){x:Int}(n:b<=j)(h:k (.slice a b j) w)(f:x=(b:Nat):=by rfl)(g:ty t=some ⟨3,1,o,0⟩:=by rfl):lY V.prog (Instr.sliceAt t (.slice a i j) none (some (.int .i64 x)) none) w k:=by
 subst f;obtain⟨e,l,m⟩:=ue g rfl;refine⟨_,w,?_,h⟩;have c:(b:Int)<=(j:Int):=by omega
 have d:(0:Int)<=(b:Int):=by omega
 unfold Instr.sliceAt Instr.slice;simp only[Sem.run_bind,jG l,Result.andThen_ok,Instr.sliceBounds,Instr.sliceBound,asIntOf,pure_bind,d,c,and_self,fF,Sem.run_pure,n9 m,sL,Nat.sub_zero];cases a<;>simp[Addr.add]
def jy(R:oz):Ending->fa:=λe w=>∃v,e=.returned v/\R v w
def eL{a:fD}{R:oz}{c:List PanicEntry->fa}(g:Calls V.prog K a.toArray w (jy R))(h:∀v b,R v b->k v b)(d:∀f w,Sem.run V.prog (callFunc K f) w=.ok (.enter K f) w:=by intro _ _;kernel_rfl):Rl V.prog K a w k c:=by refine⟨d,g.mono ?_⟩;rintro e b ⟨v,rfl,i⟩;exact h v b i
end
def fw{a:fD}{d:eu}{w:er}{k:oz}{b:List PanicEntry->fa}(g:Calls V.prog K a.toArray w (jy λv e=>v=d/\e=w))(h:k d w)(c:∀f w,Sem.run V.prog (callFunc K f) w=.ok (.enter K f) w:=by intro _ _;kernel_rfl):Rl V.prog K a w k b:=
 eL g (λv e i=>by obtain⟨rfl,rfl⟩:=i;exact h) c
def hH{a:fD}{v0:eu}{w:er}{k:oz}{c:List PanicEntry->fa}(g:Calls V.prog K a.toArray w (jy λv b=>v=v0/\Ext w b))(h:∀b,Ext w b->k v0 b)(d:∀f w,Sem.run V.prog (callFunc K f) w=.ok (.enter K f) w:=by intro _ _;kernel_rfl):Rl V.prog K a w k c:=
 eL g (λv b e=>by obtain⟨rfl,e⟩:=e;exact h _ e) d
def lq{b:Bool}{A B:Prop}(h:b=true)(k:A):(b=true->A)/\(b=false->B):=⟨λ_=>k,λa=>by rw[h]at a;cases a⟩
def nU{b:Bool}{A B:Prop}(h:b=false)(k:B):(b=true->A)/\(b=false->B):=⟨λa=>(by rw[h]at a;cases a),λ_=>k⟩
def gO{N b z c n:Nat}{A f B:Code}{l:L}{w:er}{Q:QW}(h:Nat->L)(J:Nat->fa)(C:Sub (h 0) l/\J 0 w)
 (r:∀k w,k<=n->J k w->WC V.prog H7 N A (λe q g=>e=.normal/\lk q c=some (.bool (decide ((k:Int)<(n:Int))))/\Sub (h k) q/\J k g) (h k) w)
 (i:∀k w,k<n->J k w->WC V.prog H7 N (.seq (.block z f) B) (λe q g=>match e with
  | .normal=>Sub (h (k+1)) q/\J (k+1) g
  |e=>lE b Q e q g) (h k) w)
 (s:∀w,J n w->Q .normal (h n) w):iq V.prog N (Code.block b (Code.loop (A.seq ((Code.cond (.tmp c) Code.skip (Code.exit b)).seq ((Code.block z f).seq B))))) l w Q:=by
 refine⟨λa u=>?_⟩;refine wp_block<|pd (λj a w=>∃k,k<=n/\j=n-k/\Fr N (h k) a/\J k w) n ⟨0,iQ _,by omega,u.sub C.1,C.2⟩ ?_;rintro j a w ⟨k,E,rfl,u,F⟩;refine mK (mY (kC fu _ _ _ a w u (r k w E F)) ?_);rintro e G g ⟨q,m,rfl,H,D,t⟩;refine mK (wp_cond_split (m.at_ c _ H) (λI=>?_) λK=>?_);have v:k<n:=by simpa using I
 refine wp_skip<|mY (kC fu _ _ _ G g (m.sub D) (i k g v t)) ?_;rintro e O P ⟨x,d,o⟩;cases e with
 |normal=>exact⟨n-(k+1),by omega,k+1,by omega,rfl,d.sub o.1,o.2⟩
 |exit j=>
  simp only[Exit.then,Exit.inBlock];by_cases p:j=b;subst p;rw[eC rfl];simp only[lE,yE]at o;exact⟨x,d,o⟩;rw[ez p];have:Nat.beq j b=false:=by
   cases M:Nat.beq j b with
   |false=>rfl
   |true=>exact absurd (jL M) p
  simp only[lE,this]at o;exact⟨x,d,o⟩
 |_=>exact⟨x,d,o⟩
 have y:k=n:=by
  have:¬k<n:=by simpa using K
  omega
 subst y;refine wp_exit ?_;simp only[Exit.then,Exit.inBlock,fF];exact⟨_,m.sub D,s g t⟩
def kZ{x:Type}{N b D c n:Nat}{E f F:Code}{l:L}{w:er}{Q:QW}(h:Nat->x->L)(J:Nat->x->fa)(y:x)(G:Sub (h 0 y) l/\J 0 y w)
 (r:∀k s w,k<=n->J k s w->WC V.prog H7 N E (λe p g=>e=.normal/\lk p c=some (.bool (decide ((k:Int)<(n:Int))))/\Sub (h k s) p/\J k s g) (h k s) w)
 (i:∀k s w,k<n->J k s w->WC V.prog H7 N (.seq (.block D f) F) (λe p g=>match e with
  | .normal=>∃v,Sub (h (k+1) v) p/\J (k+1) v g
  |e=>lE b Q e p g) (h k s) w)
 (t:∀s w,J n s w->Q .normal (h n s) w):iq V.prog N (Code.block b (Code.loop (E.seq ((Code.cond (Operand.tmp c) Code.skip (Code.exit b)).seq ((Code.block D f).seq F))))) l w Q:=by
 refine⟨λa z=>?_⟩;refine wp_block<|pd (λj a w=>∃k s,k<=n/\j=n-k/\Fr N (h k s) a/\J k s w) n ⟨0,y,iQ _,by omega,z.sub G.1,G.2⟩ ?_;rintro j a w ⟨k,s,I,rfl,z,K⟩;refine mK (mY (kC fu _ _ _ a w z (r k s w I K)) ?_);rintro e M g ⟨p,m,rfl,O,H,u⟩;refine mK (wp_cond_split (m.at_ c _ O) (λP=>?_) λR=>?_);have A:k<n:=by simpa using P
 refine wp_skip<|mY (kC fu _ _ _ M g (m.sub H) (i k s g A u)) ?_;rintro e W X ⟨B,d,q⟩;cases e with
 |normal=>
  obtain⟨v,S,T⟩:=q;exact⟨n-(k+1),by omega,k+1,v,by omega,rfl,d.sub S,T⟩
 |exit j=>
  simp only[Exit.then,Exit.inBlock];by_cases o:j=b;subst o;rw[eC rfl];simp only[lE,yE]at q;exact⟨B,d,q⟩;rw[ez o];have:Nat.beq j b=false:=by
   cases U:Nat.beq j b with
   |false=>rfl
   |true=>exact absurd (jL U) o
  simp only[lE,this]at q;exact⟨B,d,q⟩
 |_=>exact⟨B,d,q⟩
 have C:k=n:=by
  have:¬k<n:=by simpa using R
  omega
 subst C;refine wp_exit ?_;simp only[Exit.then,Exit.inBlock,fF];exact⟨_,m.sub H,t s g u⟩
def go{a:Func}{c:Code}{b:fZ}{w:er}{R:Ending->fa}(e:V.prog.funcs[K]? =some a)(f:a.ntmps=i)(h:WC V.prog H7 i c (QR V.prog a.results.toList R) (b.toList.zipIdx.map λp=>(p.2,p.1)) w)
 (g:a.body=some c:=by rfl)(d:Nat.ble b.toList.length i=true:=by rfl):Calls V.prog K b w R:=by
 have:=U6 fu (args:=b.toList) i e g f (sS d) h;simpa using this
def T2{a:Type}{b c:Array a}{v f:a}{n k:Nat}(h:c=b.setIfInBounds n v)(d:k≠n)(e:b[k]? =some f):c[k]? =some f:=by subst h;rw[gm (jb d)];exact e
def V.OG:V.prog.funcs=Tryz.prog.funcs.setIfInBounds 163 V.f163:=by kernel_rfl
def V.fn{k:Nat}{f:Func}(h:Tryz.prog.funcs[k]? =some f)(a:k≠163):V.prog.funcs[k]? =some f:=T2 V.OG a h
def jT{a:Func}{c:Code}{b:fZ}{w:er}{R:Ending->fa}(e:Tryz.prog.funcs[K]? =some a)(f:a.ntmps=i)(h:WC V.prog H7 i c (QR V.prog a.results.toList R) (b.toList.zipIdx.map λp=>(p.2,p.1)) w)
 (g:a.body=some c:=by rfl)(d:Nat.ble b.toList.length i=true:=by rfl)(j:K≠163:=by decide):Calls V.prog K b w R:=go (V.fn e j) f h g d
def I2{b:fZ}{w:er}{v:eu}{S:fa}(h:Calls V.prog K b w λe a=>e=.returned v/\S a):Calls V.prog K b w (jy λu a=>u=v/\S a):=h.mono λe a h=>⟨v,h.1,rfl,h.2⟩
def jy.same{a:fZ}{w:er}{v:eu}(h:Calls V.prog K a w (jy λu w'=>u=v/\w'=w)):Calls V.prog K a w (jy λu w'=>u=v/\Ext w w'):=h.mono λe w' ⟨v,h,b,c⟩=>⟨v,h,b,c▸Ext.refl _⟩
def kD{N id:Nat}{e:Array Oper}{l:L}{w:er}{Q:QW}{E g:er->fa}(n:Nat)(o:jd E)(i:jd g)(j:∀a b,E a b->g a b)(h:DW V.prog H7 N (λc k=>Q (.panic c) [] k) E g n e.toList w l (λl k=>Q .normal l k) 0 e.toList [] (yO e.toList l) [] [] [] [])(p:oB e N (vv e.toList)=true:=by kernel_rfl):
 iq V.prog N (.region id e true) l w Q:=
 ⟨λa m=>GF fu (λc a w q r s=>⟨[],⟨q,r.trans m.defers,λt v u=>by cases u⟩,s⟩) o i j (by kernel_rfl) p rfl m.b (λl y w f x=>⟨l,⟨f.b.size,f.d.trans m.defers,f.b.at_⟩,x⟩) h⟩
def fB{N id:Nat}{a:Array Oper}{l:L}{w:er}{Q:QW}{E:er->fa}(d:jd E)(h:DW V.prog H7 N (λc b=>Q (.panic c) [] b) E E 1000 a.toList w l (λl b=>Q .normal l b) 0 a.toList [] (yO a.toList l) [] [] [] [])(e:oB a N (vv a.toList)=true:=by kernel_rfl):
 iq V.prog N (.region id a true) l w Q:=kD 1000 d d (λ_ _ h=>h) h e
section
variable{E:er->er->Prop}{w:er}{kx:eu->Prop}{kr kp kl:jD->Prop}{lb ea:Bool}
def dx{s:Sem eu}(v:eu)(h:∀a,E w a->lY V.prog s a λu b=>u=v/\E a b)(k:kx v):AP E E w (λa κ=>lY V.prog s a κ) kx kr kp lb kl ea:=.exact v h k
def VJ{s:Sem Next}(v:eu)(h:∀a,E w a->zw V.prog s a λu b=>u=v/\E a b)(k:kx v):AP E E w (λa κ=>zw V.prog s a κ) kx kr kp lb kl ea:=.exact v h k
def pg{a:fD}{c:List PanicEntry->fa}(v:eu)(g:∀b,E w b->Calls V.prog K a.toArray b (jy λu i=>u=v/\E b i))(k:kx v)(d:∀f w,Sem.run V.prog (callFunc K f) w=.ok (.enter K f) w:=by intro _ _;kernel_rfl):AP E E w (λb κ=>Rl V.prog K a b κ c) kx kr kp lb kl ea:=
 .exact v (λb e=>eL (g b e) (λ_ _ h=>h) d) k
def kF{a:fD}{c:List PanicEntry->fa}(i:jd E)(v:eu)(j:∀b,E w b->Calls V.prog K a.toArray b (jy λu f=>u=v/\f=b))(k:kx v)(d:∀g w,Sem.run V.prog (callFunc K g) w=.ok (.enter K g) w:=by intro _ _;kernel_rfl):AP E E w (λb κ=>Rl V.prog K a b κ c) kx kr kp lb kl ea:=
 .exact v (λb e=>eL (j b e) (λu f h=>⟨h.1,by rw[h.2];exact i.refl _⟩) d) k
def eZ{t:eD}{v:eu}(b:w.cell? h=some v)(k:kx v)(c:I1 t=some false:=by rfl):AP Ext Ext w (λa κ=>lY V.prog (Instr.loadAt t (.pointer (some h))) a κ) kx kr kp lb kl ea:=
 dx v (λa e=>eH (e.cell b) iJ c) k
variable{t:eD}{x y:fI}{m n:Int}{κ:IntKind}
def uf{b:Bool}(h:kx (.bool (!b)))(c:jd E:=by first|exact fl|exact kJ _):AP E E w (λa f=>lY V.prog (Op.unary .not (.bool b)) a f) kx kr kp lb kl ea:=
 dx _ (λa _=>gT ⟨rfl,c.refl _⟩) h
def I3(h:kx (.int .i64 (m+n)))(b: -9223372036854775808<=m+n/\m+n<=9223372036854775807:=by omega)(c:jd E:=by first|exact fl|exact kJ _):AP E E w (λa f=>lY V.prog (do eqGuard .add t x y (.int .i64 m) (.int .i64 n);binOp .add t (.int .i64 m) (.int .i64 n)) a f) kx kr kp lb kl ea:=
 dx _ (λa _=>eK ⟨rfl,c.refl _⟩ b) h
def xY(h:kx (.int .i64 (m-n)))(b: -9223372036854775808<=m-n/\m-n<=9223372036854775807:=by omega)(c:jd E:=by first|exact fl|exact kJ _):AP E E w (λa f=>lY V.prog (do eqGuard .sub t x y (.int .i64 m) (.int .i64 n);binOp .sub t (.int .i64 m) (.int .i64 n)) a f) kx kr kp lb kl ea:=
 dx _ (λa _=>jP ⟨rfl,c.refl _⟩ b) h
def OH(h:kx (.int .i64 (m*n)))(b: -9223372036854775808<=m*n/\m*n<=9223372036854775807:=by omega)(c:jd E:=by first|exact fl|exact kJ _):AP E E w (λa f=>lY V.prog (do eqGuard .mul t x y (.int .i64 m) (.int .i64 n);binOp .mul t (.int .i64 m) (.int .i64 n)) a f) kx kr kp lb kl ea:=
 dx _ (λa _=>vT ⟨rfl,c.refl _⟩ b) h
def S7(h:kx (.bool (decide (m<n))))(b:jd E:=by first|exact fl|exact kJ _):AP E E w (λa f=>lY V.prog (do eqGuard .lss t x y (.int κ m) (.int κ n);binOp .lss t (.int κ m) (.int κ n)) a f) kx kr kp lb kl ea:=
 dx _ (λa _=>fO ⟨rfl,b.refl _⟩) h
def Vb(h:kx (.bool (decide (m<=n))))(b:jd E:=by first|exact fl|exact kJ _):AP E E w (λa f=>lY V.prog (do eqGuard .leq t x y (.int κ m) (.int κ n);binOp .leq t (.int κ m) (.int κ n)) a f) kx kr kp lb kl ea:=
 dx _ (λa _=>CU ⟨rfl,b.refl _⟩) h
def Kq(h:kx (.bool (decide (n<m))))(b:jd E:=by first|exact fl|exact kJ _):AP E E w (λa f=>lY V.prog (do eqGuard .gtr t x y (.int κ m) (.int κ n);binOp .gtr t (.int κ m) (.int κ n)) a f) kx kr kp lb kl ea:=
 dx _ (λa _=>vw ⟨rfl,b.refl _⟩) h
def Kr(h:kx (.bool (decide (m=n))))(b:jd E:=by first|exact fl|exact kJ _):AP E E w (λa f=>lY V.prog (do eqGuard .eql t x y (.int κ m) (.int κ n);binOp .eql t (.int κ m) (.int κ n)) a f) kx kr kp lb kl ea:=
 dx _ (λa _=>iL ⟨rfl,b.refl _⟩) h
def S8(h:kx (.bool (decide (m≠n))))(b:jd E:=by first|exact fl|exact kJ _):AP E E w (λa f=>lY V.prog (do eqGuard .neq t x y (.int κ m) (.int κ n);binOp .neq t (.int κ m) (.int κ n)) a f) kx kr kp lb kl ea:=
 dx _ (λa _=>jS ⟨rfl,b.refl _⟩) h
def oM{t b o l c:Nat}(a d:Nat){i:Int}(g:a<l)(h:kx (.pointer (some ⟨b,o+a*d,none⟩)))(j:i=(a:Nat):=by rfl)(k:ty t=some ⟨3,1,d,0⟩:=by rfl)(m:jd E:=by first|exact fl|exact kJ _):AP E E w (λe f=>lY V.prog (Instr.indexAt t (.slice (some ⟨b,o,none⟩) l c) (.int .i64 i)) e f) kx kr kp lb kl ea:=
 dx _ (λe _=>iV a d g ⟨rfl,m.refl _⟩ j k) h
def Ks{t b o:Nat}(a c n:Nat){d:Int}(g:a<n)(h:kx (.pointer (some ⟨b,o+a*c,none⟩)))(j:d=(a:Nat):=by rfl)(k:ty t=some ⟨2,i,c,n⟩:=by rfl)(l:jd E:=by first|exact fl|exact kJ _):AP E E w (λe f=>lY V.prog (Instr.indexAt t (.pointer (some ⟨b,o,none⟩)) (.int .i64 d)) e f) kx kr kp lb kl ea:=
 dx _ (λe _=>zP a c n g ⟨rfl,l.refl _⟩ j k) h
def sZ{t b o l c:Nat}(a:Nat){i:Int}(e:a<l)(h:kx (.pointer (some ⟨b,o+a,none⟩)))(g:i=(a:Nat):=by rfl)(j:ty t=some ⟨3,1,1,0⟩:=by rfl)(k:jd E:=by first|exact fl|exact kJ _):AP E E w (λd f=>lY V.prog (Instr.indexAt t (.slice (some ⟨b,o,none⟩) l c) (.int .i64 i)) d f) kx kr kp lb kl ea:=
 dx _ (λd _=>gN a e ⟨rfl,k.refl _⟩ g j) h
def rX{t b o:Nat}(a n:Nat){i:Int}(d:a<n)(h:kx (.pointer (some ⟨b,o+a,none⟩)))(e:i=(a:Nat):=by rfl)(g:ty t=some ⟨2,n,1,n⟩:=by rfl)(j:jd E:=by first|exact fl|exact kJ _):AP E E w (λc f=>lY V.prog (Instr.indexAt t (.pointer (some ⟨b,o,none⟩)) (.int .i64 i)) c f) kx kr kp lb kl ea:=
 dx _ (λc _=>vS a n d ⟨rfl,j.refl _⟩ e g) h
def od{t b:eD}{d:Array Bool}(h:kx (.int .i64 i))(e:ty b=some ⟨3,1,o,0⟩:=by rfl)(g:jd E:=by first|exact fl|exact kJ _):AP E E w (λc f=>zw V.prog (builtin .len #[b] t d #[.slice a i j]) c f) kx kr kp lb kl ea:=
 VJ _ (λc _=>fe ⟨rfl,g.refl _⟩ e) h
end
def oD(n a b:Int):Bool:=decide (a<=n)&&decide (n<=b)
def iv(n a b:Int)(w:er):Calls V.prog 106 #[.int .i64 n,.int .i64 a,.int .i64 b] w (jy λv c=>v=.bool (oD n a b)/\c=w):=by refine jT Tryz.func106 Tryz.ntmps106 ?_;refine CU ⟨λh=>CU ⟨_,rfl,?_,rfl⟩,λh=>⟨_,rfl,?_,rfl⟩⟩<;>simp[oD,h]
def H8(l:ew)(k:Nat):Nat:=if k=0 then 0 else l.getD (k-1) 0+1
def AX(W:Nat->Nat->Int)(l:ew):Nat->Int
 |0=>0
 |k+1=>AX W l k+W (H8 l k) (l.getD k 0+1)
def rY(W:Nat->Nat->Int)(l:ew):Int:=AX W l l.length+W (H8 l l.length) 0
def OI(h:∀d∈l,d<5)(k:Nat)(b:k<=l.length):H8 l k<6:=by
 unfold H8;split;omega;have a:k-1<l.length:=by omega
 have:=h _ (ft a);rw[kL,gC a];simp only[lT];omega
theorem Em{W:Nat->Nat->Int}(a:∀i j,0<=W i j/\W i j<=1000)(l:ew):∀k,0<=AX W l k/\AX W l k<=1000*k
 |0=>by simp[AX]
 |k+1=>by have b:=Em a l k;have c:=a (H8 l k) (l.getD k 0+1);simp only[AX];omega
def AY{W:Nat->Nat->Int}(a:∀i j,0<=W i j/\W i j<=1000)(l:ew):0<=rY W l/\rY W l<=1000*l.length+1000:=by have b:=Em a l l.length;have c:=a (H8 l l.length) 0;unfold rY;omega
def AZ(W:Nat->Nat->Int)(a:Int)(l:ew):Int:=rY W l+(l.length:Int)*a
def getD_eq{a:Type}{l:List a}{d:a}(h:k<l.length):l.getD k d=l[k]:=by rw[kL,gC h];rfl
def A0(m:Nat)(W:Nat->Nat->Int)(l:ew)(p:fR)(s:Nat)(w:er)(a:∀i j,i<6->j<6->w.cell? ⟨m,7+i*6+j,none⟩=some (.int .i64 (W i j)))(q:∀i j,0<=W i j/\W i j<=1000) (r:∀d∈l,d<5)(t:l.length<=100000)(f:∀k (h:k<l.length),∃b o,p=some ⟨b,o,none⟩/\w.cell? ⟨b,o+k,none⟩=some (.int .i64 l[k])):
 Calls V.prog 161 #[.pointer (some ⟨m,0,none⟩),.slice p l.length s] w (jy λv e=>v=.int .i64 (rY W l)/\e=w):=by
 have u:=Em q l;refine jT Tryz.func161 Tryz.ntmps161 ?_;refine fe (gO (n:=l.length) (λk=>[(0,fp m),(9,.slice p l.length s),(10,i64 l.length),(11,i64 k),(5,i64 (AX W l k)),(6,i64 (H8 l k))]) (λ_ e=>e=w) ?_ ?_ ?_ ?_);exact⟨by trivial,rfl⟩;rintro k e g rfl;exact fO ⟨rfl,rfl,by trivial,rfl⟩;rintro k e g rfl;obtain⟨b,o,rfl,y⟩:=f k g;have B:=r _ (ft g);have c:=OI r k (by omega);have z:=u k;have A:=q (H8 l k) (l[k]+1);refine gN k g (eH y (eK (zP (H8 l k) 6 6 c (vS (l[k]+1) 6 (by omega) (eH (a _ (l[k]+1) c (by omega)) (eK (eK (eK ?_))))))));have x:l.getD k 0=l[k]:=getD_eq g;refine⟨⟨rfl,rfl,rfl,rfl,?_,?_,trivial⟩,rfl⟩;show _=some (Value.int .i64 (AX W l k+W (H8 l k) (l.getD k 0+1)));rw[x];rfl;show _=some (Value.int .i64 ((l.getD k 0+1:Nat):Int));rw[x];rfl;rintro e rfl;have c:=OI r l.length (eF _);have z:=u l.length;have A:=q (H8 l l.length) 0;exact zP (H8 l l.length) 6 6 c (vS 0 6 (by omega) (eH (a _ 0 c (by omega)) (eK ⟨_,rfl,rfl,rfl⟩)))
def L1(m:Nat)(W:Nat->Nat->Int)(n:Int)(l:ew)(p:fR)(r:Nat)(w:er)(q:w.cell? ⟨m,2,none⟩=some (.int .i64 n))(a:∀i j,i<6->j<6->w.cell? ⟨m,7+i*6+j,none⟩=some (.int .i64 (W i j)))(s:∀i j,0<=W i j/\W i j<=1000) (y:∀d∈l,d<5)(c:l.length<=100000)(f:∀k (h:k<l.length),∃b o,p=some ⟨b,o,none⟩/\w.cell? ⟨b,o+k,none⟩=some (.int .i64 l[k]))(g:0<=n/\n<=1000):
 Calls V.prog 114 #[.pointer (some ⟨m,0,none⟩),.slice p l.length r] w (jy λv z=>v=.int .i64 (AZ W n l)/\Ext w z):=by
 have t:=AY s l;have u:=Int.mul_le_mul_of_nonneg_left g.2 (Int.natCast_nonneg l.length);have C:=Ci (Int.natCast_nonneg l.length) g.1;refine jT Tryz.func114 Tryz.ntmps114 ?_;refine fB fl ?_;refine kF fl _ (λx e=>A0 m W l p r x (λi j A B=>e.cell (a i j A B)) s y c λk h=>by obtain⟨b,o,t,u⟩:=f k h;exact⟨b,o,t,e.cell u⟩) (od (eZ q (OH (I3 λx e=>⟨_,rfl,rfl,e⟩))))
def qj(a b:Int):Int:=max (a-b) (b-a)
def Kt(a b:Int)(w:er)(d:0<=a/\a<=1000000)(e:0<=b/\b<=1000000):Calls V.prog 178 #[.int .i64 a,.int .i64 b] w (jy λv c=>v=.int .i64 (qj a b)/\c=w):=by refine jT Tryz.func178 Tryz.ntmps178 ?_;exact jP (jP (xX ⟨_,rfl,rfl,rfl⟩))
def I4(b:Nat)(n T:Int)(w:er)(a:w.cell? ⟨b,5,none⟩=some (.int .i64 T)):Calls V.prog 179 #[.int .i64 n,.pointer (some ⟨b,0,none⟩)] w (jy λv c=>v=.bool (decide (T<=n))/\c=w):=by refine jT Tryz.func179 Tryz.ntmps179 ?_;exact eH a (yP ⟨_,rfl,rfl,rfl⟩)
def I5(b:Nat)(m n T:Int)(w:er)(c:w.cell? ⟨b,5,none⟩=some (.int .i64 T)):Calls V.prog 180 #[.int .i64 m,.int .i64 n,.pointer (some ⟨b,0,none⟩)] w (jy λv d=>v=.bool (decide (T<2)||(decide (0<m)&&decide (0<n)))/\d=w):=by refine jT Tryz.func180 Tryz.ntmps180 ?_;refine eH c (fO ⟨λh=>?_,λh=>?_⟩);exact⟨_,rfl,by simp[h],rfl⟩;refine vw ⟨λa=>vw ⟨_,rfl,by simp[h,a],rfl⟩,λa=>⟨_,rfl,by simp[h,a],rfl⟩⟩
def OJ(a:Nat)(D:Int)(w:er)(b:w.cell? ⟨a,4,none⟩=some (.int .i64 D))(d:0<=D/\D<=1000):Calls V.prog 107 #[.pointer (some ⟨a,0,none⟩)] w (jy λv c=>v=.int .i64 (2*D-1)/\c=w):=by refine jT Tryz.func107 Tryz.ntmps107 ?_;exact eH b (vT (jP ⟨_,rfl,rfl,rfl⟩))
def nz(w:er)(a:fR)(l:iA):Prop:=∀k (h:k<l.length),∃b o,a=some ⟨b,o,none⟩/\w.cell? ⟨b,o+k,none⟩=some (.int .i64 l[k])
def nz.ext{l:iA}(h:nz w a l)(e:Ext w t):nz t a l:=λk c=>by obtain⟨b,o,d,f⟩:=h k c;exact⟨b,o,d,e.cell f⟩
theorem nz.take{l:iA}(h:nz w a l)(i:Nat):nz w a (l.take i):=λk d=>by
 have c:k<l.length:=by simp at d;omega
 obtain⟨b,o,e,f⟩:=h k c;exact⟨b,o,e,by rw[f];simp⟩
def B6(x:Int):iA->Nat->Int
 |[],_=> -1
 |y::r,i=>if x=y then i else B6 x r (i+1)
def L3(x:Int)(l:iA)(k:Nat)(a:k<l.length):B6 x (l.drop k) k=if x=l[k]then(k:Int)else B6 x (l.drop (k+1)) (k+1):=by rw[qZ a];rfl
def L4(l:iA)(x:Int)(e:fR)(f:Nat)(w:er)(i:nz w e l)(g:l.length<=100000):Calls V.prog 176 #[.slice e l.length f,.int .i64 x] w (jy λv c=>v=.int .i64 (B6 x l 0)/\c=w):=by
 refine jT Tryz.func176 Tryz.ntmps176 ?_;refine fe (gO (n:=l.length) (λk=>[(0,.slice e l.length f),(1,i64 x),(7,i64 l.length),(8,i64 k)]) (λk c=>c=w/\B6 x l 0=B6 x (l.drop k) k) ⟨by trivial,rfl,rfl⟩ ?_ ?_ ?_);rintro k c d ⟨rfl,a⟩;exact fO ⟨rfl,rfl,by trivial,rfl,a⟩;rintro k c d ⟨rfl,a⟩;obtain⟨b,o,rfl,j⟩:=i k d;rw[L3 x l k d]at a;refine gN k d (eH j (iL ⟨λh=>?_,λh=>?_⟩));have h:x=l[k]:=by simpa using h
 exact⟨_,rfl,by rw[a,eC h];rfl,rfl⟩;have h:¬x=l[k]:=by simpa using h
 rw[ez h]at a;exact eK ⟨by trivial,rfl,a⟩;rintro c ⟨rfl,a⟩;exact⟨_,rfl,by rw[a];simp[B6],rfl⟩
structure Dr where
 st:Int
 at_:Int
 talk:Int
structure Gd where
 streets:Int
 corner:Int
 knock:Int
 minutes:Int
 days:Int
 tries:Int
 doors:List Dr
def dL(d:Dr):fD:=[.int .i64 d.st,.int .i64 d.at_,.int .i64 d.talk]
def lM(w:er)(a:fR)(l:List Dr):Prop:=∀k (h:k<l.length),∃b o,a=some ⟨b,o,none⟩/\w.cell? ⟨b,o+k*3,none⟩=some (.int .i64 l[k].st)/\w.cell? ⟨b,o+k*3+1,none⟩=some (.int .i64 l[k].at_)/\w.cell? ⟨b,o+k*3+2,none⟩=some (.int .i64 l[k].talk)
def lM.ext{l:List Dr}(h:lM w a l)(e:Ext w t):lM t a l:=λk c=>by obtain⟨b,o,d,f,g,i⟩:=h k c;exact⟨b,o,d,e.cell f,e.cell g,e.cell i⟩
def gL(G:Gd)(a:fR)(b:Nat):fD:=[.int .i64 G.streets,.int .i64 G.corner,.int .i64 G.knock,.int .i64 G.minutes,.int .i64 G.days,.int .i64 G.tries,.slice a G.doors.length b]
def gV(G:Gd)(a:fR)(b:Nat):eu:=.agg (gL G a b).toArray
def oV(G:Gd):Bool:=oD G.streets 1 3&&(oD G.corner 1 9&&(oD G.knock 1 5&&(oD G.minutes 1 90&&(oD G.days 1 3&&oD G.tries 1 G.days))))
def ug(n:Int)(d:Dr):Int:=if oD d.st 0 (n-1)then(if oD d.at_ 0 20&&oD d.talk 1 9 then 0 else 1)else 3
def pT(n:Int):List Dr->Int
 |[]=>0
 |d::r=>if ug n d=0 then pT n r else ug n d
def ij(G:Gd):Int:=if oV G then(if(5:Int)<G.doors.length then 6 else pT G.streets G.doors)else 1
def GJ(n:Int)(l:List Dr)(k:Nat)(a:k<l.length):pT n (l.drop k)=if ug n l[k]=0 then pT n (l.drop (k+1))else ug n l[k]:=by rw[qZ a];rfl
def L5(G:Gd)(t:fR)(D:Nat)(w:er)(H:lM w t G.doors)(E:G.doors.length<=100000):Calls V.prog 146 #[gV G t D] w (jy λv m=>v=.int .i64 (ij G)/\Ext w m):=by
 refine jT Tryz.func146 Tryz.ntmps146 ?_;refine jx λu I f J c=>?_;have a:∀{b:Bool},oV G=false->∃v,Ending.returned (one [Value.int .i64 1])=.returned v/\v=Value.int .i64 (ij G)/\Ext w u:=λh=>⟨_,rfl,by simp[ij,h],f⟩;refine eH (eB c rfl) (fw (iv _ _ _ _) (gT ⟨λh=>lq h (a (b:=true) (by simp at h;simp[oV,h])),λg=>?_⟩));refine eH (eB c rfl) (fw (iv _ _ _ _) (gT ⟨λh=>lq h (a (b:=true) (by simp at h;simp[oV,h])),λq=>?_⟩));refine eH (eB c rfl) (fw (iv _ _ _ _) (gT ⟨λh=>lq h (a (b:=true) (by simp at h;simp[oV,h])),λr=>?_⟩));refine eH (eB c rfl) (fw (iv _ _ _ _) (gT ⟨λh=>lq h (a (b:=true) (by simp at h;simp[oV,h])),λK=>?_⟩));refine eH (eB c rfl) (fw (iv _ _ _ _) (gT ⟨λh=>lq h (a (b:=true) (by simp at h;simp[oV,h])),λL=>?_⟩));refine eH (eB c rfl) (eH (eB c rfl) (fw (iv _ _ _ _) (gT ⟨λh=>(a (b:=true) (by simp at h;simp[oV,h])),λM=>?_⟩)));have S: -1000000<=G.streets/\G.streets<=1000000:=by simp[oD]at g;omega
 have F:oV G=true:=by simp at g q r K L M;simp[oV, *]
 refine eH (eB c rfl) (fe (vw ⟨λh=>⟨_,rfl,by simp at h;simp[ij,F,h],f⟩,λx=>?_⟩));have x:¬(5:Int)<G.doors.jK:=by simpa using x
 have y:ij G=pT G.streets G.doors:=by simp[ij,F,x]
 refine eH (eB c rfl) (fe (gO (n:=G.doors.jK) (λk=>[(1,fp I),(38,.slice t G.doors.jK D),(39,i64 G.doors.jK),(40,i64 k)]) (λk m=>Ext u m/\ij G=pT G.streets (G.doors.drop k)) ⟨by trivial,Ext.refl _,by rw[y];rfl⟩ ?_ ?_ ?_));rintro k m s ⟨e,d⟩;exact fO ⟨rfl,rfl,by trivial,e,d⟩;rintro k m s ⟨e,d⟩;obtain⟨b,o,rfl,N,z,O⟩:=(H.ext (f.trans e)) k s;rw[GJ _ _ k s]at d;refine iV k 3 s (iu (vs:=dL G.doors[k]) (λj v i=>?_) (ji λT U P A B=>fV B λQ R l=>?_));match j,i with
 |0,i=>cases i;exact N
 |1,i=>cases i;exact z
 |2,i=>cases i;exact O
 have p:Ext u Q:=(e.trans P).eR R (ff e.size A);have C:=p.at_ c;refine eH (eB l rfl) (eH (eB C rfl) (jP (fw (iv _ _ _ _) (gT ⟨λh=>?_,λg=>?_⟩))));exact⟨_,rfl,by simp at h;rw[d];simp[ug,h],f.trans p⟩;simp at g;refine eH (eB l rfl) (fw (iv _ _ _ _) (gT ⟨λh=>lq h ?_,λq=>?_⟩));exact⟨_,rfl,by simp at h;rw[d];simp[ug,g,h],f.trans p⟩;simp at q;refine eH (eB l rfl) (fw (iv _ _ _ _) (gT ⟨λh=>?_,λr=>?_⟩));exact⟨_,rfl,by simp at h;rw[d];simp[ug,g,h],f.trans p⟩;simp at r;exact eK ⟨by trivial,p,by rw[d];simp[ug,g,q,r]⟩;rintro m ⟨e,d⟩;exact⟨_,rfl,by rw[d];simp[pT],f.trans e⟩
section
variable{w:er}{k:eu->er->Prop}
def S9(h:∀a b,Ext w a->w.heap.size<=b->a.heap[b]? =some (.map #[] 0)->k (.map (some b)) a):lY V.prog (Instr.makeMap T none) w k:=
 ⟨_,_,run_makeMap T w,h _ w.mN (Ext.alloc _ _) (eF _) (io _ _)⟩
def gK{s:Sem eu}(v:eu)(h:k v w)(a:∀w,Sem.run V.prog s w=.ok v w:=by intro _;kernel_rfl):lY V.prog s w k:=⟨v,w,a w,h⟩
def ie{a:Array (Nat×eu)}(d:fD)(e:eD)(h:∀b c,Ext w b->w.heap.size<=c->b.heap[c]? =some (.cells d.toArray e)->k (.slice (some ⟨c,0,none⟩) m m) b)
 (f:∀w,Sem.run V.prog (Instr.buildSlice T m a) w=.ok (.slice (some ⟨w.heap.size,0,none⟩) m m) (w.alloc (.cells d.toArray e)):=by intro _;kernel_rfl):lY V.prog (Instr.buildSlice T m a) w k:=
 ⟨_,_,f w,h _ w.mN (Ext.alloc _ _) (eF _) (io _ _)⟩
def GK(b e:eD)(a:fD):Prop:=V.prog.underlying b=some (.slice e)/\∃i z,V.prog.info? e=some i/\i.zero=some z/\z.cells=a.toArray/\i.size=a.length/\i.bytes<=256/\0<a.length
def T3:GK 22 81 [.int .i64 0,.int .i64 0,.int .i64 0]:=⟨by kernel_rfl,Tryz.t81,_,by kernel_rfl,rfl,by kernel_rfl,by kernel_rfl,by decide+kernel,by decide⟩
def vk:GK 27 3 [.int .i64 0]:=⟨by kernel_rfl,Tryz.t3,_,by kernel_rfl,rfl,by kernel_rfl,by kernel_rfl,by decide+kernel,by decide⟩
def OK:GK 66 27 [.slice none 0 0]:=⟨by kernel_rfl,Tryz.t27,_,by kernel_rfl,rfl,by kernel_rfl,by kernel_rfl,by decide+kernel,by decide⟩
def I6{e:eD}{l:fD}{q:Array Bool}(r:GK T e l){v:eu}{o:fD}(s:fc i e l w v j o)(n:i<=w.heap.size){m c:Nat}{news:fD}(t:news.length=m*l.length)(x:0<m) (a:∀p u,news[p]? =some u->w.cell? (h.add p)=some u)(y:∀u∈news,u.oneCell'=true)(g:j+m<=1000000) (A:∀d f,fc i e l f d (j+m) (o++news)->eY (eG v) w f->(∀b,eG d b->eG v b\/w.heap.size<=b)->k d f):zw V.prog (builtin .append #[T,T] U q #[v,.slice (some h) m c]) w k:=by obtain⟨B,M,z,C,D,E,F,G,H⟩:=r;obtain⟨d,f,I,J,K,L⟩:=IV (ty:=U) B C D E F G H s n (c:=c) t x a y g;refine⟨d,f,?_,A d f J K L⟩;unfold builtin;simp only[Sem.run_bind,I,Result.andThen_ok,Sem.run_pure]
def kP{e:eD}{c:fD}{n:Array Bool}(p:GK T e c){v:eu}{l:fD}(h:fc m e c w v i l)(d:m<=w.heap.size){a:fD}{q:eD}(r:w.heap[j]? =some (.cells a.toArray q))(b:i+1<=1000000)
 (s:∀f g,fc m e c g f (i+1) (l++a)->eY (eG v) w g->(∀j,eG f j->eG v j\/w.heap.size<=j)->k f g)(t:Nat.beq a.length c.length=true:=by rfl)(x:tg a=true:=by rfl):zw V.prog (builtin .append #[T,T] U n #[v,.slice (some ⟨j,0,none⟩) 1 o]) w k:=
 I6 p h d (by rw[Nat.one_mul];exact jL t) (by omega) (λz u y=>by rw[je,eJ];exact eB r (by simpa using y)) (iK x) b s
def zQ{e:eD}{f:fD}{g:Array Bool}(l:GK T e f){b:fR}(n:m<=i)(h:k (.slice a m i) w):zw V.prog (builtin .append #[T,T] U g #[.slice a m i,.slice b 0 j]) w k:=by
 obtain⟨c,o,z,d,r,s,t,u,v⟩:=l;refine⟨_,w,?_,h⟩;rw[V.vt]at c;rw[V.JW]at d;have p:Sem.run lS (sizeOf e) w=.ok o.size w:=I0 d w;have q:Sem.run lS (Builtin.append_ #[T,T] U #[.slice a m i,.slice b 0 j]) w=.ok (.slice a m i) w:=by unfold Builtin.append_;simp only[Cn,Ck,Cj,Sem.run_bind,jG c,Result.andThen_ok,p,Sem.run_pure];simp only[jE,gy,Builtin.lenOf,Sem.run_pure,Result.andThen_ok,nT,n,fF,Bool.not_false];cases b<;>cases a<;>simp[Builtin.firstCells,loadCells,loadCellsFrom,storeCells,Sem.run_bind,Sem.run_pure]<;>(intro h;omega)
 unfold builtin;simp only[Sem.run_bind,q,Result.andThen_ok,Sem.run_pure]
end
end Go.Proofs.W
variable{H N:Go.Proofs.W.Gd}
namespace Go.Proofs.W
open Go.RowKit
def gu(G:Gd):List Dr:=⟨0,0,0⟩::G.doors
def B7(c:Int)(a b:Dr):Int:=if a.st=b.st then qj a.at_ b.at_ else a.at_+b.at_+c*qj a.st b.st
def qk(G:Gd)(i j:Nat):Int:=match(gu G)[i]?,(gu G)[j]? with
 |some a,some b=>B7 G.corner a b
 |_,_=>0
def Tb(f a:Nat):eu:=.func (.func f) #[] #[.pointer (some ⟨a,0,none⟩)]
def GO(G:Gd)(a:fR)(dc mk ms:Nat)(b c:eu)(f:Nat->Nat->Int)(j:Nat):eu:=
 if j<7 then(gL G a dc).getD j undef else if j<43 then .int .i64 (f ((j-7)/6) ((j-7)%6))else if j=43 then .map (some mk)else if j=44 then .map (some ms)else if j=45 then b else c
structure pU(gp:Nat)(C:Nat->eu)(w:er):Prop where
 out:∃cs,w.heap[gp]? =some (.cells cs 186)/\cs.size=47/\∀j,j<47->cs[j]? =some (C j)
def pU.cell{C:Nat->eu}(h:pU m C w)(j:Nat)(a:j<47:=by omega):w.cell? ⟨m,j,none⟩=some (C j):=by obtain⟨d,b,e,c⟩:=h.out;exact eB b (c j a)
def pU.ext{C:Nat->eu}(h:pU m C w)(e:Ext w t):pU m C t:=by obtain⟨a,b,c,d⟩:=h.out;exact⟨a,e.at_ b,c,d⟩
def pU.mono{C a:Nat->eu}(h:pU m C w)(e:∀j,j<47->C j=a j):pU m a w:=by obtain⟨c,d,f,g⟩:=h.out;exact⟨c,d,f,λj b=>by rw[g j b,e j b]⟩
theorem nd:∀(b:fD) (a:fZ) (o j:Nat),o+b.length<=a.size->(jk a o b)[j]? =if o<=j/\j<o+b.length then b[j-o]? else a[j]?
 |[],a,o,j,_=>by simp[jk];omega
 |v::r,a,o,j,h=>by simp only[gf]at h;have e:=nd r (a.setIfInBounds o v) (o+1) j (by simp;omega);simp only[jk,e,gf];by_cases c:o+1<=j/\j<o+1+r.length;rw[eC c,eC (by omega)];rw[show j-o=(j-(o+1))+1 by omega];simp;rw[ez c];by_cases d:o=j;subst d;rw[eC (by omega),mG (by omega)];simp;rw[ez (by omega),gm d]
theorem nu:∀(b:fD) (a:fZ) (o:Nat),(jk a o b).size=a.size
 |[],_,_=>rfl
 |v::r,a,o=>by rw[jk,nu r];simp
def OL{C:Nat->eu}(h:pU m C w)(p:o+x.cells.size<=47)(b:∀a,eY (λc=>c=m) w a->pU m (λj=>if o<=j/\j<o+x.cells.size then x.cells.toList.getD (j-o) undef else C j) a->S a)
 (d:tg x.cells.toList=true:=by rfl)(e:S6 T=some x.cells.size:=by rfl):H5 V.prog (Instr.storeAt T (.pointer (some ⟨m,o,none⟩)) x) w S:=by
 obtain⟨q,f,g,i⟩:=h.out;refine kY f (by omega) (λa k l=>b a k ⟨_,l,by rw[nu];exact g,λj n=>?_⟩) (iK d) e;rw[nd _ _ _ _ (by simp;omega)];simp only[Array.length_toList];split;rename_i r;have:j-o<x.cells.toList.jK:=by simp;omega
 rw[kL,gC this];rfl;exact i j n
structure qX(gp mk ms:Nat)(G:Gd)(w:er):Prop where
 at_:∃da dc gb,pU gp (GO G da dc mk ms (Tb 179 gb) (Tb 180 gb) (qk G)) w/\lM w da G.doors/\w.cell? ⟨gb,5,none⟩=some (.int .i64 G.tries)
 ok:ij G=0
 mlt:mk<w.heap.size
 slt:ms<w.heap.size
 ne:mk≠ms
 gk:gp≠mk/\gp≠ms
theorem qX.ext{gp mk ms:Nat}(h:qX gp mk ms H w)(e:Ext w t):qX gp mk ms H t:=by obtain⟨a,b,c,d,f,g⟩:=h.at_;exact⟨⟨a,b,c,d.ext e,f.ext e,e.cell g⟩,h.ok,fN h.mlt e.size,fN h.slt e.size,h.ne,h.gk⟩
structure Gd.Ok(G:Gd):Prop where
 streets:1<=G.streets/\G.streets<=3
 corner:1<=G.corner/\G.corner<=9
 knock:1<=G.knock/\G.knock<=5
 minutes:1<=G.minutes/\G.minutes<=90
 days:1<=G.days/\G.days<=3
 tries:1<=G.tries/\G.tries<=G.days
 many:G.doors.length<=5
 door:∀d∈G.doors,(0<=d.st/\d.st<=2)/\(0<=d.at_/\d.at_<=20)/\1<=d.talk/\d.talk<=9
theorem CV(c:I<=3):∀{l:List Dr},pT I l=0->∀d∈l,(0<=d.st/\d.st<=2)/\(0<=d.at_/\d.at_<=20)/\1<=d.talk/\d.talk<=9
 |x::r,h,d,b=>by simp only[pT]at h;split at h;rename_i a;obtain rfl|b:=gI.1 b;simp only[ug]at a;split at a;split at a;rename_i e f;simp[oD]at e f;omega;omega;omega;exact CV c h d b;rename_i a;exact absurd h a
def my(h:ij H=0):H.Ok:=by simp only[ij]at h;split at h;rename_i a;split at h;omega;rename_i b;simp[oV,oD]at a;refine⟨by omega,by omega,by omega,by omega,by omega,by omega,by omega,CV (by omega) h⟩;omega
def uS(h:H.Ok)(i j:Nat):0<=qk H i j/\qk H i j<=1000:=by
 have f:∀d∈gu H,(0<=d.st/\d.st<=2)/\(0<=d.at_/\d.at_<=20):=λd c=>by obtain rfl|c:=gI.1 c;simp;exact⟨(h.door d c).1,(h.door d c).2.1⟩
 unfold qk;split;rename_i a b g k;have m:=f a (rh g);have n:=f b (rh k);have l:=h.corner;unfold B7;split;unfold qj;omega;have e:0<=qj a.st b.st/\qj a.st b.st<=2:=by unfold qj;omega
 have:=Int.mul_le_mul l.2 e.2 e.1 (by omega);have:=Ci (show 0<=H.corner by omega) e.1;omega;omega
def rB(G:Gd)(i k a b:Nat):Int:=if a<i\/(a=i/\b<k)then qk G a b else 0
def GQ(G:Gd)(h:(gu G).length<=m\/(gu G).length<=k):qk G m k=0:=by unfold qk;obtain h|h:=h;rw[Cm h];rw[Cm h];split<;>simp_all
def Rt(G:Gd)(a:m<(gu G).length)(b:k<(gu G).length):qk G m k=B7 G.corner (gu G)[m] (gu G)[k]:=by unfold qk;rw[gC a,gC b]
def OM(G:Gd)(a:fR)(dc mk ms:Nat)(b c:eu)(i k:Nat)(l:i<6)(m:k<6)(n:Int)(g:n=qk G i k)(j:Nat)(o:j<47):
 (if 7+i*6+k<=j/\j<7+i*6+k+1 then([Value.int .i64 n]:fD).getD (j-(7+i*6+k)) undef else GO G a dc mk ms b c (rB G i k) j)=GO G a dc mk ms b c (rB G i (k+1)) j:=by
 split;rename_i h;obtain rfl:j=7+i*6+k:=by omega
 simp only[mj,List.getD_cons_zero,GO];rw[ez (by omega),eC (by omega)];have d:(7+i*6+k-7)/6=i:=by omega
 have f:(7+i*6+k-7)%6=k:=by omega
 rw[d,f];simp[rB,g];rename_i h;simp only[GO];split;rfl;split;rename_i d f;have:¬((j-7)/6=i/\(j-7)%6=k):=by omega
 congr 1;simp only[rB];have e:((j-7)/6<i\/(j-7)/6=i/\(j-7)%6<k)↔((j-7)/6<i\/(j-7)/6=i/\(j-7)%6<k+1):=by omega
 simp only[e];rfl
def Ru{ds:List Dr}(h:fc m 81 [.int .i64 0,.int .i64 0,.int .i64 0] w x k (ds.flatMap dL))(p:k=ds.length):∃a c,x=.slice a k c/\lM w a ds/\∀b o,a=some ⟨b,o,none⟩->m<=b:=by
 subst p;have j:∀(ds:List Dr) (f:Nat) (g:f<ds.length),(ds.flatMap dL)[f*3]? =some (i64 ds[f].st)/\(ds.flatMap dL)[f*3+1]? =some (i64 ds[f].at_)/\(ds.flatMap dL)[f*3+2]? =some (i64 ds[f].talk):=by
  intro ds;induction ds with
  |nil=>intro f g;simp at g
  |cons d r q=>
   intro f g;cases f with
   |zero=>simp[dL]
   |succ f=>
    have:=q f (by simpa using g);have e:(f+1)*3=f*3+3:=by omega
    simpa[dL,e]using this
 obtain⟨s,⟨t,rfl⟩|⟨b,c,z,A,rfl,i,B,C,D,l,E⟩⟩:=h;exact⟨none,0,by rw[t],λf g=>by omega,λ_ _ h=>by cases h⟩;refine⟨_,c,rfl,λf g=>⟨b,0,rfl,?_⟩,λ_ _ h=>by injection h with h;injection h with F i;omega⟩;have n:(ds.flatMap dL).length=ds.length*3:=by simpa using s
 obtain⟨u,v,y⟩:=j ds f g;refine⟨eB i ?_,eB i ?_,eB i ?_⟩;rw[eJ,l _ (by omega)];exact u;rw[eJ,l _ (by omega)];exact v;rw[eJ,l _ (by omega)];exact y
theorem wU:∀(a:List Dr) (k:Nat) (b:k<a.length),(a.flatMap dL)[k*3]? =some (.int .i64 a[k].st)/\(a.flatMap dL)[k*3+1]? =some (.int .i64 a[k].at_)/\(a.flatMap dL)[k*3+2]? =some (.int .i64 a[k].talk)
 |d::r,0,_=>by simp[dL]
 |d::r,k+1,b=>by
  have:=wU r k (by simpa using b);have e:(k+1)*3=k*3+3:=by omega
  simpa[dL,e]using this
theorem A1:∀a:List Dr,(a.flatMap dL).length=a.length*3
 |[]=>rfl
 |d::r=>by have:=A1 r;simp[dL,this];omega
def I7{b:List Dr}(h:lM w (some ⟨m,o,none⟩) b)(j:Nat)(u:eu)(a:(b.flatMap dL)[j]? =some u):w.cell? ⟨m,o+j,none⟩=some u:=by
 have t:j<b.jK*3:=by rw[<-A1];exact(kS.1 a).1
 have d:j/3<b.jK:=by omega
 obtain⟨f,g,e,i,k,l⟩:=h (j/3) d;obtain⟨rfl,rfl⟩:m=f/\o=g:=by injection e with e;injection e with n p;exact⟨n,p⟩
 obtain⟨q,r,s⟩:=wU b (j/3) d;have c:j%3=0\/j%3=1\/j%3=2:=by omega
 obtain c|c|c:=c;have e:j=j/3*3:=by omega
 rw[e]at a⊢;rw[q]at a;cases a;exact i;have e:j=j/3*3+1:=by omega
 rw[e]at a⊢;rw[r]at a;cases a;exact k;have e:j=j/3*3+2:=by omega
 rw[e]at a⊢;rw[s]at a;cases a;exact l
def Rv{s:oz}{z:Array Bool}{f e:List Dr}(h:fc m 81 [.int .i64 0,.int .i64 0,.int .i64 0] w x k (f.flatMap dL))(q:m<=w.heap.size)(t:lM w a e)(g:k+e.length<=1000000) (v:∀n l,fc m 81 [.int .i64 0,.int .i64 0,.int .i64 0] l n (k+e.length) ((f++e).flatMap dL)->eY (eG x) w l->s n l):zw V.prog (builtin .append #[22,22] T z #[x,.slice a e.length i]) w s:=by
 obtain _|⟨d,r⟩:=e;have A:∃y c,x=.slice y k c/\k<=c:=by obtain⟨_,⟨rfl,rfl⟩|⟨b,c,G,_,rfl,_,_,B,_⟩⟩:=h;exact⟨_,_,rfl,eF _⟩;exact⟨_,_,rfl,B⟩
 obtain⟨y,c,rfl,C⟩:=A;exact zQ T3 C (v _ _ (by simpa using h) (eY.refl _ w));obtain⟨b,o,rfl,_⟩:=t 0 (by simp);refine I6 T3 h q (news:=(d::r).flatMap dL) (A1 _) (by simp) (λj u D=>by rw[je];exact I7 t j u D) (λu p=>?_) g λn l E F _=>v n l (by simpa using E) F;obtain⟨H,_,p⟩:=mH.1 p;simp[dL]at p;obtain rfl|rfl|rfl:=p<;>rfl
def lM.keep{c:List Dr}(h:lM w a c)(k:eY A w t)(d:∀b o,a=some ⟨b,o,none⟩->¬A b):lM t a c:=λi e=>by obtain⟨b,o,rfl,f,g,j⟩:=h i e;have:=d b o rfl;exact⟨b,o,rfl,k.gM f this,k.gM g this,k.gM j this⟩
def pU.keep{C:Nat->eu}(h:pU m C w)(k:eY A w t)(a:¬A m):pU m C t:=by obtain⟨b,c,d,e⟩:=h.out;exact⟨b,k.iZ c a,d,e⟩
def GR(h:H.Ok)(d:Dr)(a:d∈gu H):(0<=d.st/\d.st<=2)/\(0<=d.at_/\d.at_<=20):=by obtain rfl|a:=gI.1 a;simp;exact⟨(h.door d a).1,(h.door d a).2.1⟩
def ON(h:eY (eG (.slice (some ⟨m,o,none⟩) k i)) w t):eY (λx=>x=m) w t:=
 ⟨h.os,h.tape,h.output,h.size,h.drawn,λx a b=>h.block x a λ⟨c,d,e⟩=>b (by injection e with e;exact(eX Addr.block (eP e)).symm)⟩
def VK(G:Gd)(a:fR)(dc mk ms:Nat):fD:=gL G a dc++(List.replicate 36 (Value.int .i64 0)++[Value.map (some mk),Value.map (some ms),Value.nilFunc,Value.nilFunc])
def L6(G:Gd)(g:fR)(m:Nat)(w:er)(hd:lM w g G.doors)(W:G.doors.length<=100000):
 Calls V.prog 144 #[gV G g m] w (jy λv t=>Ext w t/\((ij G≠0/\v=.tuple #[.pointer none,.int .i64 (ij G)])\/(ij G=0/\∃c mk l,v=.tuple #[.pointer (some ⟨c,0,none⟩),.int .i64 0]/\qX c mk l G t/\
  w.heap.size<=c/\w.heap.size<=mk/\w.heap.size<=l/\t.heap[mk]? =some (.map #[] 0)/\t.heap[l]? =some (.map #[] 0)))):=by
 refine jT Tryz.func144 Tryz.ntmps144 ?_;refine jx λX E F aI hb=>?_;refine iu (vs:=gL G g m) (λj v d=>by rw[eJ];exact eB hb (by simpa[gV,Value.cells]using d)) ?_;refine hH (L5 G g m X (hd.ext F) W) λw2 H=>jS ⟨λh=>⟨_,rfl,F.trans H,.inl ⟨by simpa using h,rfl⟩⟩,λh=>?_⟩;have O:ij G=0:=by simpa using h
 have ok:=my O;have z:=H.at_ hb;refine iu (vs:=gL G g m) (λj v d=>by rw[eJ];exact eB z (by simpa[gV,Value.cells]using d)) ?_;refine S9 λw3 mk M aJ hm=>S9 λw4 l I aK Y=>gK (.agg (VK G g m mk l).toArray)<|jx λw5 c e5 al hg=>?_;have E5:Ext w w5:=(((F.trans H).trans M).trans I).trans e5;refine gK (.agg #[i64 0,i64 0,i64 0])<|ie (dL ⟨0,0,0⟩) 81 λw6 pb e6 am hp=>?_;have an:lM w6 g G.doors:=hd.ext (E5.trans e6);refine eH (eB ((M.trans (I.trans (e5.trans e6))).at_ z) rfl) ?_;have ao:pU c (GO G g m mk l .nilFunc .nilFunc (rB G 0 0)) w5:=by
  refine⟨_,hg,by simp[Value.cells,VK,gL],λj d=>?_⟩;show(VK G g m mk l).toArray[j]? =_;have h0:∀a b,rB G 0 0 a b=0:=λa b=>by simp[rB]
  rw[Cn];unfold VK GO;split;rename_i h7;rw[oR (by simpa[gL]using h7),kL,gC (by simpa[gL]using h7)];rfl;rename_i h7;rw[ow (by simp[gL];omega)];have hl:(gL G g m).length=7:=rfl;rw[hl];split;rename_i ap;rw[oR (by simp;omega),List.getElem?_replicate,eC (by omega),h0]
  ·rename_i ap;rw[ow (by simp;omega),List.length_replicate];obtain rfl|rfl|rfl|rfl:j=43\/j=44\/j=45\/j=46:=by omega
   all_goals rfl
 have aq:fc pb 81 [i64 0,i64 0,i64 0] w6 (fP pb 1 1) 1 (([⟨0,0,0⟩]:List Dr).flatMap dL):=
  ⟨rfl,.inr ⟨pb,1,_,eF _,rfl,hp,rfl,eF _,by decide,λj d=>by simp[List.flatMap],λj h1 h2=>by simp[dL]at h1 h2;omega⟩⟩
 have aH:=eV.lt_of_heap hp;refine Rv aq (by omega) an (by omega) λv w7 ar k7=>?_;have e7:Ext w5 w7:=e6.eR (ON k7) am;have Z:(gu G).length=1+G.doors.length:=by simp[gu];omega
 obtain⟨pa,pc,rfl,au,av⟩:=Ru (ds:=gu G) ar Z.symm;rw[<-Z];have aw:=ao.ext e7;have ax:=(M.trans (I.trans (e5.trans e7))).at_ z;have h6:(gu G).length<=6:=by have:=ok.many;omega
 have lb:E<w2.heap.size:=eV.lt_of_heap z;have lm:mk<w3.heap.size:=eV.lt_of_heap hm;have ls:l<w4.heap.size:=eV.lt_of_heap Y;have lg:c<w5.heap.size:=eV.lt_of_heap hg;have s3:=M.size;have s4:=I.size;have A:c≠mk/\c≠l/\E≠c/\mk≠l:=by omega
 refine fe (gO (n:=(gu G).length) (λk=>[(1,fp E),(5,fp c),(6,.slice pa (gu G).length pc),(26,.slice pa (gu G).length pc),(27,i64 (gu G).length),(28,i64 k)])
  (λi t=>eY (λx=>x=c) w7 t/\pU c (GO G g m mk l .nilFunc .nilFunc (rB G i 0)) t) ⟨by trivial,eY.refl _ _,aw⟩ ?_ ?_ ?_)
 rintro k t S ⟨k',T⟩;exact fO ⟨rfl,rfl,by trivial,k',T⟩;rintro i t T ⟨U,P⟩;have aa:∀b o,pa=some (eQ b o)->¬(b=c):=λb o h=>by have:=av b o h;omega
 have ac:lM t pa (gu G):=au.keep U aa;obtain⟨b,o,Q,h1,h2,h3⟩:=ac i T;subst Q;have aL:=GR ok _ (ft T)
 refine iV i 3 T (iu (vs:=dL (gu G)[i]) (λj u d=>by
  match j,d with
  |0,d=>cases d;exact h1
  |1,d=>cases d;exact h2
  |2,d=>cases d;exact h3) (ji λw8 ab e8 ay az=>fV az λw9 k9 ad=>?_))
 have kw:=U.size;have s7:=e7.size;have ae:i<6:=by omega
 have aA:=(P.ext e8).keep k9 (show¬(c=ab) by omega);have aM:=eV.lt_of_heap ad;have e9:Ext t w9:=e8.eR k9 ay
 refine fe (gO (n:=(gu G).length) (λk=>[(1,fp E),(5,fp c),(6,Ie b o (gu G).length pc),(7,i64 i),(8,fp ab),(26,Ie b o (gu G).length pc),(27,i64 (gu G).length),(28,i64 i),
  (33,Ie b o (gu G).length pc),(34,i64 (gu G).length),(35,i64 k)]) (λk R=>eY (λx=>x=c) w9 R/\pU c (GO G g m mk l .nilFunc .nilFunc (rB G i k)) R) ⟨by trivial,eY.refl _ _,aA⟩ ?_ ?_ ?_)
 rintro k R S ⟨J,B⟩;exact fO ⟨rfl,rfl,by trivial,J,B⟩;rintro k R S ⟨J,B⟩;have aN:=GR ok _ (ft S);have af:k<6:=by omega
 have aB:lM R (qh b o) (gu G):=(ac.ext e9).keep J aa;obtain⟨b2,o2,Q,g1,g2,g3⟩:=aB k S;obtain⟨rfl,rfl⟩:b=b2/\o=o2:=by injection Q with e;injection e with F H;exact⟨F,H⟩
 refine iV k 3 S (iu (vs:=dL (gu G)[k]) (λj u d=>by
  match j,d with
  |0,d=>cases d;exact g1
  |1,d=>cases d;exact g2
  |2,d=>cases d;exact g3) (ji λaO bb aC aD ag=>fV ag λK aE r=>?_))
 have L:Ext R K:=aC.eR aE aD;have sk:=J.size;have s:gY K ab (jk (xW 81).toArray 0 (dL (gu G)[i])) 81:=L.at_ (J.iZ ad (show¬(ab=c) by omega));have N:=B.ext L;have ah:K.cell? (eQ E 1)=some (i64 G.corner):=L.cell (J.gM (e9.cell (U.gM (eB ax rfl) A.2.2.1)) A.2.2.1)
 have ai:∀p f,Ext K p->∀n:Int,n=qk G i k->eY (λx=>x=c) p f->pU c (λj=>if 7+i*6+k<=j/\j<7+i*6+k+1 then([Value.int .i64 n]:fD).getD (j-(7+i*6+k)) undef else GO G g m mk l .nilFunc .nilFunc (rB G i k) j) f->
  eY (λx=>x=c) w9 f/\pU c (GO G g m mk l .nilFunc .nilFunc (rB G i (k+1))) f:=λp f e n hn C hg=>by
  refine⟨(J.trans ((L.trans e).keep λx=>x=c) (λ_ _ h=>h) λ_ _ h=>h).trans C (λ_ _ h=>h) λ_ _ h=>h,hg.mono λj d=>OM G g m mk l _ _ i k (by omega) (by omega) n hn j d⟩
 have aj:qk G i k=B7 G.corner (gu G)[i] (gu G)[k]:=Rt G T S;refine eH (eB s rfl) (eH (eB r rfl) (iL ⟨λh=>?_,λh=>?_⟩));refine fB fl (eZ (eB s rfl) (eZ (eB r rfl) (kF fl _ (λX e=>Kt _ _ X (by omega) (by omega)) (Ks i 6 6 ae (rX k 6 af λp e=>OL (N.ext e) (by simp[Value.cells];omega) λf C D=>?_)))));have h:(gu G)[i].st=(gu G)[k].st:=fQ h;exact eK ⟨by trivial,ai p f e _ (by rw[aj];simp[B7,h]) C D⟩;have h:¬(gu G)[i].st=(gu G)[k].st:=gJ h;have hf:0<=qj (gu G)[i].st (gu G)[k].st/\qj (gu G)[i].st (gu G)[k].st<=2:=by unfold qj;omega
 have hc:=ok.corner;have m1:=Int.mul_le_mul hc.2 hf.2 hf.1 (by omega);have m2:=Ci (show 0<=G.corner by omega) hf.1
 refine fB fl (eZ (eB s rfl) (eZ (eB r rfl) (I3 (eZ ah (eZ (eB s rfl) (eZ (eB r rfl) (kF fl _ (λX e=>Kt _ _ X (by omega) (by omega)) (OH (I3 (Ks i 6 6 ae (rX k 6 af λp e=>
  OL (N.ext e) (by simp[Value.cells];omega) λf C D=>?_)))))))))))
 exact eK ⟨by trivial,ai p f e _ (by rw[aj];simp[B7,h]) C D⟩;rintro R ⟨J,B⟩;refine eK ⟨by trivial,U.trans (((e9.keep λx=>x=c).trans J (λ_ _ h=>h) λ_ _ h=>h)) (λ_ _ h=>h) λ_ _ h=>h,B.mono λj d=>?_⟩;simp only[GO];split;rfl;split;congr 1;simp only[rB];generalize (j-7)/6=x;generalize hy:(j-7)%6=y;by_cases hx:x<i\/x=i/\y<(gu G).length;rw[eC hx,eC (by omega)];rw[ez hx];split;rw[GQ G (by omega)];rfl;rfl;rintro t ⟨U,P⟩;have ak:pU c (GO G g m mk l .nilFunc .nilFunc (qk G)) t:=P.mono λj d=>by simp only[GO];split;rfl;split;congr 1;simp only[rB];split;rfl;rw[GQ G (by omega)];rfl
 refine gK (.agg #[Tb 179 E,Tb 180 E]) (OL ak (sS rfl) λw8 k8 aF=>?_);have aG:eY (λx=>x=c) w7 w8:=U.trans k8 (λ_ _ h=>h) λ_ _ h=>h;have q:Ext w4 w8:=(e5.trans e7).eR aG al;refine⟨_,rfl,((F.trans H).trans (M.trans I)).trans q,.inr ⟨O,c,mk,l,rfl,⟨⟨g,m,E,aF.mono λj d=>?_,hd.ext (((F.trans H).trans (M.trans I)).trans q),?_⟩,O,?_,?_,A.2.2.2,A.1,A.2.1⟩,?_,?_,?_,?_,?_⟩⟩;show(if 45<=j/\j<45+2 then([Tb 179 E,Tb 180 E]:fD).getD (j-45) undef else _)=_;split
 ·obtain rfl|rfl:j=45\/j=46:=by omega
  all_goals simp[GO]
 ·simp only[GO];repeat' split
  all_goals first|rfl|omega
 exact(q.trans (Ext.refl _)).cell ((M.trans I).cell (eB z rfl));have:=q.size;omega;have:=q.size;omega;have:=(F.trans H).size;have:=(M.trans I).size;omega;have:=(F.trans H).size;omega;have:=(F.trans H).size;omega;exact q.at_ (I.at_ hm);exact q.at_ Y
def iM(w:er)(a:fR)(l:ew):Prop:=∀k (h:k<l.length),∃b o,a=some ⟨b,o,none⟩/\w.cell? ⟨b,o+k,none⟩=some (.int .i64 l[k])
def iM.ext{w c:er}{a:fR}{l:ew}(h:iM w a l)(e:Ext w c):iM c a l:=λk d=>by obtain⟨b,o,f,g⟩:=h k d;exact⟨b,o,f,e.cell g⟩
def qY(l:ew):iA:=l.map λn:Nat=>(n:Int)
def iM.ints{w:er}{a:fR}{l:ew}(h:iM w a l):nz w a (qY l):=λk d=>by
 have c:k<l.jK:=by simpa[qY]using d
 obtain⟨b,o,e,f⟩:=h k c;exact⟨b,o,e,by rw[f];simp[qY]⟩
section
variable{gp mk ms:Nat}{G:Gd}{w:er}
def qX.wx(h:qX gp mk ms G w):G.Ok:=my h.ok
def qX.ways(h:qX gp mk ms G w)(i j:Nat)(d:i<6)(e:j<6):w.cell? ⟨gp,7+i*6+j,none⟩=some (.int .i64 (qk G i j)):=by
 obtain⟨f,g,k,a,_⟩:=h.at_;rw[a.cell (7+i*6+j)];simp only[GO];rw[ez (by omega),eC (by omega)];have b:(7+i*6+j-7)/6=i:=by omega
 have c:(7+i*6+j-7)%6=j:=by omega
 rw[b,c]
def qX.c2(h:qX gp mk ms G w):w.cell? ⟨gp,2,none⟩=some (.int .i64 G.knock):=by obtain⟨b,c,d,a,_⟩:=h.at_;exact a.cell 2
def qX.c3(h:qX gp mk ms G w):w.cell? ⟨gp,3,none⟩=some (.int .i64 G.minutes):=by obtain⟨b,c,d,a,_⟩:=h.at_;exact a.cell 3
def qX.c4(h:qX gp mk ms G w):w.cell? ⟨gp,4,none⟩=some (.int .i64 G.days):=by obtain⟨b,c,d,a,_⟩:=h.at_;exact a.cell 4
def qX.c5(h:qX gp mk ms G w):w.cell? ⟨gp,5,none⟩=some (.int .i64 G.tries):=by obtain⟨b,c,d,a,_⟩:=h.at_;exact a.cell 5
def qX.c6(h:qX gp mk ms G w):∃a b,w.cell? ⟨gp,6,none⟩=some (.slice a G.doors.length b)/\lM w a G.doors:=by obtain⟨a,b,e,c,d,_⟩:=h.at_;exact⟨a,b,c.cell 6,d⟩
def qX.W9(h:qX gp mk ms G w):w.cell? ⟨gp,43,none⟩=some (.map (some mk)):=by obtain⟨b,c,d,a,_⟩:=h.at_;exact a.cell 43
def qX.Xa(h:qX gp mk ms G w):w.cell? ⟨gp,44,none⟩=some (.map (some ms)):=by obtain⟨b,c,d,a,_⟩:=h.at_;exact a.cell 44
def qX.fn(h:qX gp mk ms G w):∃a,w.cell? ⟨gp,45,none⟩=some (Tb 179 a)/\w.cell? ⟨gp,46,none⟩=some (Tb 180 a)/\w.cell? ⟨a,5,none⟩=some (.int .i64 G.tries):=by obtain⟨d,e,a,b,_,c⟩:=h.at_;exact⟨a,b.cell 45,b.cell 46,c⟩
def th(G:Gd)(l:ew):Int:=rY (qk G) l
def mL(G:Gd)(l:ew):Int:=AZ (qk G) G.knock l
def l9(G:Gd)(l:ew):Int:=(l.map λd=>((G.doors[d]?).map (·.talk)).getD 0).sum
def jX(G:Gd)(l:ew):Int:=mL G l+l9 G l
variable{l:List Nat}{la:Option Addr}{lc:Nat}
def L8(h:qX gp mk ms G w)(b:∀d∈l,d<G.doors.length)(a:l.length<=100000)(c:iM w la l):Calls V.prog 161 #[.pointer (some ⟨gp,0,none⟩),.slice la l.length lc] w (jy λv e=>v=.int .i64 (th G l)/\e=w):=by have:=h.wx.many;exact A0 gp (qk G) l la lc w h.ways (uS h.wx) (λd f=>by have:=b d f;omega) a c
def GS(h:qX gp mk ms G w)(b:∀d∈l,d<G.doors.length)(a:l.length<=100000)(c:iM w la l):Calls V.prog 114 #[.pointer (some ⟨gp,0,none⟩),.slice la l.length lc] w (jy λv e=>v=.int .i64 (mL G l)/\Ext w e):=by have:=h.wx.many;have:=h.wx.knock;exact L1 gp (qk G) G.knock l la lc w h.c2 h.ways (uS h.wx) (λd f=>by have:=b d f;omega) a c (by omega)
def L9(a:G.Ok)(l:ew)(b:l.length<=100000):0<=mL G l/\mL G l<=1000000000:=by have d:=AY (uS a) l;have c:=a.knock;have e:=Int.mul_le_mul_of_nonneg_left c.2 (Int.natCast_nonneg l.length);have f:=Ci (Int.natCast_nonneg l.length) (show 0<=G.knock by omega);unfold mL AZ;omega
def I8(G:Gd)(l:ew)(k:Nat)(a:k<l.length)(b:l[k]<G.doors.length):l9 G (l.take (k+1))=l9 G (l.take k)+G.doors[l[k]].talk:=by unfold l9;rw[kM a,nS,List.sum_append];simp[gC b]
theorem GT(a:G.Ok):∀(l:ew),0<=l9 G l/\l9 G l<=9*l.length
 |[]=>by simp[l9]
 |d::r=>by
  have:=GT a r
  have b:0<=((G.doors[d]?).map (·.talk)).getD 0/\((G.doors[d]?).map (·.talk)).getD 0<=9:=by
   cases h:G.doors[d]? with
   |none=>simp
   |some x=>have:=a.door x (rh h);simp;omega
  have e:l9 G (d::r)=((G.doors[d]?).map (·.talk)).getD 0+l9 G r:=by simp[l9]
  simp only[e,gf];omega
def En(h:qX gp mk ms G w)(j:∀d∈l,d<G.doors.length)(a:l.length<=100000)(m:iM w la l):Calls V.prog 115 #[.pointer (some ⟨gp,0,none⟩),.slice la l.length lc] w (jy λv c=>v=.int .i64 (jX G l)/\Ext w c):=by
 refine jT Tryz.func115 Tryz.ntmps115 ?_;have u:=L9 h.wx l a;have x:=h.wx.many;refine hH (GS h j a m) λp g=>?_;refine fe (gO (n:=l.length) (λk=>[(0,fp gp),(11,.slice la l.length lc),(12,i64 l.length),(13,i64 k),(5,i64 (mL G l+l9 G (l.take k)))]) (λ_ c=>c=p) ⟨⟨rfl,rfl,rfl,rfl,by show some _=some _;simp[l9],trivial⟩,rfl⟩ ?_ ?_ ?_);rintro k c e rfl;exact fO ⟨rfl,rfl,by trivial,rfl⟩;rintro k c e rfl;obtain⟨b,o,rfl,q⟩:=(m.ext g) k e;have f:=j _ (ft e);obtain⟨y,z,r,i⟩:=(h.ext g).c6;obtain⟨A,B,rfl,_,_,s⟩:=i _ f;have C:=GT h.wx (l.take k);have D:=h.wx.door _ (ft f);have t:(l.take k).length<=100000:=by simp;omega
 refine gN k e (eH q (eH r (iV l[k] 3 f (eH s (eK (eK ⟨⟨rfl,rfl,rfl,rfl,?_,trivial⟩,rfl⟩))))));show some _=some _;rw[I8 G l k e f,Int.add_assoc];rintro c rfl;exact⟨_,rfl,by simp[jX],g⟩
def last_at(h:qX gp mk ms G w):Calls V.prog 107 #[.pointer (some ⟨gp,0,none⟩)] w (jy λv a=>v=.int .i64 (2*G.days-1)/\a=w):=OJ gp G.days w h.c4 (by have:=h.wx.days;omega)
end
def b8(c:BinOp)(a b:Int):Int:=match c with
 | .and=>IntKind.u8.wrap (BitVec.ofInt 8 a&&&BitVec.ofInt 8 b).toNat
 | .or=>IntKind.u8.wrap (BitVec.ofInt 8 a|||BitVec.ofInt 8 b).toNat
 |_=>IntKind.u8.wrap (BitVec.ofInt 8 a&&& ~~~BitVec.ofInt 8 b).toNat
section
variable{w:er}{k:eu->er->Prop}{t:eD}{x y:fI}
def T4(r:Int)(a:b8 .and I J=r)(h:k (.int .u8 r) w):lY V.prog (do eqGuard .and t x y (.int .u8 I) (.int .u8 J);binOp .and t (.int .u8 I) (.int .u8 J)) w k:=⟨_,w,rfl,by subst a;exact h⟩
def Rw(r:Int)(a:b8 .andNot I J=r)(h:k (.int .u8 r) w):lY V.prog (do eqGuard .andNot t x y (.int .u8 I) (.int .u8 J);binOp .andNot t (.int .u8 I) (.int .u8 J)) w k:=⟨_,w,rfl,by subst a;exact h⟩
def T5(a:m<=8)(h:k (.int .u8 (I.fdiv (2^m))) w):lY V.prog (do eqGuard .shr t x y (.int .u8 I) (.int .i64 m);binOp .shr t (.int .u8 I) (.int .i64 m)) w k:=by
 refine⟨_,w,?_,h⟩;show Sem.run lS (Op.shift .shr .u8 I .i64 m) w=_;unfold Op.shift;rw[ez (by omega)];have:min (m:Int).toNat IntKind.u8.bits=m:=by simp[IntKind.bits];omega
 rw[this];rfl
def T6(a:m<=8)(h:k (.int .u8 (IntKind.u8.wrap (I*2^m))) w):lY V.prog (do eqGuard .shl t x y (.int .u8 I) (.int .i64 m);binOp .shl t (.int .u8 I) (.int .i64 m)) w k:=by
 refine⟨_,w,?_,h⟩;show Sem.run lS (Op.shift .shl .u8 I .i64 m) w=_;unfold Op.shift;rw[ez (by omega)];have:min (m:Int).toNat IntKind.u8.bits=m:=by simp[IntKind.bits];omega
 rw[this];rfl
end
def OO:∀s:Nat,s<32->∀d:Nat,d<5->b8 .and ((s:Int).fdiv (2^d)) 1=if s.testBit d then 1 else 0:=by decide+kernel
def Rx(s d:Nat)(w:er)(a:s<32)(b:d<5):Calls V.prog 198 #[.int .u8 s,.int .i64 d] w (jy λv c=>v=.bool (s.testBit d)/\c=w):=by refine jT Tryz.func198 Tryz.ntmps198 ?_;refine T5 (by omega) (T4 _ (OO s a d b) (iL ⟨_,rfl,?_,rfl⟩));cases s.testBit d<;>rfl
def zR(s d:Nat)(w:er)(a:s<32)(b:d<5):Calls V.prog 164 #[.int .u8 s,.int .i64 d] w (jy λv c=>v=.int .u8 (pP s d)/\c=w):=I2 (F9 s d w a b)
def OP(x:Int)(l:iA):Bool:=decide (0<=B6 x l 0)
def Eo(l:iA)(x:Int)(b:fR)(c:Nat)(w:er)(d:nz w b l)(a:l.length<=100000):Calls V.prog 135 #[.slice b l.length c,.int .i64 x] w (jy λv e=>v=.bool (OP x l)/\e=w):=by refine jT Tryz.func135 Tryz.ntmps135 ?_;exact fw (L4 l x b c w d a) (yP ⟨_,rfl,rfl,rfl⟩)
def oq(n:Int):iA->iA->Int
 |_,[]=>0
 |a,d::r=>if oD d 0 (n-1)then(if OP d a then 4 else oq n (a++[d]) r)else 3
def jQ(n:Int)(l:iA):Int:=oq n [] l
def Ep(n:Int)(l:iA)(k:Nat)(a:k<l.length):oq n (l.take k) (l.drop k)=if oD l[k] 0 (n-1)then(if OP l[k] (l.take k)then 4 else oq n (l.take (k+1)) (l.drop (k+1)))else 3:=by rw[qZ a,kM a];rfl
def CW{gp mk ms:Nat}{w:er}(h:qX gp mk ms H w){l:iA}{lc:Nat}(p:nz w a l)(q:l.length<=100000)(u:l.length<=lc):
 Calls V.prog 108 #[.pointer (some ⟨gp,0,none⟩),.slice a l.length lc] w (jy λv e=>v=.int .i64 (jQ H.doors.length l)/\e=w):=by
 have x:=h.wx.many;obtain⟨y,z,r,s⟩:=h.c6;refine jT Tryz.func108 Tryz.ntmps108 ?_;refine fe (gO (n:=l.length) (λk=>[(0,fp gp),(1,.slice a l.length lc),(7,.slice a l.length lc),(8,i64 l.length),(9,i64 k)]) (λk e=>e=w/\jQ H.doors.length l=oq H.doors.length (l.take k) (l.drop k)) ⟨by trivial,rfl,rfl⟩ ?_ ?_ ?_);rintro k e g ⟨rfl,c⟩;exact fO ⟨rfl,rfl,by trivial,rfl,c⟩;rintro k e g ⟨rfl,c⟩;obtain⟨b,o,i,f⟩:=p k g;rw[Ep _ l k g]at c;have j:(l.take k).length=k:=by simp;omega
 have d:=Eo (l.take k) l[k] a lc e (p.take k) (by omega);rw[j]at d;subst i;refine gN k g (eH f (eH r (fe (jP (fw (iv _ _ _ _) (gT ⟨λh=>?_,λm=>?_⟩))))));simp at h;exact⟨_,rfl,by rw[c];simp[h],rfl⟩;simp at m;refine wT k (by omega) (fw d ⟨λh=>?_,λt=>?_⟩);exact⟨_,rfl,by rw[c];simp[h,m],rfl⟩;rw[m,t]at c;exact eK ⟨by trivial,rfl,by simpa using c⟩;rintro e ⟨rfl,c⟩;exact⟨_,rfl,by rw[c];simp[oq],rfl⟩
def ot(s k:Nat):ew:=(List.range k).filter (s.testBit ·)
def fx(s:Nat):ew:=ot s 5
def gU(l:ew):fD:=l.map λn:Nat=>Value.int .i64 n
def jq(a:Nat)(w:er)(v:eu)(l:ew):Prop:=fc a 3 [.int .i64 0] w v l.length (gU l)
def jq.row(h:jq m w x l):∃a c,x=.slice a l.length c/\iM w a l/\l.length<=c:=by obtain⟨j,⟨e,rfl⟩|⟨b,c,n,o,rfl,f,p,g,q,i,r⟩⟩:=h;exact⟨none,0,by rw[e],λk d=>by omega,by omega⟩;refine⟨_,c,rfl,λk d=>⟨b,0,rfl,?_⟩,g⟩;refine eB f ?_;rw[eJ,i k (by simp[gU];omega)];simp[gU,gC d]
def wV(s k:Nat):ot s (k+1)=if s.testBit k then ot s k++[k]else ot s k:=by unfold ot;rw[nF,List.filter_append];cases h:s.testBit k<;>simp[h]
def oE(s k:Nat):(ot s k).length<=k:=by have:=List.length_filter_le (s.testBit ·) (List.range k);simpa[ot]using this
def Ext.oF(h:Ext w t)(a:eY (eG x) t e)(d:fc m T M t x k Y)(g:w.heap.size<=m):Ext w e:=
 ⟨a.os.trans h.os,a.tape.trans h.tape,a.output.trans h.output,ff h.size a.size,ff h.drawn a.drawn,λb c=>(a.block b (fN c h.size) λf=>by have:=(d.blk f).1;omega).trans (h.block b c)⟩
def wW(s:Nat)(w:er)(i:s<32):Calls V.prog 173 #[.int .u8 s] w (jy λv a=>Ext w a/\jq w.heap.size a v (fx s)):=by refine jT Tryz.func173 Tryz.ntmps173 ?_;refine kZ (n:=5) (λk v=>[(0,.int .u8 s),(3,v),(5,i64 k)]) (λk v a=>Ext w a/\jq w.mN a v (ot s k)) (ig) ⟨by trivial,Ext.refl _,fc.nil _ _ _ _⟩ ?_ ?_ ?_;rintro k v a f ⟨e,b⟩;exact fO ⟨rfl,rfl,by trivial,e,b⟩;rintro k v a f ⟨e,b⟩;have g:=oE s k;refine fw (Rx s k a i f) ⟨λh=>?_,λh=>?_⟩;refine ie [Value.int .i64 k] 3 λp q c j l=>kP vk (b.ext c) (ff e.size c.size) l (by omega) λm r d o _=>eK ⟨m,by trivial,(e.trans c).oF o (b.ext c) (eF _),?_⟩;rw[wV,eC h];simpa[jq,gU]using d;refine eK ⟨v,by trivial,e,?_⟩;rw[wV,ez (by rw[h];simp)];exact b;rintro v a ⟨e,b⟩;exact⟨_,rfl,e,b⟩
def setFrom(s:Nat)(l:ew):Nat:=l.foldl pP s
def gF(l:ew):Nat:=setFrom 0 l
theorem pV:∀(l:ew) (s:Nat),s<32->(∀d∈l,d<5)->setFrom s l<32
 |[],s,a,_=>a
 |d::r,s,a,h=>pV r (pP s d) (AA s a d (h d gD)) λx b=>h x (gG _ b)
def uT(l:ew)(e:fR)(g:Nat)(w:er)(j:iM w e l)(h:∀d∈l,d<5)(i:l.length<=100000):Calls V.prog 122 #[.slice e l.length g] w (jy λv a=>v=.int .u8 (gF l)/\a=w):=by refine jT Tryz.func122 Tryz.ntmps122 ?_;refine fe (gO (n:=l.length) (λk=>[(3,.int .u8 (gF (l.take k))),(6,.slice e l.length g),(7,i64 l.length),(8,i64 k)]) (λ_ a=>a=w) ⟨by trivial,rfl⟩ ?_ ?_ ?_);rintro k a c rfl;exact fO ⟨rfl,rfl,by trivial,rfl⟩;rintro k a c rfl;obtain⟨b,o,rfl,m⟩:=j k c;have f:=h _ (ft c);have p:gF (l.take k)<32:=pV _ 0 (by omega) λd f=>h d (List.mem_of_mem_take f);refine gN k c (eH m (fw (zR _ _ _ p f) (eK ⟨⟨?_,rfl,rfl,rfl,trivial⟩,rfl⟩)));show some _=some _;rw[kM c];simp only[gF,setFrom,re,nD,List.foldl_nil];rintro a rfl;exact⟨_,rfl,by simp,rfl⟩
structure Sx where
 tries:Int
 mornings:Int
 evenings:Int
 opened:Bool
 d0:Bool
 d1:Bool
 d2:Bool
 left:Bool
def oN(x:Sx):fD:=[.int .i64 x.tries,.int .i64 x.mornings,.int .i64 x.evenings,.bool x.opened,.bool x.d0,.bool x.d1,.bool x.d2,.bool x.left]
def gP(T:Int)(x:Sx):Bool:=(x.left||x.opened)||(decide (T<=x.tries)&&(decide (T<2)||(decide (0<x.mornings)&&decide (0<x.evenings))))
def zS{gp mk ms:Nat}(h:qX gp mk ms H w)(x:Sx):Calls V.prog 134 #[.pointer (some ⟨gp,0,none⟩),.agg (oN x).toArray] w (jy λv k=>v=.bool (gP H.tries x)/\Ext w k):=by refine jT Tryz.func134 Tryz.ntmps134 ?_;refine jx λo p c l d=>?_;obtain⟨i,m,n,j⟩:=(h.ext c).fn;refine fB fl (eZ (eB d rfl) ⟨λf=>?_,λf=>?_⟩);exact lq rfl λa e=>⟨_,rfl,by simp[gP,f],c.trans e⟩;refine eZ (eB d rfl) ⟨λg=>?_,λg=>?_⟩;exactλa e=>⟨_,rfl,by simp[gP,f,g],c.trans e⟩;refine eZ m (eZ (eB d rfl) (kF fl _ (λa e=>I4 i _ _ a (e.cell j)) ⟨λb=>?_,λb=>?_⟩));refine eZ n (eZ (eB d rfl) (eZ (eB d rfl) (kF fl _ (λa e=>I5 i _ _ _ a (e.cell j)) λa e=>⟨_,rfl,?_,c.trans e⟩)));have b:H.tries<=x.tries:=fQ b;simp[gP,f,g,b];refineλa e=>⟨_,rfl,?_,c.trans e⟩;have b:¬H.tries<=x.tries:=gJ b;simp[gP,f,g,b]
section
variable{w:er}{k:eu->er->Prop}{t:eD}{x y:fI}
def uh{n:Nat}(b:0<n)(c:m<=1000000000)(h:k (.int .i64 ((m/n:Nat):Int)) w):lY V.prog (do eqGuard .quo t x y (.int .i64 m) (.int .i64 n);binOp .quo t (.int .i64 m) (.int .i64 n)) w k:=by
 refine⟨_,w,?_,h⟩;show Sem.run lS (Op.intDiv .quo .i64 m n) w=_;unfold Op.intDiv;rw[ez (by omega)];have a:(m:Int).tdiv n=((m/n:Nat):Int):=by rw[Int.tdiv_eq_ediv_of_nonneg (by omega)];simp
 have d:m/n<=m:=Nat.div_le_self _ _;rw[a];simp only[Sem.run_pure];generalize m/n=q at*;rw[IntWalk.i64_in _ (by omega)]
def Er{n:Nat}(b:0<n)(h:k (.int .i64 ((m%n:Nat):Int)) w):lY V.prog (do eqGuard .rem t x y (.int .i64 m) (.int .i64 n);binOp .rem t (.int .i64 m) (.int .i64 n)) w k:=by
 refine⟨_,w,?_,h⟩;show Sem.run lS (Op.intDiv .rem .i64 m n) w=_;unfold Op.intDiv;rw[ez (by omega)];have a:(m:Int).tmod n=((m%n:Nat):Int):=by rw[Int.tmod_eq_emod_of_nonneg (by omega)];simp
 simp only[a,Sem.run_pure]
def zT{t:eD}(n:Nat)(a:i<n)(h:k (.pointer (some ⟨m,o+i,none⟩)) w)(b:ty t=some ⟨2,n,1,n⟩:=by rfl):lY V.prog (Instr.indexAt t (.pointer (some ⟨m,o,none⟩)) (.int .i64 (i:Nat))) w k:=vS i n a h rfl b
def rZ{t:eD}{b:fZ}{c:eD}(a:fD)(d:w.heap[m]? =some (.cells b c))(e:∀j v,a[j]? =some v->b[o+j]? =some v)(f:I1 t=some true:=by rfl)(g:S6 t=some a.length:=by rfl):Sem.run V.prog (loadVar t ⟨m,o,none⟩) w=.ok (.agg a.toArray) w:=by
 have h:=run_loadCells_list (P:=lS) w (eQ m o) a λj v i=>by rw[je];exact eB d (e j v i)
 simp only[loadVar,Sem.run_bind,AW f,Ek g,Result.andThen_ok,fF,h,Sem.run_pure]
end
def jB(c:fZ)(a:fD)(h:c.size=a.length):jk c 0 a=a.toArray:=by
 apply Ns;intro j;rw[nd a c 0 j (by omega),eJ,Nat.sub_zero];have e:a.toArray[j]? =a[j]? :=by simp
 rw[e];split;rfl;rename_i b;have b:a.jK<=j:=Nat.le_of_not_lt λd=>b ⟨iQ _,d⟩;rw[Cm b];exact ou (by rw[h];exact b)
def uj(x:Sx)(d:Nat):Bool:=if d=0 then x.d0 else if d=1 then x.d1 else x.d2
def iE(x:Sx)(a:Nat)(b:Bool):Sx:=⟨x.tries+1,if a%2=0 then x.mornings+1 else x.mornings,if a%2=0 then x.evenings else x.evenings+1,x.opened||b,if a/2=0 then true else x.d0,if a/2=1 then true else x.d1,if a/2=2 then true else x.d2,x.left⟩
def CX(x:Sx)(b:Nat)(u:Bool)(w:er)(W:b<6)(Y:(0<=x.tries/\x.tries<=1000000)/\(0<=x.mornings/\x.mornings<=1000000)/\0<=x.evenings/\x.evenings<=1000000):
 Calls V.prog 158 #[.agg (oN x).toArray,.int .i64 b,.bool u] w (jy λv N=>v=.agg (oN (iE x b u)).toArray/\Ext w N):=by
 refine jT Tryz.func158 Tryz.ntmps158 ?_;refine jx λZ E F d f=>ji λw2 y G z h=>?_;have g:=G.at_ f;have s:¬(y=E):=by have:=eV.lt_of_heap f;omega
 refine eH (eB g rfl) (eK (fV g λw3 H c=>?_));have i:=H.iZ h s;refine Er (m:=b) (n:=2) (by omega) (iL ?_);obtain⟨X,I⟩:∃X,X=iE x b u:=⟨_,rfl⟩;rw[<-I];obtain rfl|rfl|rfl|rfl|rfl|rfl:b=0\/b=1\/b=2\/b=3\/b=4\/b=5:=by omega
 all_goals
  first
  |refine lq rfl (eH (eB c rfl) (eK (fV c λJ A e=>?_)))
  |refine nU rfl (eH (eB c rfl) (eK (fV c λJ A e=>?_)))
  have k:=A.iZ i s;have O:Ext w J:=((F.trans G).eR H d).eR A d;refine eH (eB e rfl) ⟨λK=>?_,λK=>?_⟩;all_goals
   refine fV e λw5 L l=>?_;have o:=L.iZ k s;have P:=O.eR L d;refine uh (n:=2) (by omega) (by omega) (zT 3 (by decide) (fV l λQ M p=>?_));have q:=M.iZ o s;have R:=P.eR M d;have B:Q.heap[E]? =some (.cells (oN X).toArray 166):=p.trans (by rw[I];simp[jk,oN,iE,K,Value.cells]);refine iu (vs:=oN X) (λj v C=>by rw[eJ];exact eB B (by simpa using C)) (fV q λt S r=>?_);have D:t.heap[y]? =some (.cells (oN X).toArray 166):=r.trans (eX (λa=>some (Obj.cells a 166)) (jB (xW 166).toArray (oN X) rfl));have T:Sem.run V.prog (loadVar 166 (eQ y 0)) t=.ok (.agg (oN X).toArray) t:=rZ (oN X) D λj v C=>by rw[eJ];simpa using C
   have U:Ext w t:=R.eR S (ff F.size z);clear f g c e l p h i k o q r;refine⟨.agg (oN X).toArray,T,?_⟩;exact⟨_,rfl,rfl,U⟩
def vU(w:er)(a:fR)(xs:List Sx):Prop:=∀k (h:k<xs.length),∃b o,a=some ⟨b,o,none⟩/\∀j v,(oN xs[k])[j]? =some v->w.cell? ⟨b,o+k*8+j,none⟩=some v
def vU.ext{w c:er}{xs:List Sx}(h:vU w a xs)(e:Ext w c):vU c a xs:=λk d=>by obtain⟨b,o,f,g⟩:=h k d;exact⟨b,o,f,λj v i=>e.cell (g j v i)⟩
structure nQ(wp gp mk ms:Nat)(G:Gd)(xs:List Sx)(before:Int)(w:er):Prop where
 g:qX gp mk ms G w
 len:xs.length=G.doors.length
 bf:0<=before/\before<=5
 at_:∃sa sc,w.cell? ⟨wp,0,none⟩=some (.pointer (some ⟨gp,0,none⟩))/\w.cell? ⟨wp,1,none⟩=some (.slice sa xs.length sc)/\w.cell? ⟨wp,2,none⟩=some (.int .i64 before)/\vU w sa xs
section
variable{wp gp mk ms:Nat}{G:Gd}{xs:List Sx}{before:Int}{w:er}
theorem nQ.ext{a:er}(h:nQ wp gp mk ms G xs before w)(e:Ext w a):nQ wp gp mk ms G xs before a:=by obtain⟨b,c,d,f,i,j⟩:=h.at_;exact⟨h.g.ext e,h.len,h.bf,b,c,e.cell d,e.cell f,e.cell i,j.ext e⟩
def uk(G:Gd)(before a:Int):Int:=if oD a 0 (2*G.days-1)then(if a<before then 5 else 0)else 3
def Ry(h:nQ wp gp mk ms G xs before w)(a:Int):Calls V.prog 153 #[.pointer (some ⟨wp,0,none⟩),.int .i64 a] w (jy λv d=>v=.int .i64 (uk G before a)/\d=w):=by obtain⟨i,j,e,k,f,l⟩:=h.at_;refine jT Tryz.func153 Tryz.ntmps153 ?_;refine eH e (fw (last_at h.g) (fw (iv _ _ _ _) (gT ⟨λb=>?_,λb=>?_⟩)));exact⟨_,rfl,by simp at b;simp[uk,b],rfl⟩;simp at b;refine eH f (fO ⟨λc=>?_,λc=>?_⟩);exact⟨_,rfl,by simp[uk,b,fQ c],rfl⟩;exact⟨_,rfl,by simp[uk,b,gJ c],rfl⟩
def qQ(T:Int)(xs:List Sx)(k:Nat):ew:=(List.range k).filter λd=>match xs[d]? with
 |some x=>!gP T x
 |none=>false
def eO(T:Int)(xs:List Sx):ew:=qQ T xs xs.length
def yQ(T:Int)(xs:List Sx)(k:Nat)(a:k<xs.length):qQ T xs (k+1)=if gP T xs[k]then qQ T xs k else qQ T xs k++[k]:=by unfold qQ;rw[nF,List.filter_append];cases h:gP T xs[k]<;>simp[h,gC a]
def A2(T:Int)(xs:List Sx)(k:Nat):(qQ T xs k).length<=k:=by
 have:=List.length_filter_le (λd=>match xs[d]? with
  |some x=>!gP T x
  |none=>false) (List.range k)
 simpa[qQ]using this
def Et(h:nQ wp gp mk ms G xs before w):Calls V.prog 119 #[.pointer (some ⟨wp,0,none⟩)] w (jy λv c=>Ext w c/\jq w.heap.size c v (eO G.tries xs)):=by
 obtain⟨C,D,E,F,S,H⟩:=h.at_;have T:=h.g.wx.many;have U:=h.len;refine jT Tryz.func119 Tryz.ntmps119 ?_;refine eH F (fe (kZ (n:=xs.length) (λk v=>[(0,fp wp),(3,v),(9,.slice C xs.length D),(10,i64 xs.length),(11,i64 k)]) (λk v c=>Ext w c/\jq w.heap.size c v (qQ G.tries xs k)) (ig) ⟨by trivial,Ext.refl _,fc.nil _ _ _ _⟩ ?_ ?_ ?_));rintro k v c m ⟨e,f⟩;exact fO ⟨rfl,rfl,by trivial,e,f⟩;rintro k v c m ⟨e,f⟩;obtain⟨b,o,rfl,I⟩:=(H.ext e) k m;have x:=A2 G.tries xs k;refine iV k 8 m (iu (vs:=oN xs[k]) I (ji λW J K r L=>fV L λy M p=>?_));have i:Ext c y:=K.eR M r;have s:y.heap[J]? =some (.cells (oN xs[k]).toArray 166):=p.trans (eX (λa=>some (Obj.cells a 166)) (jB (xW 166).toArray (oN xs[k]) rfl));have N:=(h.g.ext e).ext i;clear p;refine fB fl (eZ (i.cell (e.cell E)) (dx (.agg (oN xs[k]).toArray) (λz d=>iu (vs:=oN xs[k]) (λj v O=>by rw[eJ];exact eB (d.at_ s) (by simpa using O)) iJ) (pg (.bool (gP G.tries xs[k])) (λz d=>zS (N.ext d) xs[k]) (uf λz d=>⟨λl=>?_,λl=>?_⟩))));have l:gP G.tries xs[k]=false:=by simpa using l
 have A:=(e.trans i).trans d;refine ie [Value.int .i64 k] 3 λX P q B t=>kP vk (((f.ext i).ext d).ext q) (ff A.size q.size) t (by omega) λQ Y u R _=>eK ⟨Q,by trivial,(A.trans q).oF R (((f.ext i).ext d).ext q) (eF _),?_⟩;rw[yQ _ _ _ m,l];simpa[jq,gU]using u;have l:gP G.tries xs[k]=true:=by simpa using l
 refine eK ⟨v,by trivial,(e.trans i).trans d,?_⟩;rw[yQ _ _ _ m,l];exact(f.ext i).ext d;rintro v c ⟨e,f⟩;exact⟨_,rfl,e,f⟩
end
def r9(s:Nat):fD:=[.bool (s.testBit 0),.bool (s.testBit 1),.bool (s.testBit 2),.bool (s.testBit 3),.bool (s.testBit 4)]
def Eu(l:ew)(d:Nat):Bool:=l.contains d
def OQ(l:ew):fD:=[.bool (Eu l 0),.bool (Eu l 1),.bool (Eu l 2),.bool (Eu l 3),.bool (Eu l 4)]
def Ma:∀s:Nat,s<32->∀d:Nat,d<5->Eu (fx s) d=s.testBit d:=by decide+kernel
def OR(s:Nat)(d:Nat)(h:d∈fx s):d<5:=by have:=(ku.1 h).1;simpa using this
def Mb(s:Nat)(w:er)(L:s<32):Calls V.prog 174 #[.int .u8 s] w (jy λv e=>v=.agg (r9 s).toArray/\Ext w e):=by
 refine jT Tryz.func174 Tryz.ntmps174 ?_;refine ji λw1 y M A N=>ji λO g P S i=>eL (wW s O L) λv T z=>?_;obtain⟨B,z⟩:=z;obtain⟨a,c,rfl,m,_⟩:=z.row;have C:=B.at_ (P.at_ N);have U:¬(y=g):=by have:=eV.lt_of_heap N;omega
 have Q:(fx s).length<=5:=oE s 5;have D:∀b o,a=some (eQ b o)->O.heap.size<=b:=λb o h=>by obtain⟨_,⟨_,f⟩|⟨b',c',cs,h1,f,_⟩⟩:=z;injection f with f;rw[f]at h;cases h;injection f with f;rw[f]at h;have:=eX Addr.block (eP h);simp at this;omega
 have W:=eV.lt_of_heap i;refine fe (gO (n:=(fx s).length) (λk=>[(2,fp y),(3,fp g),(7,.slice a (fx s).length c),(8,i64 (fx s).length),(9,i64 k)]) (λk e=>eY (λx=>x=g) T e/\e.heap[g]? =some (.cells (OQ ((fx s).take k)).toArray 217)) ⟨by trivial,eY.refl _ _,B.at_ i⟩ ?_ ?_ ?_);rintro k e p X;exact fO ⟨rfl,rfl,by trivial,X⟩
 ·rintro k e p ⟨q,r⟩;obtain⟨b,o,rfl,Y⟩:=m k p;have R:(fx s)[k]<5:=OR s _ (ft p);have E:¬(b=g):=by have:=D b o rfl;omega
  refine gN k p (eH (q.gM Y E) (vS (fx s)[k] 5 R (kY r (by simp[Value.cells,OQ];omega) (λt F G=>eK ⟨by trivial,q.trans F (λ_ _ h=>h) λ_ _ h=>h,?_⟩) (by simp[Value.cells,Value.oneCell']))));refine G.trans (eX (λa=>some (Obj.cells a 217)) ?_);rw[kM p];generalize (fx s)[k]=d at R;generalize (fx s).take k=l;have Z:∀j,Eu (l++[d]) j=(Eu l j||decide (j=d)):=λj=>by simp[Eu,List.contains_eq_mem,ja,Bool.decide_or]
  obtain rfl|rfl|rfl|rfl|rfl:d=0\/d=1\/d=2\/d=3\/d=4:=by omega
  all_goals simp[OQ,Z,jk,Value.cells]
 rintro e ⟨q,r⟩;have H:=q.iZ C U;rw[mI]at r;have I:OQ (fx s)=r9 s:=by simp[OQ,r9,Ma s L]
 rw[I]at r;refine iu (vs:=r9 s) (λj v J=>by rw[eJ];exact eB r (by simpa using J)) (fV H λt F u=>?_);have K:t.heap[y]? =some (.cells (r9 s).toArray 217):=u.trans (eX (λa=>some (Obj.cells a 217)) (jB (xW 217).toArray (r9 s) rfl));have hl:Sem.run V.prog (loadVar 217 (eQ y 0)) t=.ok (.agg (r9 s).toArray) t:=rZ (r9 s) K λj v J=>by rw[eJ];simpa using J
 have e5:Ext w t:=(((M.trans P).trans B).eR q (by have:=M.size;omega)).eR F A;clear u;refine⟨.agg (r9 s).toArray,hl,?_⟩;exact⟨_,rfl,rfl,e5⟩
section
variable{w:er}{k:eu->er->Prop}
def mE(w:er)(a:fR)(c:fD):Prop:=c=[]\/∃b o,a=some ⟨b,o,none⟩/\∀j u,c[j]? =some u->w.cell? ⟨b,o+j,none⟩=some u
def mE.ext{w c:er}{d:fD}(h:mE w a d)(e:Ext w c):mE c a d:=by obtain h|⟨b,o,f,g⟩:=h;exact .inl h;exact .inr ⟨b,o,f,λj u i=>e.cell (g j u i)⟩
def wX{b:fD}(c:GK T U b){x y:fI}(h:k (.bool a.isNone) w):lY V.prog (do eqGuard .eql T x y (.slice a m i) (.slice none 0 0);binOp .eql T (.slice a m i) (.slice none 0 0)) w k:=by have d:=Go.Lib.run_eql_slice_nil (P:=lS) w T U a m i 0 0 c.1;refine⟨_,w,?_,h⟩;go_simp
def Mc{zs:fD}{w:er}(b:m<=i)(c:w.heap[i]? =some (.cells #[] T)):fc m T zs w (.slice (some ⟨i,0,none⟩) 0 0) 0 []:=
 ⟨by simp,.inr ⟨i,0,_,b,rfl,c,by simp,eF _,by decide,λj a=>by simp at a,λj _ a=>by simp at a⟩⟩
def zU{e:eD}{zs:fD}{y:Array Bool}(l:GK T e zs){n0 p:Nat}{w:er}{d:fD}(v:w.heap[p]? =some (.cells #[] e))(A:n0<=p)(q:d.length=m*zs.length)(r:mE w a d)(B:∀u∈d,u.oneCell'=true)(x:m<=1000000) (s:∀n f,fc n0 e zs f n m d->(∀W,Ext W w->W.heap.size<=n0->Ext W f)->k n f):zw V.prog (builtin .append #[T,T] U y #[.slice (some ⟨p,0,none⟩) 0 0,.slice a m i]) w k:=by
 have c:=Mc (zs:=zs) A v;have g:0<zs.length:=by obtain⟨_,H,z,_,_,_,_,_,h⟩:=l;exact h
 have C:=eV.lt_of_heap v;obtain rfl|⟨b,o,rfl,r⟩:=r;obtain rfl:m=0:=by obtain h|h:=ri m;exact h;have:=Nat.mul_pos h g;simp at q;omega
 exact zQ l (eF _) (s _ _ c λW h _=>h);obtain rfl|t:=ri m;obtain rfl:d=[]:=by simpa using q
 exact zQ l (eF _) (s _ _ c λW h _=>h);exact I6 l c (by omega) q t (λj u D=>by rw[je];exact r j u D) B (by omega) λn f E F _=>s n f (by simpa using E) λW h G=>h.oF F c G
end
def OS:GK 139 166 (xW 166):=⟨by kernel_rfl,Tryz.t166,_,by kernel_rfl,rfl,by kernel_rfl,by kernel_rfl,by decide+kernel,by decide⟩
def zV(f:fG)(e:eD)(d:fD):Prop:=∀(a:fR) (l c:Nat) (b:fD) (w:er),b.length=l*d.length->(a=none->l=0)->mE w a b->(∀u∈b,u.oneCell'=true)->l<=1000000->Calls V.prog f #[.slice a l c] w (jy λv g=>Ext w g/\fc w.heap.size e d g v l b)
def OT:zV 128 3 [.int .i64 0]:=by
 intro a l c g w e i j k b;refine jT Tryz.func128 Tryz.ntmps128 ?_;refine wX vk ⟨λh=>?_,λh=>ie [] 3 λp q f d m=>zU vk m d e (j.ext f) k b λr s n o=>⟨_,rfl,o w f (eF _),n⟩⟩;obtain rfl:=i (by simpa using h);obtain rfl:g=[]:=by simpa using e
 exact⟨_,rfl,Ext.refl _,fc.nil _ _ _ _⟩
def T7:GK 26 29 [.int .i64 0,.slice none 0 0]:=⟨by kernel_rfl,Tryz.t29,_,by kernel_rfl,rfl,by kernel_rfl,by kernel_rfl,by decide+kernel,by decide⟩
def OU:GK 222 154 [.int .u8 0]:=⟨by kernel_rfl,Tryz.t154,_,by kernel_rfl,rfl,by kernel_rfl,by kernel_rfl,by decide+kernel,by decide⟩
def OV:zV 154 166 (xW 166):=by
 intro a l c g w e i j k b;refine jT Tryz.func154 Tryz.ntmps154 ?_;refine wX OS ⟨λh=>?_,λh=>ie [] 166 λp q f d m=>zU OS m d e (j.ext f) k b λr s n o=>⟨_,rfl,o w f (eF _),n⟩⟩;obtain rfl:=i (by simpa using h);obtain rfl:g=[]:=by simpa using e
 exact⟨_,rfl,Ext.refl _,fc.nil _ _ _ _⟩
def OW:zV 155 29 [.int .i64 0,.slice none 0 0]:=by
 intro a l c g w e i j k b;refine jT Tryz.func155 Tryz.ntmps155 ?_;refine wX T7 ⟨λh=>?_,λh=>ie [] 29 λp q f d m=>zU T7 m d e (j.ext f) k b λr s n o=>⟨_,rfl,o w f (eF _),n⟩⟩;obtain rfl:=i (by simpa using h);obtain rfl:g=[]:=by simpa using e
 exact⟨_,rfl,Ext.refl _,fc.nil _ _ _ _⟩
def OX:zV 199 154 [.int .u8 0]:=by
 intro a l c g w e i j k b;refine jT Tryz.func199 Tryz.ntmps199 ?_;refine wX OU ⟨λh=>?_,λh=>ie [] 154 λp q f d m=>zU OU m d e (j.ext f) k b λr s n o=>⟨_,rfl,o w f (eF _),n⟩⟩;obtain rfl:=i (by simpa using h);obtain rfl:g=[]:=by simpa using e
 exact⟨_,rfl,Ext.refl _,fc.nil _ _ _ _⟩
def iM.cells{w:er}{a:fR}{l:ew}(h:iM w a l):mE w a (gU l):=by
 obtain _|⟨x,r⟩:=l;exact .inl rfl;obtain⟨b,o,rfl,_⟩:=h 0 (by simp);refine .inr ⟨b,o,rfl,λj u d=>?_⟩;have c:j<(x::r).jK:=by simpa[gU]using(kS.1 d).1
 obtain⟨f,g,e,i⟩:=h j c;obtain⟨rfl,rfl⟩:b=f/\o=g:=by injection e with e;injection e with k m;exact⟨k,m⟩
 rw[i];have:(gU (x::r))[j]? =some (i64 ((x::r)[j]:Nat)):=by simp only[gU,ng,gC c];rfl
 rw[this]at d;exact d
def iM.um(h:iM w none l):l.length=0:=by obtain _|⟨x,r⟩:=l;rfl;obtain⟨b,o,e,_⟩:=h 0 (by simp);cases e
def OY(l:ew):∀u∈gU l,u.oneCell'=true:=λu a=>by obtain⟨n,_,rfl⟩:=iX.1 a;rfl
def oe(h:iM w a l)(b:l.length<=1000000):Calls V.prog 128 #[.slice a l.length m] w (jy λv c=>Ext w c/\jq w.heap.size c v l):=
 OT a l.jK m (gU l) w (by simp[gU]) (λe=>by subst e;exact h.um) h.cells (OY l) b
def vm(w:er)(a:fR)(c:List ew):Prop:=∀k (h:k<c.length),∃b o d e,a=some ⟨b,o,none⟩/\w.cell? ⟨b,o+k,none⟩=some (.slice d c[k].length e)/\iM w d c[k]/\c[k].length<=e
theorem vm.ext{c:List ew}(h:vm w a c)(e:Ext w t):vm t a c:=λk d=>by obtain⟨b,o,f,g,i,j,l,m⟩:=h k d;exact⟨b,o,f,g,i,e.cell j,l.ext e,m⟩
def iW(c:Nat)(w:er)(v:eu)(a:List ew):Prop:=∃b:fD,fc c 27 [.slice none 0 0] w v a.length b/\b.length=a.length/\∀k (h:k<a.length),∃u,b[k]? =some u/\jq c w u a[k]
theorem iW.ext{a:List ew}(h:iW m w x a)(e:Ext w t):iW m t x a:=by obtain⟨b,c,d,f⟩:=h;refine⟨b,c.ext e,d,λk g=>?_⟩;obtain⟨u,i,j⟩:=f k g;exact⟨u,i,j.ext e⟩
theorem iW.row{d:List ew}(h:iW m w x d):∃a c,x=.slice a d.length c/\vm w a d/\d.length<=c:=by obtain⟨t,⟨v,⟨g,rfl⟩|⟨b,c,y,z,rfl,i,A,j,B,l,C⟩⟩,D,e⟩:=h;exact⟨none,0,by rw[g],λk f=>by omega,by omega⟩;refine⟨_,c,rfl,λk f=>?_,j⟩;obtain⟨u,n,o⟩:=e k f;obtain⟨p,q,rfl,r,s⟩:=o.row;exact⟨b,0,p,q,rfl,eB i (by rw[eJ,l k (by omega)];exact n),r,s⟩
def nw{g d:fD}(h:fc m i M w x o g)(l:fc k j Y w y p d)(n:i≠j)(b:Nat)(q:eG x b):¬eG y b:=λf=>by obtain⟨_,_,rfl⟩:=q;obtain⟨_,_,rfl⟩:=f;obtain⟨_,⟨_,e⟩|⟨t,_,u,_,e,r,_⟩⟩:=h;cases e;obtain⟨_,⟨_,c⟩|⟨v,_,s,_,c,a,_⟩⟩:=l;cases c;injection e with e;injection c with c;have e:=eX Addr.block (eP e);have c:=eX Addr.block (eP c);simp only at e c;subst e;subst c;rw[r]at a;injection a with a;injection a with _ a;exact n a
def Rz{r:oz}{u:Array Bool}{b:List ew}(h:iW m w x b)(n:m<=w.heap.size)(o:jq m w y l)(v:w.heap[k]? =some (.cells [y].toArray 27))(c:b.length+1<=1000000) (z:∀g d,iW m d g (b++[l])->(∀W,Ext W w->W.heap.size<=m->Ext W d)->r g d):zw V.prog (builtin .append #[66,66] T u #[x,.slice (some ⟨k,0,none⟩) 1 i]) w r:=by
 obtain⟨A,j,s,B⟩:=h;have e:y.oneCell'=true:=by obtain⟨a,i,rfl,_⟩:=o.row;rfl
 refine kP OK j n v c (λg d C p J=>z g d ⟨A++[y],by simpa using C,by simp[s],λq D=>?_⟩ λW E F=>E.oF p j F) rfl (by simp[tg,e]);obtain f|G:=gQ q b.length;obtain⟨H,I,t⟩:=B q f;refine⟨H,by rw[oR (by omega)];exact I,?_⟩;rw[nE f];exact t.keep p (nw t j (by decide));obtain rfl:q=b.length:=by simp at D;omega
 refine⟨y,by rw[ow (by omega)];simp[s],?_⟩;simp only[sO (eF _),mj,oy];exact o.keep p (nw o j (by decide))
def jq.low(h:jq m w x l)(f:k<=m):jq k w x l:=by obtain⟨a,h|⟨b,c,d,g,e⟩⟩:=h;exact⟨a,.inl h⟩;exact⟨a,.inr ⟨b,c,d,by omega,e⟩⟩
def I9(a:List ew)(i:fR)(m:Nat)(w:er)(q:vm w i a)(p:a.length<=100000)(r:∀l∈a,l.length<=100000):Calls V.prog 131 #[.slice i a.length m] w (jy λv c=>Ext w c/\iW w.heap.size c v a):=by refine jT Tryz.func131 Tryz.ntmps131 ?_;refine fe (kZ (n:=a.length) (λk v=>[(3,v),(6,.slice i a.length m),(7,i64 a.length),(8,i64 k)]) (λk v c=>Ext w c/\iW w.heap.size c v (a.take k)) (ig) ⟨by trivial,Ext.refl _,[],fc.nil _ _ _ _,rfl,λk d=>by simp at d⟩ ?_ ?_ ?_);rintro k v c d ⟨e,f⟩;exact fO ⟨rfl,rfl,by trivial,e,f⟩;rintro k v c d ⟨e,f⟩;obtain⟨b,o,C,D,rfl,s,t,_⟩:=(q.ext e) k d;refine gN k d (eH s (eL (oe t (by have:=r _ (ft d);omega)) λu E g=>?_));obtain⟨j,g⟩:=g;refine ie [u] 27 (λF G h x y=>Rz ((f.ext j).ext h) (by have:=e.size;have:=j.size;have:=h.size;omega) ((g.low e.size).ext h) y (by simp;omega) λz H A B=>eK ⟨z,by trivial,B w ((e.trans j).trans h) (eF _),?_⟩) ?_;rw[kM d];exact A;obtain⟨I,J,rfl,_⟩:=g.row;intro w;kernel_rfl;rintro v c ⟨e,f⟩;rw[mI]at f;exact⟨_,rfl,e,f⟩
def jr{p:Type}(n:Nat){d:Code}{l:L}{Q:QW}(i:Nat->p->L)(J:Nat->p->fa)(q:p)(u:Sub (i 0 q) l/\J 0 q w)
 (f:∀b s w,b<=n->J b s w->WC V.prog H7 m d (λe v x=>match e with
  | .normal=>b<n/\∃o,Sub (i (b+1) o) v/\J (b+1) o x
  |e=>lE k Q e v x) (i b s) w):iq V.prog m (Code.block k (Code.loop d)) l w Q:=by
 refine⟨λa r=>?_⟩;refine wp_block<|pd (λj a w=>∃b s,b<=n/\j=n-b/\Fr m (i b s) a/\J b s w) n ⟨0,q,iQ _,by omega,r.sub u.1,u.2⟩ ?_;rintro j a w ⟨b,s,y,rfl,r,z⟩;refine mY (kC fu _ _ _ a w r (f b s w y z)) ?_;rintro e E F ⟨t,c,h⟩;cases e with
 |normal=>
  obtain⟨A,o,B,C⟩:=h;exact⟨n-(b+1),by omega,b+1,o,by omega,rfl,c.sub B,C⟩
 |exit j=>
  simp only[Exit.then,Exit.inBlock];by_cases g:j=k;subst g;rw[eC rfl];simp only[lE,yE]at h;exact⟨t,c,h⟩;rw[ez g];have:Nat.beq j k=false:=by
   cases D:Nat.beq j k with
   |false=>rfl
   |true=>exact absurd (jL D) g
  simp only[lE,this]at h;exact⟨t,c,h⟩
 |_=>exact⟨t,c,h⟩
def Ja(l a:iA)(n f:fR)(r i:Nat)(w:er)(x:nz w n l)(p:nz w f a)(s:l.length<=100000):
 Calls V.prog 58 #[.slice n l.length r,.slice f a.length i] w (jy λv m=>v=.bool (decide (l=a))/\Ext w m):=by
 refine jT Tryz.func58 Tryz.ntmps58 ?_;refine fe (fe (jS ⟨λh=>?_,λh=>?_⟩));have h:¬l=a:=λe=>by subst e;simp at h
 exact⟨_,rfl,by simp[h],Ext.refl _⟩;have h:l.length=a.length:=by simp at h;omega
 refine jr l.length (λk (_:Unit)=>[(0,.slice n l.length r),(1,.slice f a.length i),(5,i64 k)]) (λk _ m=>Ext w m/\l.take k=a.take k) () ⟨by trivial,Ext.refl _,by simp⟩ ?_;rintro k _ m C ⟨e,t⟩;refine fe (fO ⟨λc=>?_,λj=>?_⟩);have c:k<l.length:=by simpa using c
 have d:k<a.length:=by omega
 obtain⟨b,o,rfl,y⟩:=x k c;obtain⟨D,E,rfl,q⟩:=p k d;refine fB fl (sZ k c (eZ (e.cell y) (sZ k d (eZ (e.cell q) (S8 λF u=>⟨λg=>?_,λg=>?_⟩)))));have g:¬l[k]=a[k]:=fQ g;have:¬l=a:=λe=>by subst e;exact g rfl
 exact⟨_,rfl,by simp[this],e.trans u⟩;have g:l[k]=a[k]:=by simpa using g
 refine eK ⟨c,(),by trivial,e.trans u,?_⟩;rw[kM c,kM d,t,g];have j:¬k<l.length:=by simpa using j
 have z:k=l.length:=by omega
 have:l=a:=by have A:l.take k=l:=tu (by omega);have B:a.take k=a:=tu (by omega);rw[<-A,<-B,t]
 exact⟨_,rfl,by simp[this],e⟩
def RA:qY l=qY f↔l=f:=by
 constructor;intro h;induction l generalizing f with
 |nil=>cases f with
  |nil=>rfl
  |cons x r=>simp[qY]at h
 |cons x r a=>cases f with
  |nil=>simp[qY]at h
  |cons y s=>
   simp only[qY,lK,sM]at h;rw[a h.2,show x=y by omega]
 rintro rfl;rfl
def sd(l b:ew)(e a:fR)(g c:Nat)(w:er)(h:iM w e l)(f:iM w a b)(d:l.length<=100000):
 Calls V.prog 58 #[.slice e l.length g,.slice a b.length c] w (jy λv i=>v=.bool (decide (l=b))/\Ext w i):=by
 have:=Ja (qY l) (qY b) e a g c w h.ints f.ints (by simpa[qY]using d);have j:(qY l).length=l.length:=by simp[qY]
 have k:(qY b).length=b.length:=by simp[qY]
 rw[j,k]at this;simpa only[RA]using this
def GU(l a:List ew)(q i:fR)(y j:Nat)(w:er)(C:vm w q l)(r:vm w i a)(z:l.length<=100000)(s:∀x∈l,x.length<=100000):
 Calls V.prog 71 #[.slice q l.length y,.slice i a.length j] w (jy λv p=>v=.bool (decide (l=a))/\Ext w p):=by
 refine jT Tryz.func71 Tryz.ntmps71 ?_;refine fe (fe (jS ⟨λh=>?_,λh=>?_⟩));have h:¬l=a:=λe=>by subst e;simp at h
 exact⟨_,rfl,by simp[h],Ext.refl _⟩;have h:l.length=a.length:=by simp at h;omega
 refine jr l.length (λk (_:Unit)=>[(0,.slice q l.length y),(1,.slice i a.length j),(5,i64 k)]) (λk _ p=>Ext w p/\l.take k=a.take k) () ⟨by trivial,Ext.refl _,by simp⟩ ?_;rintro k _ p I ⟨e,A⟩;refine fe (fO ⟨λd=>?_,λm=>?_⟩);have d:k<l.length:=by simpa using d
 have f:k<a.length:=by omega
 obtain⟨b,o,x,c,rfl,D,g,_⟩:=(C.ext e) k d;obtain⟨J,K,E,F,rfl,t,u,_⟩:=(r.ext e) k f;refine fB fl (sZ k d (eZ D (sZ k f (eZ t (pg (.bool (decide (l[k]=a[k]))) (λB n=>sd l[k] a[k] x E c F B (g.ext n) (u.ext n) (s _ (ft d))) (uf λB n=>⟨λg=>?_,λg=>?_⟩))))));have g:¬l[k]=a[k]:=by simpa using g
 have:¬l=a:=λe=>by subst e;exact g rfl
 exact⟨_,rfl,by simp[this],e.trans n⟩;have g:l[k]=a[k]:=by simpa using g
 refine eK ⟨d,(),by trivial,e.trans n,?_⟩;rw[kM d,kM f,A,g];have m:¬k<l.length:=by simpa using m
 have:l=a:=by have G:l.take k=l:=tu (by omega);have H:a.take k=a:=tu (by omega);rw[<-G,<-H,A]
 exact⟨_,rfl,by simp[this],e⟩
structure zA(w:er)(gp mk ms:Nat)(G:Gd)(w':er):Prop where
 g:qX gp mk ms G w'
 lo:w.heap.size<=gp/\w.heap.size<=mk/\w.heap.size<=ms
 km:w'.heap[mk]? =some (.map #[] 0)
 sm:w'.heap[ms]? =some (.map #[] 0)
theorem zA.ext{gp mk ms:Nat}(h:zA w gp mk ms H t)(a:Ext t e):zA w gp mk ms H e:=⟨h.g.ext a,h.lo,a.at_ h.km,a.at_ h.sm⟩
def zA.low{gp mk ms:Nat}(h:zA w gp mk ms H e)(a:Ext t w):zA t gp mk ms H e:=⟨h.g,by have:=a.size;have:=h.lo;omega,h.km,h.sm⟩
def CY{dc:Nat}(h:lM w a H.doors)(b:H.doors.length<=100000):
 Calls V.prog 144 #[gV H a dc] w (jy λv d=>Ext w d/\((ij H≠0/\v=.tuple #[.pointer none,.int .i64 (ij H)])\/(ij H=0/\∃c mk f,v=.tuple #[.pointer (some ⟨c,0,none⟩),.int .i64 0]/\zA w c mk f H d))):=by
 refine(L6 H a dc w h b).mono ?_;rintro e d ⟨v,rfl,i,j⟩;refine⟨v,rfl,i,j.imp id ?_⟩;rintro⟨k,c,mk,f,l,m,n,o,p,q,g⟩;exact⟨k,c,mk,f,l,m,⟨n,o,p⟩,q,g⟩
def jz(c:w.heap[k]? =some (.cells (gL H a m).toArray 24)){b:oz}(h:b (gV H a m) w):lY V.prog (Instr.loadAt 24 (.pointer (some ⟨k,0,none⟩))) w b:=
 iu (vs:=gL H a m) (λj v d=>by rw[eJ];exact eB c (by simpa using d)) h
def A3{dc:Nat}(k:lM w a H.doors)(b:H.doors.length<=100000){l:iA}{la:fR}{lc:Nat}(m:nz w la l)(n:l.length<=100000)(o:l.length<=lc):
 Calls V.prog 113 #[gV H a dc,.slice la l.length lc] w (jy λv i=>Ext w i/\((ij H≠0/\v=.tuple #[.pointer none,.int .i64 (ij H)])\/(ij H=0/\∃d mk f,v=.tuple #[.pointer (some ⟨d,0,none⟩),.int .i64 (jQ H.doors.length l)]/\zA w d mk f H i))):=by
 refine jT Tryz.func113 Tryz.ntmps113 ?_;refine jx λr s c p q=>jz q (eL (CY (dc:=dc) (k.ext c) b) ?_);rintro v t ⟨h,⟨e,rfl⟩|⟨e,d,mk,f,rfl,j⟩⟩;exact jS (lq (by simpa using e) ⟨_,rfl,c.trans h,.inl ⟨e,rfl⟩⟩);exact jS (nU (by simp) (fw (CW j.g (m.ext (c.trans h)) n o) ⟨_,rfl,c.trans h,.inr ⟨e,d,mk,f,rfl,j.low c⟩⟩))
def nV(G:Gd)(l:iA):Int:=if ij G=0 then jQ G.doors.length l else ij G
def oW(a b:Int):fD:=[.int .i64 a,.int .i64 b]
def qA{l:iA}(h:jQ m l=0):∃a:ew,l=qY a/\(∀d∈a,d<m):=by
 have e:∀(l b:iA),oq m b l=0->∃a:ew,l=qY a/\∀d∈a,d<m:=by
  intro l;induction l with
  |nil=>intro _ _;exact⟨[],rfl,λd c=>by cases c⟩
  |cons x r f=>
   intro b h;simp only[oq]at h;split at h;rename_i g;split at h;omega;obtain⟨a,i,j⟩:=f _ h;simp[oD]at g;refine⟨x.toNat::a,?_,λd c=>?_⟩;simp only[qY,lK,sM];exact⟨by omega,i⟩;obtain rfl|c:=gI.1 c;omega;exact j d c;omega
 exact e l [] h
def nz.GV(h:nz w a (qY l)):iM w a l:=λk c=>by obtain⟨b,o,d,e⟩:=h k (by simpa[qY]using c);exact⟨b,o,d,by rw[e];simp[qY]⟩
def xZ(G:Gd)(l:iA):eu:=if nV G l=0 then .tuple #[.agg (oW (mL G (l.map Int.toNat)) (jX G (l.map Int.toNat))).toArray,.int .i64 0]else .tuple #[.agg (oW 0 0).toArray,.int .i64 (nV G l)]
def Md{dc:Nat}(G:lM w a H.doors)(p:H.doors.length<=100000){l:iA}{la:fR}{lc:Nat}(C:nz w la l)(x:l.length<=100000)(I:l.length<=lc):
 Calls V.prog 44 #[gV H a dc,.slice la l.length lc] w (jy λv J=>v=xZ H l/\Ext w J):=by
 refine jT Tryz.func44 Tryz.ntmps44 ?_;refine jx λS T i K L=>ji λM D m N q=>jz (m.at_ L) (eL (A3 (dc:=dc) (G.ext (i.trans m)) p (C.ext (i.trans m)) x I) ?_);have r:∀(n:er),Ext M n->nV H l≠0->∀k:fa,(∀d,Ext w d->Sem.run V.prog (loadVar 56 (eQ D 0)) d=.ok (.agg (oW 0 0).toArray) d->k d)->H5 V.prog (Instr.storeAt 56 (fp D) (.agg (oW 0 0).toArray)) n k:=λn e b k O=>
  fV (e.at_ q) λd P y=>O d (((i.trans m).trans e).eR P (by have:=i.size;omega)) (rZ (oW 0 0) y λj v z=>by rw[eJ];show(oW 0 0).toArray[j]? =some v;simpa using z)
 rintro v n ⟨e,⟨o,rfl⟩|⟨o,U,mk,W,rfl,E⟩⟩;have b:nV H l=ij H:=by simp[nV,o]
 refine jS (lq (by simpa using o) (gK (.agg (oW 0 0).toArray) (r n e (by rw[b];exact o) _ λd f A=>⟨_,A,_,rfl,?_,f⟩)));rw[xZ,b,ez o];rfl;have b:nV H l=jQ H.doors.length l:=by simp[nV,o]
 refine jS ⟨λh=>?_,λh=>?_⟩;have h:¬jQ H.doors.length l=0:=fQ h;refine gK (.agg (oW 0 0).toArray) (r n e (by rw[b];exact h) _ λd f A=>⟨_,A,_,rfl,?_,f⟩);rw[xZ,b,ez h];rfl;have h:jQ H.doors.length l=0:=by simpa using h
 obtain⟨c,rfl,s⟩:=qA h;have Q:(qY c).length=c.length:=by simp[qY]
 have t:=((C.ext (i.trans m)).ext e).GV;have u:(qY c).map Int.toNat=c:=by simp[qY,wC]
 rw[Q]at x⊢;refine hH (GS E.g s x t) λd f=>hH (En (E.ext f).g s x (t.ext f)) λX F=>?_;refine gK (.agg (oW (mL H c) (jX H c)).toArray) (fV (F.at_ (f.at_ (e.at_ q))) λY R B=>⟨_,rZ (oW (mL H c) (jX H c)) B λj v z=>by rw[eJ];show(oW (mL H c) (jX H c)).toArray[j]? =some v;simpa using z,_,rfl,?_,?_⟩);rw[xZ,b,eC h,u];rfl;exact(((i.trans m).trans e).trans (f.trans F)).eR R (by have:=i.size;omega)
def OZ:List Dr:=[⟨0,3,5⟩,⟨0,8,2⟩,⟨1,5,4⟩,⟨1,2,6⟩]
def iN:Gd:=⟨2,4,1,40,3,2,OZ⟩
def Me{a:List Dr}(h:w.heap[m]? =some (.cells (a.flatMap dL).toArray T)):lM w (some ⟨m,0,none⟩) a:=λk b=>by obtain⟨c,d,e⟩:=wU a k b;exact⟨m,0,rfl,eB h (by rw[eJ];simpa using c),eB h (by rw[eJ];simpa using d),eB h (by rw[eJ];simpa using e)⟩
def O0(w:er):Calls V.prog 95 #[] w (jy λv k=>Ext w k/\∃b,w.heap.size<=b/\v=gV iN (some ⟨b,0,none⟩) 4/\k.heap[b]? =some (.cells (OZ.flatMap dL).toArray 81)):=by
 refine jT Tryz.func95 Tryz.ntmps95 ?_;refine ji λr d l e m=>gK (.agg (dL ⟨0,3,5⟩).toArray) (gK (.agg (dL ⟨0,8,2⟩).toArray) (gK (.agg (dL ⟨1,5,4⟩).toArray) (gK (.agg (dL ⟨1,2,6⟩).toArray) (ie (OZ.flatMap dL) 81 λs b n t f=>?_))));refine gK (gV iN (qh b 0) 4) (fV (n.at_ m) λg o c=>?_);have h:g.heap[d]? =some (.cells (gL iN (qh b 0) 4).toArray 24):=c.trans (eX (λa=>some (Obj.cells a 24)) (jB (xW 24).toArray (gL iN (qh b 0) 4) rfl));have p:Sem.run lS (loadVar 24 (eQ d 0)) g=.ok (gV iN (qh b 0) 4) g:=rZ (gL iN (qh b 0) 4) h λj v q=>by rw[eJ];simpa using q
 clear c;have i:¬(b=d):=by have:=eV.lt_of_heap m;omega
 refine⟨gV iN (qh b 0) 4,p,?_⟩;exact⟨_,rfl,(l.trans n).eR o e,b,by have:=l.size;omega,rfl,o.iZ f i⟩
structure Ty where
 door:Nat
 shift:Nat
 opened:Bool
def tL(t:Ty):fD:=[.int .i64 t.door,.int .i64 t.shift,.bool t.opened]
def O1:List Ty:=[⟨0,0,false⟩,⟨1,0,true⟩,⟨2,1,false⟩]
def Mf(w:er):Calls V.prog 96 #[] w (jy λv c=>Ext w c/\∃b,w.heap.size<=b/\v=.slice (some ⟨b,0,none⟩) 3 3/\c.heap[b]? =some (.cells (O1.flatMap tL).toArray 84)):=by refine jT Tryz.func96 Tryz.ntmps96 ?_;exact gK (.agg (tL ⟨0,0,false⟩).toArray) (gK (.agg (tL ⟨1,0,true⟩).toArray) (gK (.agg (tL ⟨2,1,false⟩).toArray) (ie (O1.flatMap tL) 84 λf b d e a=>⟨_,rfl,d,b,e,rfl,a⟩)))
def Ev(b:Int)(a:fR)(l c:Nat)(w:er):Calls V.prog 97 #[.int .i64 b,.slice a l c] w (jy λv g=>v=.agg #[.int .i64 b,.slice a l c]/\Ext w g):=by
 refine jT Tryz.func97 Tryz.ntmps97 ?_;refine ji λp h i d k=>gK (.agg ([i64 b,.slice a l c]:fD).toArray) (fV k λf m e=>?_);have n:Sem.run lS (loadVar 29 (eQ h 0)) f=.ok (.agg ([i64 b,.slice a l c]:fD).toArray) f:=rZ _ e λj v o=>by rw[eJ];show([i64 b,.slice a l c]:fD).toArray[j]? =some v;simpa using o
 exact⟨_,n,_,rfl,rfl,i.eR m d⟩
theorem x6:∀a:List Sx,(a.flatMap oN).length=a.length*8
 |[]=>rfl
 |x::r=>by have:=x6 r;simp[oN,this];omega
theorem yd:∀(a:List Sx) (k:Nat) (b:k<a.length) (j:Nat) (v:eu),(oN a[k])[j]? =some v->(a.flatMap oN)[k*8+j]? =some v
 |x::r,0,_,j,v,h=>by have c:j<(oN x).length:=(kS.1 h).1;simp only[sN,Nat.zero_mul,eJ];rw[oR c];exact h
 |x::r,k+1,b,j,v,h=>by have d:=yd r k (by simpa using b) j v (by simpa using h);have e:(oN x).length=8:=rfl;simp only[sN];rw[ow (by omega),e,show(k+1)*8+j-8=k*8+j by omega];exact d
structure pW(sb:Nat)(xs:List Sx)(w:er):Prop where
 out:∃cs,w.heap[sb]? =some (.cells cs 166)/\xs.length*8<=cs.size/\∀k (h:k<xs.length) j v,(oN xs[k])[j]? =some v->cs[k*8+j]? =some v
def pW.row{a:List Sx}(h:pW m a w):vU w (some ⟨m,0,none⟩) a:=λk b=>by obtain⟨f,c,g,d⟩:=h.out;exact⟨m,0,rfl,λj v e=>eB c (by rw[eJ];exact d k b j v e)⟩
def pW.ext{a:List Sx}(h:pW m a w)(e:Ext w t):pW m a t:=by obtain⟨b,c,d⟩:=h.out;exact⟨b,e.at_ c,d⟩
def pW.keep{a:List Sx}(h:pW m a w)(k:eY A w t)(b:¬A m):pW m a t:=by obtain⟨c,d,e⟩:=h.out;exact⟨c,k.iZ d b,e⟩
def O2{b:List Sx}(h:pW m b w)(a o:Nat)(F:a<b.length)(c:k=a*8+o)(n:Sx)(G:o+x.cells.size<=8)
 (r:∀j u,(oN n)[j]? =some u->(if o<=j/\j<o+x.cells.size then x.cells.toList[j-o]? else(oN b[a])[j]?)=some u)
 (s:∀d,eY (λt=>t=m) w d->pW m (b.set a n) d->S d)(v:tg x.cells.toList=true:=by rfl)(y:S6 T=some x.cells.size:=by rfl):H5 V.prog (Instr.storeAt T (.pointer (some ⟨m,k,none⟩)) x) w S:=by
 subst c;obtain⟨z,A,B,p⟩:=h.out;have H:a*8+8<=z.size:=by have:=rJ 8 (show a+1<=b.length by omega);omega
 refine kY A (by omega) (λd C l=>s d C ⟨_,l,by rw[nu];simpa using B,λi D j u e=>?_⟩) (iK v) y;have E:j<8:=(kS.1 e).1;rw[nd _ _ _ _ (by simp;omega)];simp only[Array.length_toList];have f:i<b.length:=by simpa using D
 by_cases g:i=a;subst g;rw[List.getElem_set_self]at e;have:=r j u e;by_cases q:o<=j/\j<o+x.cells.size;rw[eC q]at this;rw[eC (by omega),show i*8+j-(i*8+o)=j-o by omega];exact this;rw[ez q]at this;rw[ez (by omega)];exact p i f j u this;rw[List.getElem_set_ne (by omega)]at e;rw[ez (by obtain h|h:=Nat.lt_or_gt_of_ne g;have:=rJ 8 (show i+1<=a by omega);omega;have:=rJ 8 (show a+1<=i by omega);omega)];exact p i f j u e
def leave1(a:List Sx)(d:Nat):List Sx:=match a[d]? with
 |some x=>a.set d {x with left:=true}
 |none=>a
def lZ(a:List Sx)(l:ew):List Sx:=l.foldl leave1 a
def Jb(a:List Sx)(d:Nat):(leave1 a d).length=a.length:=by unfold leave1;split<;>simp
theorem se:∀(l:ew) (a:List Sx),(lZ a l).length=a.length
 |[],_=>rfl
 |d::r,a=>(se r (leave1 a d)).trans (Jb a d)
def GW(a:List Sx)(l:ew)(k:Nat)(b:k<l.length):lZ a (l.take (k+1))=leave1 (lZ a (l.take k)) l[k]:=by rw[kM b];simp only[lZ,re,nD,List.foldl_nil]
def vV(e:Nat)(w:er)(v:eu)(b:List Sx):Prop:=(b=[]/\∃a c,v=.slice a 0 c)\/∃d c,e<=d/\v=.slice (some ⟨d,0,none⟩) b.length c/\pW d b w
def vU.cells{w:er}{a:fR}{c:List Sx}(h:vU w a c):mE w a (c.flatMap oN):=by
 obtain _|⟨x,r⟩:=c;exact .inl rfl;obtain⟨b,o,rfl,_⟩:=h 0 (by simp);refine .inr ⟨b,o,rfl,λj u g=>?_⟩;have m:j<(x::r).jK*8:=by rw[<-x6];exact(kS.1 g).1
 have i:j/8<(x::r).jK:=by omega
 obtain⟨n,p,e,q⟩:=h (j/8) i;obtain⟨rfl,rfl⟩:b=n/\o=p:=by injection e with e;injection e with s t;exact⟨s,t⟩
 have v:j%8<(oN (x::r)[j/8]).jK:=by show j%8<8;omega
 have k:=gC v;have d:=yd (x::r) (j/8) i (j%8) _ k;have l:=q (j%8) _ k;have f:j/8*8+j%8=j:=by omega
 rw[f]at d;rw[g]at d;obtain rfl:=eP d;have:o+j/8*8+j%8=o+j:=by omega
 rw[this]at l;exact l
def vU.um{a:List Sx}(h:vU w none a):a.length=0:=by obtain _|⟨x,r⟩:=a;rfl;obtain⟨b,o,e,_⟩:=h 0 (by simp);cases e
def wY{c:List Sx}(h:vU w a c)(d:c.length<=1000000):Calls V.prog 154 #[.slice a c.length m] w (jy λv g=>Ext w g/\vV w.heap.size g v c):=by refine(OV a c.length m (c.flatMap oN) w (x6 c) (λe=>by subst e;exact h.um) h.cells (λu f=>?_) d).mono ?_;obtain⟨x,_,f⟩:=mH.1 f;simp[oN]at f;obtain rfl|rfl|rfl|rfl|rfl|rfl|rfl|rfl:=f<;>rfl;rintro e g ⟨v,rfl,i,B,⟨n,rfl⟩|⟨b,o,p,q,rfl,r,s,t,C,y,D⟩⟩;exact⟨_,rfl,i,.inl ⟨nC n,none,0,rfl⟩⟩;refine⟨_,rfl,i,.inr ⟨b,o,q,rfl,⟨p,r,?_,λk z j v A=>?_⟩⟩⟩;have:(xW 166).length=8:=rfl;rw[this]at s;have:=rJ 8 t;omega;have l:=yd c k z j v A;rw[y _ (kS.1 l).1];exact l
def Jc{wp gp mk ms:Nat}{p:List Sx}(h:nQ wp gp mk ms H p I w)(X:iM w a l)(Y:∀d∈l,d<p.length)(O:l.length<=100000):
 Calls V.prog 171 #[.pointer (some ⟨wp,0,none⟩),.slice a l.length m] w (jy λv r=>Ext w r/\∃z,v=.pointer (some ⟨z,0,none⟩)/\nQ z gp mk ms H (lZ p l) I r):=by
 obtain⟨Z,sc,h1,P,h3,h4⟩:=h.at_;have aa:p.length<=5:=by have:=h.len;have:=h.g.wx.many;omega
 refine jT Tryz.func171 Tryz.ntmps171 ?_;refine iu (vs:=[fp gp,.slice Z p.length sc,i64 I]) (λj v f=>?_) (ji λw1 D e1 A q=>fV q λJ k2 s=>?_);match j,f with
 |0,f=>cases f;exact h1
 |1,f=>cases f;exact P
 |2,f=>cases f;exact h3
 have E:Ext w J:=e1.eR k2 A;refine eH (E.cell P) (eL (wY (h4.ext E) (by omega)) ?_);rintro v w3 ⟨Q,R⟩;have ab:=eV.lt_of_heap s;have i:v.oneCell'=true/\v.cells=#[v]:=by obtain⟨_,S,c,rfl⟩|⟨B,c,_,rfl,_⟩:=R<;>exact⟨rfl,rfl⟩
 refine kY (Q.at_ s) (by rw[i.2];exact sS rfl) (λK T t=>?_) (by rw[i.2];simpa using i.1) (by rw[i.2];rfl);rw[i.2]at t;have L:gY K D #[fp gp,v,i64 I] 141:=t;clear t s;have e4:Ext w K:=(E.trans Q).eR T A;have M:vV J.heap.size K v p:=by obtain h|⟨B,c,F,g2,C⟩:=R;exact .inl h;exact .inr ⟨B,c,F,g2,C.keep T (by omega)⟩
 refine fe (gO (n:=l.length) (λk=>[(5,fp D),(17,.slice a l.length m),(18,i64 l.length),(19,i64 k)]) (λk r=>Ext w r/\gY r D #[fp gp,v,i64 I] 141/\vV J.heap.size r v (lZ p (l.take k))) ⟨by trivial,e4,L,by simpa[lZ]using M⟩ ?_ ?_ ?_);rintro k r x hJ;exact fO ⟨rfl,rfl,by trivial,hJ⟩;rintro k r x ⟨e,q,G⟩;obtain⟨b,o,rfl,hc⟩:=(X.ext e) k x;have U:=Y _ (ft x);obtain⟨N,_⟩|⟨B,c,F,rfl,C⟩:=G;have:=eX List.length N;rw[se]at this;simp at this;subst this;simp at U;have y:l[k]<(lZ p (l.take k)).length:=by rw[se];exact U
 refine gN k x (eH hc (eH (eB q rfl) (iV l[k] 8 y (O2 C l[k] 7 y (by omega) {(lZ p (l.take k))[l[k]]with left:=true} (by decide) (λj u f=>?_) (λw5 W g5=>eK ⟨by trivial,e.eR W (by have:=E.size;omega),W.iZ q (by omega),?_⟩)))));match j,f with
 |0,f=>exact f
 |1,f=>exact f
 |2,f=>exact f
 |3,f=>exact f
 |4,f=>exact f
 |5,f=>exact f
 |6,f=>exact f
 |7,f=>exact f
 rw[GW p l k x];have he:leave1 (lZ p (l.take k)) l[k]=(lZ p (l.take k)).set l[k] {(lZ p (l.take k))[l[k]]with left:=true}:=by unfold leave1;rw[gC y]
 rw[he];exact .inr ⟨B,c,F,by rw[oS],g5⟩;rintro r ⟨e,q,G⟩;rw[mI]at G;refine⟨_,rfl,e,D,rfl,h.g.ext e,by rw[se];exact h.len,h.bf,?_⟩;obtain⟨N,S,c,rfl⟩|⟨B,c,F,rfl,C⟩:=G;rw[N];exact⟨S,c,eB q rfl,eB q rfl,eB q rfl,λk x=>by simp at x⟩;exact⟨_,c,eB q rfl,eB q rfl,eB q rfl,C.row⟩
def GX(s:Nat)(w:er):Calls V.prog 167 #[.int .i64 s] w (jy λv a=>v=.bool (decide (s%2=0))/\a=w):=by refine jT Tryz.func167 Tryz.ntmps167 ?_;exact Er (m:=s) (n:=2) (by omega) (iL ⟨_,rfl,by congr 1;simp;omega,rfl⟩)
def GY(s:Nat)(w:er):Calls V.prog 168 #[.int .i64 s] w (jy λv a=>v=.bool (decide (s%2=1))/\a=w):=by refine jT Tryz.func168 Tryz.ntmps168 ?_;exact Er (m:=s) (n:=2) (by omega) (iL ⟨_,rfl,by congr 1;simp;omega,rfl⟩)
def Tc(c:eu)(p:Nat->Bool):Prop:=∃g first a,c=.func (.func g) first a/\(∀b w,Sem.run V.prog (callFunc g b) w=.ok (.enter g b) w)/\∀(n:Nat) w,Calls V.prog g (first.toList++([Value.int .i64 n]++a.toList)).toArray w (jy λv d=>v=.bool (p n)/\d=w)
def sf(p:Nat->Bool):ew->Nat->Int
 |[],_=> -1
 |y::r,i=>if p y then i else sf p r (i+1)
def GZ(p:Nat->Bool)(l:ew)(k:Nat)(a:k<l.length):sf p (l.drop k) k=if p l[k]then(k:Int)else sf p (l.drop (k+1)) (k+1):=by rw[qZ a];rfl
theorem A4(p:Nat->Bool):∀(l:ew) (i:Nat),decide (0<=sf p l i)=l.any p
 |[],_=>rfl
 |y::r,i=>by
  simp only[sf,List.any_cons];by_cases h:p y=true;simp[h];have h:p y=false:=by simpa using h
  simpa[h]using A4 p r (i+1)
def B8{p:Nat->Bool}(r:Tc x p)(l:ew)(f:fR)(m:Nat)(w:er)(s:iM w f l)(q:l.length<=100000):Calls V.prog 195 #[.slice f l.length m,x] w (jy λv c=>v=.int .i64 (sf p l 0)/\c=w):=by obtain⟨g,first,i,rfl,j,t⟩:=r;refine jT Tryz.func195 Tryz.ntmps195 ?_;refine fe (gO (n:=l.length) (λk=>[(0,.slice f l.length m),(1,.func (.func g) first i),(7,i64 l.length),(8,i64 k)]) (λk c=>c=w/\sf p l 0=sf p (l.drop k) k) ⟨by trivial,rfl,rfl⟩ ?_ ?_ ?_);rintro k c e ⟨rfl,a⟩;exact fO ⟨rfl,rfl,by trivial,rfl,a⟩;rintro k c e ⟨rfl,a⟩;obtain⟨b,o,rfl,d⟩:=s k e;rw[GZ p l k e]at a;refine gN k e (eH d (fw (t l[k] c) ⟨λh=>?_,λh=>?_⟩ j));rw[eC h]at a;exact⟨_,rfl,by rw[a];rfl,rfl⟩;rw[h]at a;exact eK ⟨by trivial,rfl,a⟩;rintro c ⟨rfl,a⟩;exact⟨_,rfl,by rw[a];simp[sf],rfl⟩
def rC{p:Nat->Bool}(d:Tc x p)(l:ew)(b:fR)(c:Nat)(w:er)(e:iM w b l)(a:l.length<=100000):Calls V.prog 166 #[.slice b l.length c,x] w (jy λv f=>v=.bool (l.any p)/\f=w):=by refine jT Tryz.func166 Tryz.ntmps166 ?_;exact fw (B8 d l b c w e a) (yP ⟨_,rfl,by rw[<-A4 p l 0];rfl,rfl⟩)
def T9:Obj->Bool
 | .map .. =>true
 |_=>false
structure lf(n0:Nat)(w w':er):Prop where
 os:w'.os=w.os
 tape:w'.tape=w.tape
 output:w'.output=w.output
 size:w.heap.size<=w'.heap.size
 drawn:w.drawn<=w'.drawn
 block:∀b o,w.heap[b]? =some o->(b<n0\/T9 o=false)->w'.heap[b]? =some o
section
variable{n0:Nat}{w w' w0 w1 w2:er}
def lf.refl(n0:Nat)(w:er):lf n0 w w:=⟨rfl,rfl,rfl,eF _,eF _,λ_ _ h _=>h⟩
theorem lf.trans{a b c:er}(h:lf n0 a b)(k:lf n0 b c):lf n0 a c:=
 ⟨k.os.trans h.os,k.tape.trans h.tape,k.output.trans h.output,ff h.size k.size,ff h.drawn k.drawn,λx o e d=>k.block x o (h.block x o e d) d⟩
def Ext.jJ(h:Ext w w')(n0:Nat):lf n0 w w':=⟨h.os,h.tape,h.output,h.size,h.drawn,λb o a _=>h.at_ a⟩
def lf.ext(h:lf n0 w w')(d:w.heap.size<=n0):Ext w w':=⟨h.os,h.tape,h.output,h.size,h.drawn,λb c=>by have a:w.heap[b]? =some w.heap[b]:=lA c;rw[a];exact h.block b _ a (.inl (by omega))⟩
def lf.from(h:lf n0 w w')(e:Ext w0 w)(a:w0.heap.size<=n0):Ext w0 w':=((e.jJ n0).trans h).ext a
def lf.low{a:Nat}(h:lf n0 w w')(e:a<=n0):lf a w w':=⟨h.os,h.tape,h.output,h.size,h.drawn,λb o c d=>h.block b o c (d.imp (λh=>by omega) id)⟩
def lf.at_(h:lf n0 w w'){b:Nat}{a:fZ}{t:eD}{c:Nat×Nat}(d:w.heap[b]? =some (.cells a t c)):w'.heap[b]? =some (.cells a t c):=h.block b _ d (.inr rfl)
def lf.cell(b:lf n0 w w'){v:eu}(a:w.cell? h=some v):w'.cell? h=some v:=by unfold World.cell? at a⊢;split at a;rename_i d t e c;rw[b.at_ c];exact a;cases a
def lf.eR{b:Nat}(h:lf n0 w w1)(k:eY (λx=>x=b) w1 w2)(e:w.heap.size<=b):lf n0 w w2:=
 ⟨k.os.trans h.os,k.tape.trans h.tape,k.output.trans h.output,ff h.size k.size,ff h.drawn k.drawn,λx o c d=>by have a:=eV.lt_of_heap c;exact(k.block x (fN a h.size) (by omega)).trans (h.block x o c d)⟩
def lf.oF{c:Nat}{v:eu}{t:eD}{e f:fD}{a:Nat}(h:lf n0 w w1)(k:eY (eG v) w1 w2)(g:fc c t e w1 v a f)(l:w.heap.size<=c):lf n0 w w2:=
 ⟨k.os.trans h.os,k.tape.trans h.tape,k.output.trans h.output,ff h.size k.size,ff h.drawn k.drawn,λx o d i=>by have b:=eV.lt_of_heap d;exact(k.block x (fN b h.size) λj=>by have:=(g.blk j).1;omega).trans (h.block x o d i)⟩
def nz.jJ{l:iA}(h:nz w a l)(e:lf n0 w w'):nz w' a l:=λk c=>by obtain⟨b,o,d,f⟩:=h k c;exact⟨b,o,d,e.cell f⟩
def lM.jJ{l:List Dr}(h:lM w a l)(e:lf n0 w w'):lM w' a l:=λk c=>by obtain⟨b,o,d,f,g,i⟩:=h k c;exact⟨b,o,d,e.cell f,e.cell g,e.cell i⟩
def pU.jJ{a:Nat}{C:Nat->eu}(h:pU a C w)(e:lf n0 w w'):pU a C w':=by obtain⟨b,c,d,f⟩:=h.out;exact⟨b,e.at_ c,d,f⟩
theorem qX.jJ{gp mk ms:Nat}(h:qX gp mk ms H w)(e:lf n0 w w'):qX gp mk ms H w':=by obtain⟨a,b,c,d,f,g⟩:=h.at_;exact⟨⟨a,b,c,d.jJ e,f.jJ e,e.cell g⟩,h.ok,fN h.mlt e.size,fN h.slt e.size,h.ne,h.gk⟩
def iM.jJ{l:ew}(h:iM w a l)(e:lf n0 w w'):iM w' a l:=λk c=>by obtain⟨b,o,d,f⟩:=h k c;exact⟨b,o,d,e.cell f⟩
def fc.jJ{d:Nat}{t:eD}{f:fD}{v:eu}{a:Nat}{g:fD}(h:fc d t f w v a g)(e:lf n0 w w'):fc d t f w' v a g:=by obtain⟨i,h|⟨b,c,j,k,l,m,n⟩⟩:=h;exact⟨i,.inl h⟩;exact⟨i,.inr ⟨b,c,j,k,l,e.at_ m,n⟩⟩
theorem vm.jJ{c:List ew}(h:vm w a c)(e:lf n0 w w'):vm w' a c:=λk d=>by obtain⟨b,o,f,g,i,j,l,m⟩:=h k d;exact⟨b,o,f,g,i,e.cell j,l.jJ e,m⟩
theorem iW.jJ{a:Nat}{v:eu}{b:List ew}(h:iW a w v b)(e:lf n0 w w'):iW a w' v b:=by obtain⟨c,d,f,g⟩:=h;refine⟨c,d.jJ e,f,λk i=>?_⟩;obtain⟨u,j,l⟩:=g k i;exact⟨u,j,fc.jJ l e⟩
def vU.jJ{c:List Sx}(h:vU w a c)(e:lf n0 w w'):vU w' a c:=λk d=>by obtain⟨b,o,f,g⟩:=h k d;exact⟨b,o,f,λj v i=>e.cell (g j v i)⟩
theorem nQ.jJ{wp gp mk ms:Nat}{a:List Sx}(h:nQ wp gp mk ms H a I w)(e:lf n0 w w'):nQ wp gp mk ms H a I w':=by obtain⟨b,c,d,f,i,j⟩:=h.at_;exact⟨h.g.jJ e,h.len,h.bf,b,c,e.cell d,e.cell f,e.cell i,j.jJ e⟩
def mE.jJ{c:fD}(h:mE w a c)(e:lf n0 w w'):mE w' a c:=by obtain h|⟨b,o,d,f⟩:=h;exact .inl h;exact .inr ⟨b,o,d,λj u g=>e.cell (f j u g)⟩
def pW.jJ{a:Nat}{b:List Sx}(h:pW a b w)(e:lf n0 w w'):pW a b w':=by obtain⟨c,d,f⟩:=h.out;exact⟨c,e.at_ d,f⟩
end
structure nJ(key:Nat->eu)(R:Nat->eu->er->Prop)(r:Nat)(w:er):Prop where
 out:∃es clock,w.heap[r]? =some (.map es clock)/\∀e∈es.toList,∃s,s<32/\e.key=key s/\R s e.val w
def nJ.jJ{key:Nat->eu}{R:Nat->oz}{r n0:Nat}{w w':er}(h:nJ key R r w)(e:lf n0 w w')(c:∀s v,R s v w->R s v w')(a:w'.heap[r]? =w.heap[r]?):nJ key R r w':=by obtain⟨d,b,f,g⟩:=h.out;exact⟨d,b,a.trans f,λx i=>by obtain⟨s,j,k,l⟩:=g x i;exact⟨s,j,k,c _ _ l⟩⟩
structure CZ(kt:eD)(key:Nat->eu):Prop where
 check:∀e s w,s<32->Sem.run V.prog (Instr.checkKey e 10000 kt (key s)) w=.ok () w
 find:∀s (es:List MapEntry),s<32->(∀e∈es,∃s',s'<32/\e.key=key s')->
  ∃o,(∀w,Sem.run V.prog (Instr.findKey kt (key s) es) w=.ok o w)/\(o=none\/∃j e,es[j]? =some e/\e.key=key s/\o=some (j,e.val))
 stays:∀s w,s<32->Sem.run V.prog (Instr.keyThatStays (key s) (key s)) w=.ok (key s) w
 inj:∀s s',s<32->s'<32->key s=key s'->s=s'
section
variable{w:er}{k:eu->er->Prop}{kt et t:eD}{key:Nat->eu}{R:Nat->eu->er->Prop}{r:Nat}
def vW{b:Array MapEntry}{a:Nat}(h:w.heap[r]? =some (.map b a)):Sem.run V.prog (getObj r) w=.ok (.map b a) w:=by simp[getObj,Sem.run,h]
def Ku(K:CZ kt key)(k:Tryz.prog.underlying t=some (.map kt et)){z:eu}(l:∀w,Sem.run V.prog (zeroValue et) w=.ok z w)(h:nJ key R r w){s:Nat}(c:s<32):∃a,((∃v,a=.tuple #[v,.bool true]/\R s v w)\/a=.tuple #[z,.bool false])/\∀w1,(∀o,w.heap[r]? =some o->w1.heap[r]? =some o)->Sem.run V.prog (Instr.lookup t (.map (some r)) (key s) true) w1=.ok a w1:=by
 obtain⟨m,d,n,b⟩:=h.out;obtain⟨o,q,u⟩:=K.find s m.toList c λe x=>by obtain⟨f,g,i,_⟩:=b e x;exact⟨f,g,i⟩
 refine⟨.tuple #[(o.map (·.2)).getD z,.bool o.isSome],?_,λw1 y=>?_⟩;obtain rfl|⟨j,e,A,B,rfl⟩:=u;exact .inr rfl;obtain⟨f,g,i,C⟩:=b e (rh A);obtain rfl:=K.inj s f c g (B.symm.trans i);exact .inl ⟨_,rfl,C⟩;unfold Instr.lookup;simp only[Sem.run_bind,jG k,Result.andThen_ok,vW (y _ n),Sem.run_pure,K.check _ s w1 c,q];cases o with
 |none=>simp only[Sem.run_bind,l,Result.andThen_ok,Sem.run_pure,fF,Option.map_none,Option.getD_none,vF]
 |some p=>simp only[Sem.run_bind,Sem.run_pure,Result.andThen_ok,fF,kT,lT,Option.isSome_some]
def Mg(K:CZ kt key)(c:Tryz.prog.underlying t=some (.map kt et)){z:eu}(d:∀w,Sem.run V.prog (zeroValue et) w=.ok z w)(h:nJ key R r w){s:Nat}(e:s<32) (f:∀v,R s v w->k (.tuple #[v,.bool true]) w)(g:k (.tuple #[z,.bool false]) w):lY V.prog (Instr.lookup t (.map (some r)) (key s) true) w k:=by obtain⟨b,i,a⟩:=Ku K c d h e;refine⟨b,w,a w λ_ h=>h,?_⟩;obtain⟨v,rfl,j⟩|rfl:=i;exact f v j;exact g
def wZ{B:fa}(K:CZ kt key)(L:Tryz.prog.underlying t=some (.map kt et))(h:nJ key R r w){s:Nat}(m:s<32){v:eu}{n0:Nat}(hn:n0<=r) (N:∀w',lf n0 w w'->(∀s u,R s u w->R s u w')/\R s v w') (O:∀w',lf n0 w w'->(∀b,b≠r->w'.heap[b]? =w.heap[b]?)->nJ key R r w'->B w'):H5 V.prog (Instr.mapUpdate t (.map (some r)) (key s) v) w B:=by
 obtain⟨g,c,n,p⟩:=h.out;have C:=eV.lt_of_heap n;have f:∀(a:Array MapEntry) (d:Nat),lf n0 w (w.putObj r (.map a d))/\(∀b,b≠r->(w.putObj r (.map a d)).heap[b]? =w.heap[b]?)/\(w.putObj r (.map a d)).heap[r]? =some (.map a d)/\Sem.run lS (setObj r (.map a d)) w=.ok () (w.putObj r (.map a d)):=λa d=>by refine⟨⟨rfl,rfl,rfl,by simp,eF _,λb o q k=>?_⟩,λb q=>World.putObj_heap_other q,World.putObj_heap_same C,by simp[setObj,Sem.run,n,World.putObj]⟩;by_cases e:b=r;subst e;rw[n]at q;obtain rfl:=eP q;obtain k|k:=k;omega;cases k;exact(World.putObj_heap_other e).trans q
 have y:∀(a:Array MapEntry) (d:Nat),(∀e∈a.toList,e∈g.toList\/(e.key=key s/\e.val=v))->Sem.run lS (Instr.mapUpdate t (.map (some r)) (key s) v) w=.ok () (w.putObj r (.map a d))->H5 lS (Instr.mapUpdate t (.map (some r)) (key s) v) w B:=λa d l z=>by obtain⟨M,P,Q,_⟩:=f a d;obtain⟨S,T⟩:=N _ M;refine⟨_,z,O _ M P ⟨a,d,Q,λe U=>?_⟩⟩;obtain h|⟨W,X⟩:=l e U;obtain⟨D,E,F,Y⟩:=p e h;exact⟨D,E,F,S _ _ Y⟩;exact⟨s,m,W,by rw[X];exact T⟩
 obtain⟨o,k,Z⟩:=K.find s g.toList m λe l=>by obtain⟨D,E,F,_⟩:=p e l;exact⟨D,E,F⟩
 obtain rfl|⟨j,e,hj,A,rfl⟩:=Z;refine y (g.push {key:=key s,val:=v,born:=c}) (c+1) (λe l=>?_) ?_;simp only[Array.toList_push,ja,gW]at l;obtain h|rfl:=l;exact .inl h;exact .inr ⟨rfl,rfl⟩;unfold Instr.mapUpdate;simp only[Sem.run_bind,jG L,Result.andThen_ok,vW n,K.check _ s w m,k,(f _ _).2.2.2];refine y (g.modify j λe=>{e with key:=key s,val:=v}) c (λx G=>?_) ?_;obtain⟨i,hi,G⟩:=List.getElem_of_mem G;have H:i<g.size:=by simpa using hi
 have:(g.modify j λe=>{e with key:=key s,val:=v})[i]'(by simpa using H)=x:=by rw[<-G];exact(Array.getElem_toList _)
 rw[Array.getElem_modify]at this;split at this;subst this;exact .inr ⟨rfl,rfl⟩;subst this;exact .inl (by simp);have I:=K.stays s w m;have J:g[j]? =some e:=by simpa using hj
 unfold Instr.mapUpdate;simp only[Sem.run_bind,jG L,Result.andThen_ok,vW n,K.check _ s w m,k,J,kT,lT,A,I,(f _ _).2.2.2]
end
end Go.Proofs.W
namespace Go.Proofs.W
def pX(l:ew):Nat->ew->List Bool->List ew
 |0,b,_=>[b]
 |n+1,b,a=>(List.range l.length).flatMap λi=>if a.getD i false then []else pX l n (b++[l.getD i 0]) (a.set i true)
def pi(l:ew):List ew:=pX l l.length [] (List.replicate l.length false)
def iH(G:Gd)(b:ew×Int)(a:ew):ew×Int:=if b.2<0\/th G a<b.2 then(a,th G a)else b
def kG(G:Gd)(rows:List ew):ew×Int:=rows.foldl (iH G) ([],-1)
def fy(G:Gd)(s:Nat):ew:=(kG G (pi (fx s))).1
def nx(G:Gd)(s:Nat):Bool:=decide (jX G (fy G s)<=G.minutes)
def hZ(G:Gd)(most:Nat):ew->ew->Option ew
 |[],a=>some a
 |d::r,a=>
  match(List.range a.length).findSome? λi=>if nx G (pP (a.getD i 0) d)then hZ G most r (a.set i (pP (a.getD i 0) d))else none with
  |some b=>some b
  |none=>if a.length<most/\nx G (gF [d])=true then hZ G most r (a++[gF [d]])else none
def iw(G:Gd)(s:Nat):Option (List ew):=
 if s=0 then some []else((List.range (fx s).length).findSome? λm=>hZ G (m+1) (fx s) []).map λa=>a.map (fy G)
end Go.Proofs.W
