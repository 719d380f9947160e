/- Laws that the proof needs, part 3. Conditions: none. -/
import Derived.Scope
import Derived.RangeFuncRecord
import Derived.RangeFuncLeaves
import Derived.Test.YteeagjkaflglpaaGreatX02
set_option maxRecDepth 100000
set_option maxHeartbeats 8000000
set_option linter.all false
variable{K:ej}
namespace Go.Proofs.W
open Go.RowKit
abbrev L:=List (Nat×di)
def lk:L->Nat->Option di
 |[],_=>none
 |p::r,t=>match Nat.beq p.1 t with
  |true=>some p.2
  |false=>lk r t
def nth{a:Type}:List a->Nat->Option a
 |[],_=>none
 |x::_,0=>some x
 |_::r,n+1=>nth r n
def mem:Nat->List Nat->Bool
 |_,[]=>false
 |n,x::r=>match Nat.beq n x with
  |true=>true
  |false=>mem n r
def ev(l:L):dZ->Option di
 | .tmp t=>lk l t
 | .const v=>some v
 | .func f=>some (.func (.func f) #[] #[])
 | .global _=>none
def evs(l:L):List dZ->Option (List di)
 |[]=>some []
 |x::r=>match ev l x with
  |some v=>match evs l r with
   |some a=>some (v::a)
   |none=>none
  |none=>none
def Q0(l:L):Option dZ->Option (Option di)
 |none=>some none
 |some x=>match ev l x with
  |some v=>some (some v)
  |none=>none
def ins(N:Nat)(d:Option Nat)(v:di)(l:L):L:=match d with
 |none=>l
 |some d=>match Nat.blt d N with
  |true=>(d,v)::l
  |false=>l
structure Fr(N:Nat)(l:L)(a:Act):Prop where
 size:a.tmps.size=N
 defers:a.defers=[]
 at_:∀t v,lk l t=some v->a.eval (.tmp t)=v
structure uK(N:Nat)(l:L)(a:Act):Prop where
 size:a.tmps.size=N
 at_:∀t v,lk l t=some v->a.eval (.tmp t)=v
def Fr.b{N:Nat}{l:L}{a:Act}(h:Fr N l a):uK N l a:=⟨h.size,h.at_⟩
theorem uK.eval{N:Nat}{l:L}{a:Act}(h:uK N l a){x:dZ}{v:di}(b:ev l x=some v):a.eval x=v:=by
 cases x with
 |tmp t=>exact h.at_ t v b
 |const c=>exact dH b
 |func f=>exact dH b
 |global g=>cases b
theorem Fr.eval{N:Nat}{l:L}{a:Act}(h:Fr N l a){x:dZ}{v:di}(c:ev l x=some v):a.eval x=v:=h.b.eval c
theorem Fr.put{N:Nat}{l:L}{a:Act}(h:Fr N l a)(d:Option Nat)(v:di)(f:∀t,d=some t->t<N):Fr N (ins N d v l) (a.put d v):=by
 refine⟨(mL _ _ _).trans h.size,(uf _ _ _).trans h.defers,λt u b=>?_⟩;cases d with
 |none=>exact h.at_ t u b
 |some d=>
  have e:Nat.blt d N=true:=by simpa[Nat.blt_eq]using f d rfl
  simp only[ins,e]at b;simp only[lk]at b;cases c:Nat.beq d t with
  |true=>
   rw[c]at b;have:d=t:=ii c;subst this;rw[uZ _ _ _ (by rw[h.size];exact f d rfl)];exact dH b
  |false=>
   rw[c]at b;have:d≠t:=uM c;rw[qU _ _ _ _ (by simpa using this)];exact h.at_ t u b
def Fr.tf{N:Nat}{l:L}{a:Act}(h:Fr N l a){d:Nat}{v:di}(e:lk l d=some v):Fr N ((d,v)::l) a:=by
 refine⟨h.size,h.defers,λt u b=>?_⟩;simp only[lk]at b;cases c:Nat.beq d t with
 |true=>
  rw[c]at b;have:d=t:=ii c;subst this;exact dH b▸h.at_ _ _ e
 |false=>rw[c]at b;exact h.at_ t u b
def Sub:L->L->Prop
 |[],_=>True
 |p::r,l=>lk l p.1=some p.2/\Sub r l
theorem Sub.lk{b l:L}(h:Sub b l){t:Nat}{v:di}(a:lk b t=some v):lk l t=some v:=by
 induction b with
 |nil=>cases a
 |cons p r d=>
  simp only[W.lk]at a;cases c:Nat.beq p.1 t with
  |true=>
   rw[c]at a;have:p.1=t:=ii c;subst this;exact dH a▸h.1
  |false=>rw[c]at a;exact d h.2 a
def Fr.sub{N:Nat}{l b:L}{a:Act}(h:Fr N l a)(c:Sub b l):Fr N b a:=⟨h.size,h.defers,λt v d=>h.at_ t v (c.lk d)⟩
structure jB(P:dq)(s:Sem di)(w:dg)(k:di->dg->Prop):Prop where
 out:∃v w',s.run P w=.ok v w'/\k v w'
structure Dt(P:dq)(s:Sem Unit)(w:dg)(k:dg->Prop):Prop where
 out:∃w',s.run P w=.ok () w'/\k w'
structure Au(P:dq)(s:Sem Next)(w:dg)(k:di->dg->Prop):Prop where
 out:∃v w',s.run P w=.ok (.value v) w'/\k v w'
structure OD(P:dq)(f:ej)(args:List di)(w:dg)(k:di->dg->Prop)(pan:List PanicEntry->dg->Prop):Prop where
 go:∀xs w,Sem.run P (callFunc f xs) w=.ok (.enter f xs) w
 out:Calls P f args.toArray w λe w'=>match e with
  | .returned v=>k v w'
  | .panicked c=>pan c w'
  | .outgrown=>False
structure wE where
 off:Nat->Nat->Option Nat
structure lB(P:dq)(T:wE):Prop where
 off:∀S i d,T.off S i=some d->∀b o w,Sem.run P (Instr.fieldAt S (.pointer (some ⟨b,o,none⟩)) i) w=.ok (.pointer (some ⟨b,o+d,none⟩)) w
def Q2(l:L):List (Nat×dZ)->Option (List (Nat×di))
 |[]=>some []
 |p::r=>match ev l p.2 with
  |some v=>match Q2 l r with
   |some a=>some ((p.1,v)::a)
   |none=>none
  |none=>none
def ER(P:dq)(T:wE)(ks:List Nat)(l:L)(w:dg)(o:Oper)(k:di->dg->Prop)(s:dg->Prop)(pan:List PanicEntry->dg->Prop):Prop:=
 match o.op with
 | .move x=>match ev l x with
  |some v=>k v w
  |none=>False
 | .assign x=>match ev l x with
  |some v=>k v w
  |none=>False
 | .pick (.tmp c) x y=>match lk l c with
  |some (.bool b)=>match mem c ks with
   |true=>(match b with
    |true=>match ev l x with
     |some v=>k v w
     |none=>False
    |false=>match ev l y with
     |some v=>k v w
     |none=>False)
   |false=>(b=true->match ev l x with
    |some v=>k v w
    |none=>False)/\(b=false->match ev l y with
    |some v=>k v w
    |none=>False)
  |_=>False
 | .nilCheck x=>match ev l x with
  |some (.pointer (some p))=>k (.pointer (some p)) w
  |some (.func (.func f) a b)=>k (.func (.func f) a b) w
  |_=>False
 | .fieldAddr S x i=>match ev l x with
  |some (.pointer (some ⟨b,o,none⟩))=>(match T.off S i with
   |some d=>k (.pointer (some ⟨b,o+d,none⟩)) w
   |none=>False)
  |_=>False
 | .extract x i=>match ev l x with
  |some (.tuple h)=>(match nth h.toList i with
   |some v=>k v w
   |none=>False)
  |_=>False
 | .field S x i=>match ev l x with
  |some v=>jB P (Instr.field S v i) w k
  |none=>False
 | .load t x=>match ev l x with
  |some v=>jB P (Instr.loadAt t v) w k
  |none=>False
 | .store t x y=>match ev l x with
  |some v=>(match ev l y with
   |some u=>Dt P (Instr.storeAt t v u) w s
   |none=>False)
  |none=>False
 | .alloc t=>jB P (Instr.alloc t true (.tuple #[])) w k
 | .box t x=>match ev l x with
  |some v=>jB P (Instr.box t v) w k
  |none=>False
 | .build t e=>match Q2 l e.toList with
  |some h=>jB P (Instr.build t h.toArray) w k
  |none=>False
 | .buildSlice t n e=>match Q2 l e.toList with
  |some h=>jB P (Instr.buildSlice t n h.toArray) w k
  |none=>False
 | .binOp b t x y _=>match ev l x with
  |some v=>(match ev l y with
   |some u=>jB P (do eqGuard b t x y v u;binOp b t v u) w k
   |none=>False)
  |none=>False
 | .unOp u _ x=>match ev l x with
  |some v=>jB P (Op.unary u v) w k
  |none=>False
 | .makeFunc q first j=>match evs l first.toList with
  |some A=>(match evs l j.toList with
   |some B=>k (.func q A.toArray B.toArray) w
   |none=>False)
  |none=>False
 | .makeMap t r=>match Q0 l r with
  |some v=>jB P (Instr.makeMap t v) w k
  |none=>False
 | .makeSlice t x y=>match ev l x with
  |some v=>(match ev l y with
   |some u=>jB P (Instr.makeSlice t v u) w k
   |none=>False)
  |none=>False
 | .slice t x C D E=>match ev l x with
  |some v=>(match Q0 l C with
   |some a=>(match Q0 l D with
    |some b=>(match Q0 l E with
     |some c=>jB P (Instr.sliceAt t v a b c) w k
     |none=>False)
    |none=>False)
   |none=>False)
  |none=>False
 | .indexAddr t x y=>match ev l x with
  |some v=>(match ev l y with
   |some u=>jB P (Instr.indexAt t v u) w k
   |none=>False)
  |none=>False
 | .index t x y=>match ev l x with
  |some v=>(match ev l y with
   |some u=>jB P (Instr.index t v u) w k
   |none=>False)
  |none=>False
 | .lookup t x y c=>match ev l x with
  |some v=>(match ev l y with
   |some u=>jB P (Instr.lookup t v u c) w k
   |none=>False)
  |none=>False
 | .mapUpdate t m x y=>match ev l m with
  |some z=>(match ev l x with
   |some v=>(match ev l y with
    |some u=>Dt P (Instr.mapUpdate t z v u) w s
    |none=>False)
   |none=>False)
  |none=>False
 | .call c=>(match c.callee with
  | .value f=>(match ev l f with
   |some (.func (.func g) first j)=>(match evs l c.args.toList with
    |some h=>OD P g (first.toList++(h++j.toList)) w k pan
    |none=>False)
   |_=>False)
  | .builtin b=>(match evs l c.args.toList with
   |some h=>Au P (builtin b c.argTypes o.type (c.args.map λ| .const _=>true|_=>false) h.toArray) w k
   |none=>False)
  | .invoke _ _=>False)
 | .convert t u x=>match ev l x with
  |some v=>jB P (convert t u v) w k
  |none=>False
 |_=>False
section
variable{P:dq}{T:wE}{ks:List Nat}{N:Nat}{l:L}{a:Act}{w:dg}{o:Oper}{k:di->dg->Prop}{s:dg->Prop}{pan:List PanicEntry->dg->Prop}{next:Act->dg->Prop}{Q:Exit->Act->dg->Prop}
theorem wV{a:Type}:∀(l:List a) (i:Nat),nth l i=l[i]?
 |[],_=>rfl
 |_::_,0=>rfl
 |_::r,n+1=>(wV r n).trans (by simp)
theorem uK.P0(h:uK N l a):∀{d:List dZ} {c:List di},evs l d=some c->d.map a.eval=c
 |[],c,b=>by simp only[evs,gx]at b;subst b;rfl
 |x::r,c,b=>by simp only[evs]at b;split at b;rename_i v e;split at b;rename_i g f;simp only[gx]at b;subst b;simp[h.eval e,uK.P0 h f];cases b;cases b
theorem uK.P2(h:uK N l a):∀{d:List (Nat×dZ)} {c:List (Nat×di)},Q2 l d=some c->d.map (λp=>(p.1,a.eval p.2))=c
 |[],c,b=>by simp only[Q2,gx]at b;subst b;rfl
 |x::r,c,b=>by simp only[Q2]at b;split at b;rename_i v e;split at b;rename_i g f;simp only[gx]at b;subst b;simp[h.eval e,uK.P2 h f];cases b;cases b
def uK.Hu(h:uK N l a){x:Option dZ}{v:Option di}(b:Q0 l x=some v):x.map a.eval=v:=by
 cases x with
 |none=>simp only[Q0,gx]at b;subst b;rfl
 |some x=>
  simp only[Q0]at b;split at b;rename_i u c;simp only[gx]at b;subst b;simp[h.eval c];cases b
def o9(h:uK N l a){b:Array dZ}{c:List di}(d:evs l b.toList=some c):b.map a.eval=c.toArray:=by have:=h.P0 d;apply A1;simpa using this
def Av(h:uK N l a){b:Array (Nat×dZ)}{c:List (Nat×di)}(d:Q2 l b.toList=some c):b.map (λp=>(p.1,a.eval p.2))=c.toArray:=by have:=h.P2 d;apply A1;simpa using this
def B8{s:Sem di}(h:jB P s w k)(c:∀v b,k v b->next (a.put o.dst v) b):o.upon P a next Q ((do let v<-s;pure (Next.value v):Sem Next).run P w):=by obtain⟨v,b,d,e⟩:=h.out;simp only[Sem.run_bind,d,Result.andThen_ok,Sem.run_pure];exact c v b e
def VC{c:Sem Unit}(h:Dt P c w s)(d:∀b,s b->next (a.put o.dst undef) b):o.upon P a next Q ((do c;pure Next.skip:Sem Next).run P w):=by obtain⟨b,e,f⟩:=h.out;simp only[Sem.run_bind,e,Result.andThen_ok,Sem.run_pure];exact d b f
def iY(O:lB P T)(q:uK N l a)(h:ER P T ks l w o k s pan)(A:∀v C,k v C->next (a.put o.dst v) C)(L:∀C,s C->next (a.put o.dst undef) C)(R:∀c C,pan c C->Q (.panic c) a C):o.wp P a w next Q:=by
 unfold Oper.wp;unfold ER at h;split at h;case h_1 x p=>
  split at h;rename_i v j;simp only[execOp,p,q.eval j,Sem.run_pure];exact A _ _ h;exact h.elim
 case h_2 x p=>
  split at h;rename_i v j;simp only[execOp,p,q.eval j,Sem.run_pure];exact A _ _ h;exact h.elim
 case h_3 c x y p=>
  split at h;case h_1 b U=>
   have E:a.eval (.tmp c)=.bool b:=q.eval (x:=.tmp c) U;simp only[execOp,p,E,asBool,pure_bind,Sem.run_pure];split at h;cases b with
   |true=>
    simp only at h;split at h;rename_i v j;simp only[ei,q.eval j];exact A _ _ h;exact h.elim
   |false=>
    simp only at h;split at h;rename_i v j;simp only[iw,fp,q.eval j];exact A _ _ h;exact h.elim
   cases b with
   |true=>
    have h:=h.1 rfl;split at h;rename_i v j;simp only[ei,q.eval j];exact A _ _ h;exact h.elim
   |false=>
    have h:=h.2 rfl;split at h;rename_i v j;simp only[iw,fp,q.eval j];exact A _ _ h;exact h.elim
  case h_2=>exact h.elim
 case h_4 x p=>
  split at h;rename_i ad j;simp only[execOp,p,q.eval j,Sem.run_pure];exact A _ _ h;rename_i f u v j;simp only[execOp,p,q.eval j,Sem.run_pure];exact A _ _ h;exact h.elim
 case h_5 S x i p=>
  split at h;rename_i b G j;split at h;rename_i d V;simp only[execOp,p,q.eval j];exact B8 (k:=k) ⟨_,_,O.off S i d V b G w,h⟩ A;exact h.elim;exact h.elim
 case h_6 x i p=>
  split at h;rename_i F j;split at h;rename_i v M;rw[wV]at M;have H:F[i]? =some v:=by simpa using M
  simp only[execOp,p,q.eval j];exact B8 (k:=k) ⟨v,w,by simp only[Instr.extract,H,Sem.run_pure],h⟩ A;exact h.elim;exact h.elim
 case h_7 S x i p=>
  split at h;rename_i v j;simp only[execOp,p,q.eval j];exact B8 h A;exact h.elim
 case h_8 t x p=>
  split at h;rename_i v j;simp only[execOp,p,q.eval j];exact B8 h A;exact h.elim
 case h_9 t x y p=>
  split at h;rename_i v j;split at h;rename_i u B;simp only[execOp,p,q.eval j,q.eval B];exact VC h L;exact h.elim;exact h.elim
 case h_10 t p=>simp only[execOp,p];exact B8 h A
 case h_11 t x p=>
  split at h;rename_i v j;simp only[execOp,p,q.eval j];exact B8 h A;exact h.elim
 case h_12 t D p=>
  split at h;rename_i v j;simp only[execOp,p,Av q j];exact B8 h A;exact h.elim
 case h_13 t n D p=>
  split at h;rename_i v j;simp only[execOp,p,Av q j];exact B8 h A;exact h.elim
 case h_14 b t x y r p=>
  split at h;rename_i v j;split at h;rename_i u B;simp only[execOp,p,q.eval j,q.eval B];exact B8 h A;exact h.elim;exact h.elim
 case h_15 u t x p=>
  split at h;rename_i v j;simp only[execOp,p,q.eval j];exact B8 h A;exact h.elim
 case h_16 fn first cap p=>
  split at h;rename_i xs W;split at h;rename_i ys X;simp only[execOp,p,o9 q W,o9 q X];exact B8 (k:=k) ⟨_,_,by simp only[Instr.makeFunc,Sem.run_pure],h⟩ A;exact h.elim;exact h.elim
 case h_17 t r p=>
  split at h;rename_i v j;simp only[execOp,p,q.Hu j];exact B8 h A;exact h.elim
 case h_18 t x y p=>
  split at h;rename_i v j;split at h;rename_i u B;simp only[execOp,p,q.eval j,q.eval B];exact B8 h A;exact h.elim;exact h.elim
 case h_19 t x lo hi mx p=>
  split at h;rename_i v j;split at h;rename_i u B;split at h;rename_i u2 I;split at h;rename_i u3 J;simp only[execOp,p,q.eval j,q.Hu B,q.Hu I,q.Hu J];exact B8 h A;exact h.elim;exact h.elim;exact h.elim;exact h.elim
 case h_20 t x y p=>
  split at h;rename_i v j;split at h;rename_i u B;simp only[execOp,p,q.eval j,q.eval B];exact B8 h A;exact h.elim;exact h.elim
 case h_21 t x y p=>
  split at h;rename_i v j;split at h;rename_i u B;simp only[execOp,p,q.eval j,q.eval B];exact B8 h A;exact h.elim;exact h.elim
 case h_22 t x y c p=>
  split at h;rename_i v j;split at h;rename_i u B;simp only[execOp,p,q.eval j,q.eval B];exact B8 h A;exact h.elim;exact h.elim
 case h_23 t m x y p=>
  split at h;rename_i z Y;split at h;rename_i v j;split at h;rename_i u B;simp only[execOp,p,q.eval Y,q.eval j,q.eval B];exact VC h L;exact h.elim;exact h.elim;exact h.elim
 case h_24 c p=>
  split at h;rename_i f E;split at h;rename_i g first cap hf
  split at h;rename_i F j;have Z:first++F.toArray++cap=(first.toList++(F++cap.toList)).toArray:=by apply A1;simp
  simp only[execOp,p,resolve,E,Deferred.ofValue,q.eval hf,o9 q j,pure_bind,invoke,Z,h.go,Oper.upon_enter];refine h.out.mono λe C K=>?_;cases e with
  |returned v=>exact A v C K
  |panicked ch=>exact R ch C K
  |outgrown=>exact K.elim
  exact h.elim;exact h.elim;rename_i b E;split at h;rename_i F j;obtain⟨v,C,hr,h'⟩:=h.out;simp only[execOp,p,resolve,E,o9 q j,pure_bind,invoke];exact Eq.mpr (dQ (o.upon P a next Q) hr) (A v C h');exact h.elim;exact h.elim
 case h_25 t u x p=>
  split at h;rename_i v j;simp only[execOp,p,q.eval j];exact B8 h A;exact h.elim
 case h_26=>exact h.elim
def yg:List Oper->Nat->Option Nat
 |[],_=>none
 |o::_,0=>o.dst
 |_::r,n+1=>yg r n
def SI(N:Nat)(d:Option Nat)(X:Prop):Prop:=match d with
 |none=>X
 |some d=>match Nat.blt d N with
  |true=>X
  |false=>False
def wd(r:Option Nat):Fence:={Fence.wide with round:=r}
def Lr{r:Option Nat}{n:Nat}{a:Array di}{w:dg}{R:Ending->dg->Prop}(h:Calls P K a w R):CallsIn (wd r) n P K a w R:=callsIn_wide.2 h
structure WA(P:dq)(lp:Nat)(args:List di)(w:dg)(k:di->dg->Prop)(pan:List PanicEntry->dg->Prop):Prop where
 out:∃f tmps assign body,(Instr.yield lp args.toArray).run P w=.ok (.round lp f tmps assign body) w/\RoundIn Fence.wide 0 P lp f tmps assign body w λe w'=>match e with
  | .returned v=>k v w'
  | .panicked c=>pan c w'
  | .outgrown=>False
def tg(P:dq)(T:wE)(ks:List Nat)(l:L)(w:dg)(o:Oper)(k:di->dg->Prop)(s:dg->Prop)(pan:List PanicEntry->dg->Prop):Prop:=
 match o.op with
 | .call c=>(match c.callee with
  | .value f=>(match ev l f with
   |some (.func (.yield a) first _)=>(match evs l c.args.toList with
    |some b=>WA P a (first.toList++b) w k pan
    |none=>False)
   |_=>ER P T ks l w o k s pan)
  |_=>ER P T ks l w o k s pan)
 |_=>ER P T ks l w o k s pan
theorem yh{r:Option Nat}{n:Nat}{x:Result Next}(h:o.upon P a next Q x):o.uponIn (wd r) n P a next Q x:=by
 have SJ:((wd r).depth.isSome=true->1<=n):=λh=>by cases h
 cases x with
 |ok v w'=>
  cases v with
  |value v=>exact h
  |skip=>exact h
  |defer d=>exact h
  |enter f args=>exact⟨SJ,(Lr h).mono λe w h=>by cases e<;>exact h⟩
  |row row args=>exact⟨SJ,λc cs _=>let⟨v,w',r,s⟩:=h c cs;⟨v,w',r,stepsIn_wide.2 s⟩⟩
  |_=>exact h.elim
 |halt e w'=>
  cases e with
  |panic v=>exact h
  |_=>exact h.elim
def Dv(h:ER P T ks l w o k s pan):∀c,o.op≠ .defer c:=λc e=>by unfold ER at h;rw[e]at h;exact h
def th{r:Option Nat}(z:lB P T)(m:uK N l a)(h:tg P T ks l w o k s pan)(q:∀v d,k v d->next (a.put o.dst v) d)(A:∀d,s d->next (a.put o.dst undef) d)(t:∀c d,pan c d->Q (.panic c) a d):o.wpIn (wd r) 0 P a w next Q:=by
 have plain:ER P T ks l w o k s pan->o.wpIn (wd r) 0 P a w next Q:=λh=>by refine⟨λ_ _=>trivial,?_⟩;rw[Oper.semAt_eq _ _ _ (Dv h)];exact yh (iY z m h q A t)
 unfold tg at h;split at h;rename_i c u;split at h;rename_i f B;split at h;rename_i x first cap hf
 split at h;rename_i y C;obtain⟨g,i,b,j,D,E⟩:=h.out;refine⟨λ_ _=>trivial,?_⟩;rw[Oper.semAt_eq _ _ _ (λc e=>by rw[u]at e;cases e)];have F:first++y.toArray=(first.toList++y).toArray:=by apply A1;simp
 have e:Sem.run P (execOp a.eval o) w=.ok (.round x g i b j) w:=by simp only[execOp,u,resolve,B,Deferred.ofValue,m.eval hf,o9 m C,pure_bind,invoke,F,D]
 rw[e]
 have n:RoundIn (wd r) (0-1) P x g i b j w λe d=>match e with
  | .returned v=>k v d
  | .panicked c=>pan c d
  | .outgrown=>False:=E
 refine⟨(λh=>by cases h),n.mono ?_⟩;intro e d p;cases e with
 |returned v=>exact q _ _ p
 |panicked c=>exact t _ _ p
 |outgrown=>exact p.elim
 exact h.elim;exact plain h;exact plain h;exact plain h
structure nV(ds:List Deferred)(N:Nat)(l:L)(a:Act):Prop where
 b:uK N l a
 d:a.defers=ds
def Fr.Ux{N:Nat}{l:L}{a:Act}(h:Fr N l a):nV [] N l a:=⟨h.b,h.defers⟩
def nV.fr{N:Nat}{l:L}{a:Act}(h:nV [] N l a):Fr N l a:=⟨h.b.size,h.d,h.b.at_⟩
theorem uK.put{N:Nat}{l:L}{a:Act}(h:uK N l a)(d:Option Nat)(v:di)(b:∀t,d=some t->t<N):uK N (ins N d v l) (a.put d v):=by have c:Fr N l ⟨a.tmps,[]⟩:=⟨h.size,rfl,h.at_⟩;have:=c.put d v b;cases d<;>exact⟨this.size,this.at_⟩
theorem uK.tf{N:Nat}{l:L}{a:Act}(h:uK N l a){d:Nat}{v:di}(b:lk l d=some v):uK N ((d,v)::l) a:=by have c:Fr N l ⟨a.tmps,[]⟩:=⟨h.size,rfl,h.at_⟩;have:=c.tf b;exact⟨this.size,this.at_⟩
theorem nV.put{c:List Deferred}{N:Nat}{l:L}{a:Act}(h:nV c N l a)(d:Option Nat)(v:di)(e:∀t,d=some t->t<N):nV c N (ins N d v l) (a.put d v):=⟨h.b.put d v e,(uf _ _ _).trans h.d⟩
theorem nV.tf{c:List Deferred}{N:Nat}{l:L}{a:Act}(h:nV c N l a){d:Nat}{v:di}(e:lk l d=some v):nV c N ((d,v)::l) a:=⟨h.b.tf e,h.d⟩
def nV.sub{c:List Deferred}{N:Nat}{l e:L}{a:Act}(h:nV c N l a)(f:Sub e l):nV c N e a:=⟨⟨h.b.size,λt v g=>h.b.at_ t v (f.lk g)⟩,h.d⟩
def mN(P:dq)(T:wE)(N:Nat)(K:L->dg->Prop)(pan:L->List PanicEntry->dg->Prop)(a:List Oper):List Oper->List Nat->L->dg->Prop
 |[],_,l,w=>K l w
 |o::r,ks,l,w=>SI N o.dst (match o.guard with
  |none=>tg P T ks l w o (λv c=>mN P T N K pan a r ks (ins N o.dst v l) c) (λc=>mN P T N K pan a r ks (ins N o.dst undef l) c) (pan l)
  |some (g,e)=>match yg a g with
   |none=>False
   |some d=>match lk l d with
    |some (.bool b)=>(match mem d ks with
     |true=>(match b,e with
      |true,true=>tg P T ks l w o (λv c=>mN P T N K pan a r ks (ins N o.dst v l) c) (λc=>mN P T N K pan a r ks (ins N o.dst undef l) c) (pan l)
      |false,false=>tg P T ks l w o (λv c=>mN P T N K pan a r ks (ins N o.dst v l) c) (λc=>mN P T N K pan a r ks (ins N o.dst undef l) c) (pan l)
      |_,_=>mN P T N K pan a r ks (ins N o.dst undef l) w)
     |false=>(b=true->match e with
      |true=>tg P T (d::ks) ((d,.bool true)::l) w o (λv c=>mN P T N K pan a r (d::ks) (ins N o.dst v ((d,.bool true)::l)) c) (λc=>mN P T N K pan a r (d::ks) (ins N o.dst undef ((d,.bool true)::l)) c) (pan ((d,.bool true)::l))
      |false=>mN P T N K pan a r (d::ks) (ins N o.dst undef ((d,.bool true)::l)) w)/\
      (b=false->match e with
       |false=>tg P T (d::ks) ((d,.bool false)::l) w o (λv c=>mN P T N K pan a r (d::ks) (ins N o.dst v ((d,.bool false)::l)) c) (λc=>mN P T N K pan a r (d::ks) (ins N o.dst undef ((d,.bool false)::l)) c) (pan ((d,.bool false)::l))
       |true=>mN P T N K pan a r (d::ks) (ins N o.dst undef ((d,.bool false)::l)) w))
    |some (.tuple _)=>mN P T N K pan a r ks (ins N o.dst undef l) w
    |_=>False)
def wW{X:Prop}{d:Option Nat}(h:SI N d X):X/\∀t,d=some t->t<N:=by
 cases d with
 |none=>exact⟨h,λ_ e=>by cases e⟩
 |some d=>
  simp only[SI]at h;split at h;rename_i a;exact⟨h,λt e=>by cases e;simpa[Nat.blt_eq]using a⟩;exact h.elim
theorem lN:∀(l:List Oper) (g:Nat),yg l g=(l[g]?).bind (·.dst)
 |[],_=>rfl
 |_::_,0=>rfl
 |_::r,n+1=>(lN r n).trans (by simp)
def oe{b:Array Oper}{a:Act}{g d:Nat}{e:Array di}(f:(b[g]?).bind (·.dst)=some d)(c:a.eval (.tmp d)=.tuple e):yielded b a.tmps g=none:=by
 rw[jS]at c;unfold yielded;rw[f];simp only[qz];cases h:a.tmps[d]? with
 |none=>rfl
 |some x=>rw[h]at c;simp at c;subst c;rfl
theorem nF{r0:Option Nat}{ds:List Deferred}(B:lB P T){K:L->dg->Prop}{pan:L->List PanicEntry->dg->Prop}{e:Array Oper}(C:∀l a w,nV ds N l a->K l w->Q .normal a w)(D:∀l c a w,nV ds N l a->pan l c w->Q (.panic c) a w):∀(r:List Oper) (i:Nat) (ks:List Nat) (l:L) (a:Act) (w:dg),(∀j,r[j]? =e[i+j]?)->nV ds N l a->mN P T N K pan e.toList r ks l w->wpOpsIn (wd r0) 0 P e Q (List.range' i r.length) a w
 |[],i,ks,l,a,w,_,f,h=>C l a w f h
 |o::r,i,ks,l,a,w,H,f,h=>by
  have I:e[i]? =some o:=(H 0).symm;have t:∀j,r[j]? =e[i+1+j]? :=λj=>by have:=H (j+1);simpa[tK,Nat.add_comm 1 j]using this
  obtain⟨h,F⟩:=wW h
  have p:∀ks l,nV ds N l a->Region.wanted o (yielded e a.tmps)=true->tg P T ks l w o (λv s=>mN P T N K pan e.toList r ks (ins N o.dst v l) s) (λs=>mN P T N K pan e.toList r ks (ins N o.dst undef l) s) (pan l)->
   wpOpsIn (wd r0) 0 P e Q (List.range' i (o::r).length) a w:=by
   intro ks l f n h;rw[fq,z0];simp only[wpOpsIn,I,n,ei];refine(th B f.b h (λv s u=>?_) (λs u=>?_) λc s u=>D l c a s f u);exact nF B C D r (i+1) ks _ _ s t (f.put o.dst v F) u;exact nF B C D r (i+1) ks _ _ s t (f.put o.dst undef F) u
  have skip:∀ks l,nV ds N l a->Region.wanted o (yielded e a.tmps)=false->mN P T N K pan e.toList r ks (ins N o.dst undef l) w->wpOpsIn (wd r0) 0 P e Q (List.range' i (o::r).length) a w:=by intro ks l f n h;rw[fq,z0];simp only[wpOpsIn,I,n,iw,fp];refine⟨λ_ _=>trivial,?_⟩;exact nF B C D r (i+1) ks _ _ w t (f.put o.dst undef F) h
  split at h;rename_i E;exact p ks l f (by simp[Region.wanted,E]) h;rename_i g m E;split at h;exact h.elim;rename_i d y;rw[lN]at y;have z:(e[g]?).bind (·.dst)=some d:=by simpa using y
  split at h;rename_i b A;have k:a.eval (.tmp d)=.bool b:=f.b.at_ d _ A;have G:yielded e a.tmps g=some b:=by
   rw[jS]at k;unfold yielded;rw[z];simp only[qz];cases J:a.tmps[d]? with
   |none=>rw[J]at k;simp[undef]at k
   |some x=>rw[J]at k;simp at k;subst k;rfl
  have n:Region.wanted o (yielded e a.tmps)=(b==m):=by simp[Region.wanted,E,G]
  split at h;cases b<;>cases m<;>simp only at h;exact p ks l f (by rw[n];rfl) h;exact skip ks l f (by rw[n];rfl) h;exact skip ks l f (by rw[n];rfl) h;exact p ks l f (by rw[n];rfl) h;cases b with
  |true=>
   have h:=h.1 rfl;have q:=f.tf A;cases m with
   |true=>simp only at h;exact p (d::ks) ((d,.bool true)::l) q (by rw[n];rfl) h
   |false=>exact skip (d::ks) ((d,.bool true)::l) q (by rw[n];rfl) h
  |false=>
   have h:=h.2 rfl;have q:=f.tf A;cases m with
   |true=>exact skip (d::ks) ((d,.bool false)::l) q (by rw[n];rfl) h
   |false=>simp only at h;exact p (d::ks) ((d,.bool false)::l) q (by rw[n];rfl) h
  rename_i M A;have k:a.eval (.tmp d)=.tuple M:=f.b.at_ d _ A;have G:yielded e a.tmps g=none:=oe z k;exact skip ks l f (by simp[Region.wanted,E,G]) h;exact h.elim
end
abbrev QW:=Exit->L->dg->Prop
def lift(N:Nat)(Q:QW):Exit->Act->dg->Prop:=λe a w=>∃l,Fr N l a/\Q e l w
def Ls(K:L->dg->Prop)(Q:QW):QW
 | .normal,l,w=>K l w
 | .exit i,l,w=>Q (.exit i) l w
 | .goto i,l,w=>Q (.goto i) l w
 | .ret,l,w=>Q .ret l w
 | .panic c,l,w=>Q (.panic c) l w
 | .outgrown,l,w=>Q .outgrown l w
def ji(a:Nat)(Q:QW):QW
 | .exit i,l,w=>match Nat.beq i a with
  |true=>Q .normal l w
  |false=>Q (.exit i) l w
 | .normal,l,w=>Q .normal l w
 | .goto i,l,w=>Q (.goto i) l w
 | .ret,l,w=>Q .ret l w
 | .panic c,l,w=>Q (.panic c) l w
 | .outgrown,l,w=>Q .outgrown l w
structure fE(P:dq)(N:Nat)(c:Code)(l:L)(w:dg)(Q:QW):Prop where
 out:∀a,Fr N l a->c.wp P (lift N Q) a w
def WC(P:dq)(T:wE)(N:Nat):Code->QW->L->dg->Prop
 | .skip,Q,l,w=>Q .normal l w
 | .label _,Q,l,w=>Q .normal l w
 | .ret,Q,l,w=>Q .ret l w
 | .exit i,Q,l,w=>Q (.exit i) l w
 | .goto i,Q,l,w=>Q (.goto i) l w
 | .region i a d,Q,l,w=>(match d with
  |false=>mN P T N (Q .normal) (λl c w=>Q (.panic c) l w) a.toList a.toList [] l w
  |true=>fE P N (.region i a true) l w Q)
 | .seq x y,Q,l,w=>WC P T N x (Ls (WC P T N y Q) Q) l w
 | .cond c x y,Q,l,w=>(match ev l c with
  |some (.bool b)=>(b=true->WC P T N x Q l w)/\(b=false->WC P T N y Q l w)
  |_=>False)
 | .block i c,Q,l,w=>(match c with
  | .loop h=>fE P N (.block i (.loop h)) l w Q
  | .rangeFunc f e g b=>fE P N (.block i (.rangeFunc f e g b)) l w Q
  |_=>WC P T N c (ji i Q) l w)
 | .loop c,Q,l,w=>fE P N (.loop c) l w Q
 | .scope c,Q,l,w=>fE P N (.scope c) l w Q
 | .rangeFunc f e g b,Q,l,w=>fE P N (.rangeFunc f e g b) l w Q
 | .refuse _,_,_,_=>False
theorem iJ{P:dq}{T:wE}{N:Nat}(p:lB P T):∀(c:Code) (Q:QW) (l:L) (a:Act) (w:dg),Fr N l a->WC P T N c Q l w->c.wp P (lift N Q) a w
 | .skip,Q,l,a,w,g,h=>wp_skip ⟨l,g,h⟩
 | .label _,Q,l,a,w,g,h=>wp_label ⟨l,g,h⟩
 | .ret,Q,l,a,w,g,h=>wp_ret ⟨l,g,h⟩
 | .exit i,Q,l,a,w,g,h=>wp_exit ⟨l,g,h⟩
 | .goto i,Q,l,a,w,g,h=>wp_goto ⟨l,g,h⟩
 | .region i r d,Q,l,a,w,g,h=>by
  cases d with
  |true=>exact fE.out h a g
  |false=>
   refine wpIn_wide.1 (wpIn_region (n:=0) ?_);have:=nF (r0:=none) (ds:=[]) p (Q:=lift N Q) (λl a w g s=>⟨l,g.fr,s⟩) (λl c a w g s=>⟨l,g.fr,s⟩) r.toList 0 [] l a w (λj=>by simp) g.Ux h;rw[Array.length_toList,<-List.range_eq_range']at this;exact this
 | .seq x y,Q,l,a,w,g,h=>by
  refine kh (kH (iJ p x _ l a w g h) ?_);rintro e v z ⟨q,k,m⟩;cases e with
  |normal=>exact iJ p y Q q v z k m
  |_=>exact⟨q,k,m⟩
 | .cond c x y,Q,l,a,w,g,h=>by simp only[WC]at h;split at h;rename_i b t;refine wp_cond_split (g.eval t) (λA=>?_) λB=>?_;exact iJ p x Q l a w g (h.1 A);exact iJ p y Q l a w g (h.2 B);exact h.elim
 | .block i c,Q,l,a,w,g,h=>by
  have u:WC P T N c (ji i Q) l w->(Code.block i c).wp P (lift N Q) a w:=λh=>by
   refine wp_block (kH (iJ p c _ l a w g h) ?_);rintro e v z ⟨q,k,m⟩;cases e with
   |exit j=>
    simp only[Exit.inBlock];simp only[ji]at m;by_cases o:j=i;subst o;rw[dr rfl];rw[vE]at m;exact⟨q,k,m⟩;rw[dp o];have:Nat.beq j i=false:=by
     cases t:Nat.beq j i with
     |false=>rfl
     |true=>exact absurd (ii t) o
    rw[this]at m;exact⟨q,k,m⟩
   |_=>exact⟨q,k,m⟩
  cases c with
  |loop E=>exact fE.out h a g
  |rangeFunc f C D b=>exact fE.out h a g
  |_=>exact u h
 | .loop c,Q,l,a,w,g,h=>fE.out h a g
 | .scope c,Q,l,a,w,g,h=>fE.out h a g
 | .rangeFunc f C D b,Q,l,a,w,g,h=>fE.out h a g
 | .refuse _,_,_,_,_,_,h=>h.elim
def flat:Code->Bool
 | .region _ _ d=>!d
 | .seq x y=>flat x&&flat y
 | .cond _ x y=>flat x&&flat y
 | .block _ c=>flat c
 | .loop _=>false
 | .scope _=>false
 | .rangeFunc _ _ _ _=>false
 |_=>true
def Lu(b:List Deferred)(N:Nat)(Q:QW):Exit->Act->dg->Prop:=λe a w=>∃l,nV b N l a/\Q e l w
theorem kR{P:dq}{T:wE}{N:Nat}{r:Option Nat}{ds:List Deferred}(p:lB P T):∀(c:Code) (Q:QW) (l:L) (a:Act) (w:dg),flat c=true->nV ds N l a->WC P T N c Q l w->c.wpIn (wd r) 0 P (Lu ds N Q) a w
 | .skip,Q,l,a,w,_,g,h=>wpIn_skip ⟨l,g,h⟩
 | .label _,Q,l,a,w,_,g,h=>wpIn_label ⟨l,g,h⟩
 | .ret,Q,l,a,w,_,g,h=>wpIn_ret ⟨l,g,h⟩
 | .exit i,Q,l,a,w,_,g,h=>wpIn_exit ⟨l,g,h⟩
 | .goto i,Q,l,a,w,_,g,h=>wpIn_goto ⟨l,g,h⟩
 | .region i s d,Q,l,a,w,k,g,h=>by
  cases d with
  |true=>cases k
  |false=>
   refine wpIn_region ?_;have:=nF (r0:=r) (ds:=ds) p (Q:=Lu ds N Q) (λl a w g t=>⟨l,g,t⟩) (λl c a w g t=>⟨l,g,t⟩) s.toList 0 [] l a w (λj=>by simp) g h;rw[Array.length_toList,<-List.range_eq_range']at this;exact this
 | .seq x y,Q,l,a,w,k,g,h=>by
  simp only[flat,eL]at k;refine wpIn_seq (wpIn_mono (kR p x _ l a w k.1 g h) ?_);rintro e z A ⟨q,m,n⟩;cases e with
  |normal=>exact kR p y Q q z A k.2 m n
  |_=>exact⟨q,m,n⟩
 | .cond c x y,Q,l,a,w,k,g,h=>by simp only[flat,eL]at k;simp only[WC]at h;split at h;rename_i b u;refine wpIn_cond_split (g.b.eval u) (λB=>?_) λC=>?_;exact kR p x Q l a w k.1 g (h.1 B);exact kR p y Q l a w k.2 g (h.2 C);exact h.elim
 | .block i c,Q,l,a,w,k,g,h=>by
  have v:flat c=true->WC P T N c (ji i Q) l w->(Code.block i c).wpIn (wd r) 0 P (Lu ds N Q) a w:=λk h=>by
   refine wpIn_block (wpIn_mono (kR p c _ l a w k g h) ?_);rintro e z A ⟨q,m,n⟩;cases e with
   |exit j=>
    simp only[Exit.inBlock];simp only[ji]at n;by_cases o:j=i;subst o;rw[dr rfl];rw[vE]at n;exact⟨q,m,n⟩;rw[dp o];have:Nat.beq j i=false:=by
     cases u:Nat.beq j i with
     |false=>rfl
     |true=>exact absurd (ii u) o
    rw[this]at n;exact⟨q,m,n⟩
   |_=>exact⟨q,m,n⟩
  cases c with
  |loop F=>cases k
  |rangeFunc f D E b=>cases k
  |_=>exact v k h
 | .loop c,Q,l,a,w,k,g,h=>by cases k
 | .scope c,Q,l,a,w,k,g,h=>by cases k
 | .rangeFunc f D E b,Q,l,a,w,k,g,h=>by cases k
 | .refuse _,_,_,_,_,_,_,h=>h.elim
def Dw(P:dq):List ResultVar->L->dg->(List di->Prop)->Prop
 |[],_,_,k=>k []
 | .tmp t::r,l,w,k=>match lk l t with
  |some v=>Dw P r l w λa=>k (v::a)
  |none=>False
 | .cell t b::r,l,w,k=>match lk l t with
  |some (.pointer (some c))=>∃v,Sem.run P (loadVar b c) w=.ok v w/\Dw P r l w λa=>k (v::a)
  |_=>False
def one(a:List di):di:=match a with
 |[v]=>v
 |a=>.tuple a.toArray
def QR(P:dq)(b:List ResultVar)(R:Ending->dg->Prop):QW
 | .normal,l,w=>Dw P b l w λa=>R (.returned (one a)) w
 | .ret,l,w=>Dw P b l w λa=>R (.returned (one a)) w
 | .panic c,_,w=>R (.panicked c) w
 |_,_,_=>False
def IP(a:Array di):ResultVar->Sem di
 | .tmp t=>pure (a.getD t undef)
 | .cell x t=>do loadVar t (<-asAddr (a.getD x undef))
theorem yi{P:dq}{N:Nat}{a:Act}{w:dg}:∀(m:List ResultVar) (l:L) (k:List di->Prop),Fr N l a->Dw P m l w k->∃c,Sem.run P (m.mapM (IP a.tmps)) w=.ok c w/\k c
 |[],l,k,d,h=>⟨[],by simp[Sem.run_pure],h⟩
 | .tmp t::r,l,k,d,h=>by simp only[Dw]at h;split at h;rename_i v e;obtain⟨c,f,g⟩:=yi r l _ d h;have b:IP a.tmps (.tmp t)=pure v:=dQ pure (d.at_ t v e);refine⟨v::c,?_,g⟩;rw[List.mapM_cons,b];simp only[Sem.run_bind,Sem.run_pure,Result.andThen_ok,f];exact h.elim
 | .cell t i::r,l,k,d,h=>by
  simp only[Dw]at h;split at h;rename_i n e;obtain⟨v,o,h⟩:=h;obtain⟨c,f,g⟩:=yi r l _ d h;have b:a.tmps.getD t undef=.pointer (some n):=d.at_ t _ e;have j:IP a.tmps (.cell t i)=loadVar i n:=by show(do loadVar i (<-asAddr (a.tmps.getD t undef)))=_;rw[b];rfl
  refine⟨v::c,?_,g⟩;rw[List.mapM_cons,j];simp only[Sem.run_bind,o,Result.andThen_ok,f,Sem.run_pure];exact h.elim
def yj(b:Func)(c:Array di):results b c=(do let a<-b.results.mapM (IP c);pure (if h:a.size=1 then a[0]else .tuple a)):=by unfold results;congr 1
def P4{P:dq}{k:Func}{c:Code}{b:List di}{w:dg}{R:Ending->dg->Prop}(N:Nat)(h:fE P N c (b.zipIdx.map λp=>(p.2,p.1)) w (QR P k.results.toList R))(a:Act)(z:a.tmps.size=N)(d:a.defers=[])(C:∀i v,b.toArray[i]? =some v->a.eval (.tmp i)=v):c.wp P (bodyPost P k R) a w:=by
 have D:Fr N (b.zipIdx.map λp=>(p.2,p.1)) a:=by
  refine⟨z,d,λt v E=>?_⟩;refine C t v ?_
  have s:∀(m:List di) (n:Nat),lk ((m.zipIdx n).map λp=>(p.2,p.1)) t=some v->n<=t/\m[t-n]? =some v:=by
   intro m;induction m with
   |nil=>intro n h;cases h
   |cons x r F=>
    intro n h;simp only[List.zipIdx_cons,lA,lk]at h;cases o:Nat.beq n t with
    |true=>
     rw[o]at h;have:n=t:=ii o;subst this;exact⟨dC _,by simpa using h⟩
    |false=>
     rw[o]at h;have G:n≠t:=uM o;obtain⟨B,u⟩:=F (n+1) h;refine⟨by omega,?_⟩;have:t-n=(t-(n+1))+1:=by omega
     rw[this];simpa using u
  have:=(s b 0 E).2;simpa using this
 refine kH (h.out a D) ?_;rintro e A g ⟨H,j,f⟩
 have l:Dw P k.results.toList H g (λq=>R (.returned (one q)) g)->A.defers=[]/\∃v,(results k A.tmps).run P g=.ok v g/\R (.returned v) g:=λf=>by
  obtain⟨q,B,u⟩:=yi _ _ _ j f;refine⟨j.defers,_,?_,u⟩;rw[yj,Sem.run_bind];have I:Sem.run P (k.results.mapM (IP A.tmps)) g=.ok q.toArray g:=by rw[GX,Sem.run_map,B];rfl
  rw[I];simp only[Result.andThen_ok,Sem.run_pure];congr 1;rcases q with _|⟨x,_|⟨y,r⟩⟩;rfl;rfl;simp[one]
 cases e with
 |normal=>exact l f
 |ret=>exact l f
 |panic c=>exact⟨j.defers,f⟩
 |exit i=>exact f.elim
 |goto i=>exact f.elim
 |outgrown=>exact f.elim
def P5{P:dq}{a:Func}{c:Code}{args:List di}{w:dg}{R:Ending->dg->Prop}(N:Nat)
 (d:P.funcs[K]? =some a)(e:a.body=some c)(f:a.ntmps=N)(b:args.length<=N)(h:fE P N c (args.zipIdx.map λp=>(p.2,p.1)) w (QR P a.results.toList R)):Calls P K args.toArray w R:=
 Lo N d e f (P4 N h) (by simpa using b)
def SK{P:dq}{T:wE}(e:lB P T){b:Func}{c:Code}{args:List di}{w:dg}{R:Ending->dg->Prop}(N:Nat)
 (f:P.funcs[K]? =some b)(g:b.body=some c)(i:b.ntmps=N)(d:args.length<=N)(h:WC P T N c (QR P b.results.toList R) (args.zipIdx.map λp=>(p.2,p.1)) w):Calls P K args.toArray w R:=
 P5 N f g i d ⟨λa j=>iJ e c _ _ a w j h⟩
theorem fE.seq{P:dq}{T:wE}(g:lB P T){N:Nat}{x y:Code}{l:L}{w:dg}{Q:QW}(h:WC P T N x (Ls (λc d=>fE P N y c d Q) Q) l w):fE P N (.seq x y) l w Q:=⟨λa i=>by
 refine kh (kH (iJ g x _ l a w i h) ?_);rintro e j d ⟨c,b,f⟩;cases e with
 |normal=>exact f.out j b
 |_=>exact⟨c,b,f⟩⟩
def fE.of{P:dq}{T:wE}(b:lB P T){N:Nat}{c:Code}{l:L}{w:dg}{Q:QW}(h:WC P T N c Q l w):fE P N c l w Q:=⟨λa d=>iJ b c _ l a w d h⟩
def FU(ops:Array Oper)(o:Oper):List Nat:=o.after.toList.filterMap λe=>if Region.binds .any e then(ops[e.on]?).bind (·.dst)else none
def iy(ops:Array Oper)(o:Oper)(a:Act):di:=.tuple ((FU ops o).map λt=>a.eval (.tmp t)).toArray
def Br{ops:Array Oper}{o:Oper}{a b:Act}(h:∀t∈FU ops o,a.eval (.tmp t)=b.eval (.tmp t)):iy ops o a=iy ops o b:=by unfold iy;rw[List.map_congr_left h]
def IQ{ops:Array Oper}{o:Oper}{a b:Act}(h:iy ops o a=iy ops o b){t:Nat}(c:t∈FU ops o):a.eval (.tmp t)=b.eval (.tmp t):=by
 unfold iy at h;have d:((FU ops o).map λt=>a.eval (.tmp t))=(FU ops o).map λt=>b.eval (.tmp t):=by injection h with h;simpa using dQ Array.toList h
 exact List.map_inj_left.1 d t c
def l8(ops:Array Oper)(N m:Nat):Bool:=
 (List.range ops.size).all (λi=>match ops[i]? with
  |some o=>(o.after.all λe=>decide (e.on<i)||!Region.binds .any e)&&(match o.dst with|some d=>decide (d<N)&&(List.range ops.size).all (λj=>decide (j=i)||match ops[j]? with|some a=>a.dst !=some d|none=>true)|none=>true)
  |none=>true)&&((decide (m=ops.size)||(List.range m).all λj=>(List.range (m+1)).any λk=>decide (j<k)&&waits ops k j)&&(decide (m=ops.size)||decide (m+1=ops.size)))
section
variable{P:dq}{ops:Array Oper}{Q:Exit->Act->dg->Prop}{a0:Act}{w0:dg}{N m sp:Nat}{wC:Bool->Nat->di->dg->Prop}{E E':dg->dg->Prop}{Rch:Bool->dg->Prop}
structure Bs(Rch:Bool->dg->Prop)(sp:Nat)(ops:Array Oper)(a0:Act)(N m:Nat)(wC:Bool->Nat->di->dg->Prop)(L:Array Bool)(a:Act)(w:dg):Prop where
 size:a.tmps.size=N
 defers:a.defers=a0.defers
 keep:∀j,wrote ops j=false->a.eval (.tmp j)=a0.eval (.tmp j)
 val:∀i o d,i<m->L.getD i false=true->ops[i]? =some o->o.dst=some d->wC (L.getD sp false) i (a.eval (.tmp d)) w
 ext:Rch (L.getD sp false) w
 tail:∀i,m<=i->L.getD i false=false
 closed:∀i j,L.getD i false=true->waits ops i j=true->L.getD j false=true
 valn:∀i o,i<m->L.getD i false=true->ops[i]? =some o->o.dst=none->wC (L.getD sp false) i (iy ops o a) w
 fresh:∀j,(∀k o,L.getD k false=true->ops[k]? =some o->o.dst≠some j)->a.eval (.tmp j)=a0.eval (.tmp j)
def Before(ops:Array Oper)(i j:Nat):Prop:=∀k o,ops[k]? =some o->o.dst=some j->waits ops k i=true
def IR{ops:Array Oper}{i j:Nat}(h:wrote ops j=false):Before ops i j:=λk o a b=>by have:wrote ops j=true:=sK.2 ⟨o,mC a,by rw[b];simp⟩;rw[this]at h;cases h
def P6(ops:Array Oper)(k i:Nat):Prop:=waits ops k i=true\/∃j,waits ops k j=true/\waits ops j i=true
def mW(E E':dg->dg->Prop)(Rch:Bool->dg->Prop)(sp:Nat)(P:dq)(ops:Array Oper)(Q:Exit->Act->dg->Prop)(a0:Act)(N:Nat)(wC:Bool->Nat->di->dg->Prop)(i:Nat)(o:Oper):Prop:=
 ∀b a w,(i=sp\/P6 ops sp i->b=false)->a.tmps.size=N->a.defers=a0.defers->(∀j,Before ops i j->a.eval (.tmp j)=a0.eval (.tmp j))->
  (∀j d,(o.after.any λe=>e.on==j&&Region.binds .any e)=true->((ops[j]?).bind (·.dst))=some d->wC b j (a.eval (.tmp d)) w)->Rch b w->
  wpOp P ops Q i (λf c=>∃v,f=a.put o.dst v/\(if i=sp then E' w c else E w c)/\wC (b||decide (i=sp)) i v c/\(o.dst=none->v=iy ops o a)) a w
def qW(Rch:Bool->dg->Prop)(P:dq)(ops:Array Oper)(Q:Exit->Act->dg->Prop)(a0:Act)(N m:Nat)(wC:Bool->Nat->di->dg->Prop):Prop:=
 ∀b a w,a.tmps.size=N->a.defers=a0.defers->(∀j,wrote ops j=false->a.eval (.tmp j)=a0.eval (.tmp j))->(∀i d,i<m->((ops[i]?).bind (·.dst))=some d->wC b i (a.eval (.tmp d)) w)->(∀i o,i<m->ops[i]? =some o->o.dst=none->wC b i (iy ops o a) w)->Rch b w->
  (m=ops.size->Q .normal a w)/\(m+1=ops.size->wpOp P ops Q m (λc e=>Q .normal c e) a w)
structure P7(E E':dg->dg->Prop)(Rch:Bool->dg->Prop)(wC:Bool->Nat->di->dg->Prop):Prop where
 v:∀b i v w w',wC b i v w->E w w'->wC b i v w'
 x:∀i v w w',wC false i v w->E' w w'->wC true i v w'
 r:∀b w w',Rch b w->E w w'->Rch b w'
 rx:∀w w',Rch false w->E' w w'->Rch true w'
def Bs.next(U:l8 ops N m=true)(M:P7 E E' Rch wC){L:Array Bool}{a:Act}{w:dg}(f:Bs Rch sp ops a0 N m wC L a w)(hL:L.size=ops.size){i:Nat}{o:Oper}(y:ops[i]? =some o)(hm:i<m)
 {v:di}{F:dg}(q:if i=sp then E' w F else E w F)(V:wC (L.getD sp false||decide (i=sp)) i v F)(O:o.dst=none->v=iy ops o a)(z:L.getD i false=false)(A:∀j,waits ops i j=true->L.getD j false=true):Bs Rch sp ops a0 N m wC (L.setIfInBounds i true) (a.put o.dst v) F:=by
 have G:(L.setIfInBounds i true).getD sp false=(L.getD sp false||decide (i=sp)):=by rw[jT _ _ _ (by have:=(fF.1 y).1;omega)];by_cases e:i=sp;simp[e];simp[e]
 have last:∀k u,wC (L.getD sp false) k u w->wC (L.getD sp false||decide (i=sp)) k u F:=λk u h=>by by_cases e:i=sp;subst e;rw[dr rfl]at q;rw[z]at h⊢;simpa using M.x _ _ _ _ h q;rw[dp e]at q;simpa[e]using M.v _ _ _ _ _ h q
 have W:i<ops.size:=(fF.1 y).1;simp only[l8,eL]at U;have g:=nY.1 U.1 i (jL.2 W);rw[y]at g;simp only[eL]at g;refine⟨by rw[mL,f.size],by rw[uf,f.defers],λj p=>?_,λk B d l c b s=>?_,?_,λk l=>?_,λk j l p=>?_,λk B l c b s=>?_,λj p=>?_⟩;rw[qU,f.keep j p];intro e;have:wrote ops j=true:=sK.2 ⟨o,mC y,by rw[e];simp⟩;rw[this]at p;cases p;rw[G];rw[jT _ _ _ (by omega)]at c;by_cases e:i=k;subst e;rw[y]at b;obtain rfl:=dH b;rw[s,uZ];exact V;have n:=g.2;rw[s]at n;simp only[eL,jC]at n;rw[f.size];exact n.1;rw[dp e]at c;have P:k<ops.size:=(fF.1 b).1;rw[qU];exact last _ _ (f.val k B d l c b s);intro Q;have n:=g.2;rw[Q]at n;simp only[eL,jC]at n;have H:=nY.1 n.2 k (jL.2 P);rw[b]at H;simp[s,gH e]at H;rw[G];have I:=f.ext;by_cases e:i=sp;subst e;rw[dr rfl]at q;rw[z]at I⊢;simpa using M.rx _ _ I q;rw[dp e]at q;simpa[e]using M.r _ _ _ I q;rw[jT _ _ _ (by omega),dp (by omega)];exact f.tail k l;rw[jT _ _ _ (by omega)]at l⊢;split;rfl;by_cases e:i=k;subst e;exact A j p;rw[dp e]at l;exact f.closed k j l p;rw[G];rw[jT _ _ _ (by omega)]at c;by_cases e:i=k;subst e;rw[y]at b;obtain rfl:=dH b;have X:iy ops o (a.put o.dst v)=iy ops o a:=by rw[s];rfl
 rw[X,<-O s];exact V;rw[dp e]at c;have C:iy ops B (a.put o.dst v)=iy ops B a:=by
  refine Br λt Y=>?_;obtain⟨x,I,D⟩:=List.mem_filterMap.1 Y;split at D;rename_i G;refine qU _ _ _ _ λQ=>?_;have Z:waits ops k x.on=true:=by unfold waits;rw[b];exact sK.2 ⟨x,by simpa using I,by simp[G]⟩
  have J:=f.closed k x.on c Z;have R:i≠x.on:=λh=>by rw[<-h,z]at J;cases J
  obtain⟨o2,K,S⟩:=sL.1 D;have T:x.on<ops.size:=(fF.1 K).1;have n:=g.2;rw[Q]at n;simp only[eL,jC]at n;have H:=nY.1 n.2 x.on (jL.2 T);rw[K]at H;simp[S,gH R]at H;cases D
 rw[C];exact last _ _ (f.valn k B l c b s);rw[qU _ _ _ _ λe=>p i o (by rw[jT _ _ _ (by omega),dr rfl]) y e];refine f.fresh j λk B l b=>p k B ?_ b;rw[jT _ _ _ (by omega)];split;rfl;exact l
def wF{id:Nat}(hm:P.follows .mixedOrders=true)(U:l8 ops N m=true)(hV:P7 E E' Rch wC)(h0:Rch false w0.drew)(hN:a0.tmps.size=N) (hs:∀i o,i<m->ops[i]? =some o->mW E E' Rch sp P ops Q a0 N wC i o)(h1:qW Rch P ops Q a0 N m wC):(Code.region id ops true).wp P Q a0 w0:=by
 refine wp_region_any hm ?_;have V:m=ops.size\/m+1=ops.size:=by simp only[l8,eL,GY,jC]at U;exact U.2.2
 have an:m<=ops.size:=by omega
 have M:m+1=ops.size->∀j,j<m->∃k,j<k/\k<=m/\waits ops k j=true:=λao j f=>by have h:=U;simp only[l8,eL]at h;rcases GY _ _▸h.2.1 with h|h;have:=eA h;omega;have W:=nY.1 h j (jL.2 f);obtain⟨k,hk,H⟩:=List.any_eq_true.1 W;simp only[eL,jC]at H;have:=jL.1 hk;exact⟨k,H.1,by omega,H.2⟩
 have z:∀(i:Nat) (o:Oper),ops[i]? =some o->∀e∈o.after,Region.binds .any e=true->e.on<i:=λi o r e I hb=>by have q:i<ops.size:=(fF.1 r).1;have X:=U;simp only[l8,eL]at X;have O:=nY.1 X.1 i (jL.2 q);rw[r]at O;simp only[eL]at O;have:=zE.1 O.1 e I;simpa[hb]using this
 have A:∀L:Array Bool,L.size=ops.size->Region.ready .any ops L=[]->∀i,i<ops.size->L.getD i false=true:=by
  intro L Y hr i;induction i using Nat.strongRecOn with
  |_ i ih=>
   intro q;refine Ke λaf=>?_;have r:ops[i]? =some ops[i]:=jp q;have t:i∈Region.ready .any ops L:=by
    unfold Region.ready;refine G3.2 ⟨jL.2 q,?_⟩;simp only[eL,xl];refine⟨?_,?_⟩;have:L.getD i false=false:=by simpa using af
    have B:i<L.size:=by omega
    simp[B]at this⊢;exact this;rw[r];simp only[kG,kF];refine zE.2 λe I=>?_;cases ag:Region.binds .any e with
    |false=>simp
    |true=>
     have Z:=z i _ r e I ag;rw[ih e.on Z (by omega)];simp
   rw[hr]at t;cases t
 have ah:∀(p:Nat) (L:Array Bool) (a:Act) (w:dg),L.size=ops.size->Bs Rch sp ops a0 N m wC L a w->((List.range ops.size).countP λi=>!L.getD i false)<=p->wpAny P .any ops Q p L a w:=by
  intro p;induction p with
  |zero=>
   intro L a w Y g hc
   have n:∀i,i<ops.size->L.getD i false=true:=λi q=>by
    have h0:(List.range ops.size).countP (λi=>!L.getD i false)=0:=by omega
    have:=List.countP_eq_zero.1 h0 i (jL.2 q);simpa using this
   refine⟨?_,?_⟩;unfold Region.ready;refine PD.2 λi q=>?_;have h:=n i (jL.1 q);have B:i<L.size:=by have:=jL.1 q;omega
   simp[B]at h⊢;intro W;rw[h]at W;cases W;have R:m=ops.size:=by rcases V with h|h;exact h;have H:=n m (by omega);rw[g.tail m (dC _)]at H;cases H
   exact(h1 _ a w g.size g.defers g.keep (λi d q s=>by obtain⟨o,r,s⟩:=sL.1 s;exact g.val i o d q (n i (by omega)) r s) (λi o q r s=>g.valn i o q (n i (by omega)) r s) g.ext).1 R
  |succ p ih=>
   intro L a w Y g hc;refine⟨λhr=>?_,λi q=>?_⟩;have n:=A L Y hr;have R:m=ops.size:=by rcases V with h|h;exact h;have H:=n m (by omega);rw[g.tail m (dC _)]at H;cases H
   exact(h1 _ a w g.size g.defers g.keep (λi d q s=>by obtain⟨o,r,s⟩:=sL.1 s;exact g.val i o d q (n i (by omega)) r s) (λi o q r s=>g.valn i o q (n i (by omega)) r s) g.ext).1 R
   unfold Region.ready at q;obtain⟨J,C⟩:=G3.1 q;have J:=jL.1 J;simp only[eL,xl]at C;have r:ops[i]? =some ops[i]:=jp J;rw[r]at C;simp only[kG,kF]at C;have b:L.getD i false=false:=by
    have h:=C.1;have B:i<L.size:=by omega
    simp[B]at h⊢;exact h
   have u:∀j,(ops[i].after.any λe=>e.on==j&&Region.binds .any e)=true->L.getD j false=true:=λj f=>by obtain⟨e,I,f⟩:=sK.1 f;simp only[eL,pt]at f;have h:=zE.1 C.2 e I;rw[f.2]at h;rw[<-f.1];simpa using h
   have aa:(List.range ops.size).countP (λj=>!(L.setIfInBounds i true).getD j false)<=p:=by
    have Z:(List.range ops.size).countP (λj=>!(L.setIfInBounds i true).getD j false)<(List.range ops.size).countP (λj=>!L.getD j false):=by
     have t:=jL.2 J;generalize List.range ops.size=l at t;have S:∀l:List Nat,l.countP (λj=>!(L.setIfInBounds i true).getD j false)<=l.countP (λj=>!L.getD j false):=λl=>List.countP_mono_left λx _ hx=>by rw[jT _ _ _ (by omega)]at hx;split at hx;cases hx;exact hx
     induction l with
     |nil=>cases t
     |cons x l ai=>
      rcases ft.1 t with rfl|D;rw[List.countP_cons_of_neg (by rw[jT _ _ _ (by omega)];simp),List.countP_cons_of_pos (by rw[b];rfl)];exact Nat.lt_succ_of_le (S l);have W:=ai D;rw[List.countP_cons,List.countP_cons];have H:(if(!(L.setIfInBounds i true).getD x false)=true then 1 else 0)<=(if(!L.getD x false)=true then 1 else 0):=by rw[jT _ _ _ (by omega)];split;simp;exact dC _
      omega
    omega
   rcases fO i m with D|D
   have aj:=hs i ops[i] D r (L.getD sp false) a w (λe=>by
    rcases e with e|e;rw[<-e];exact b;cases ab:L.getD sp false with
    |false=>rfl
    |true=>
     rcases e with e|⟨j,e1,e2⟩;rw[g.closed sp i ab e]at b;cases b;rw[g.closed j i (g.closed sp j ab e1) e2]at b;cases b) g.size g.defers (λj f=>g.fresh j λk o hk r e=>by
    have:=g.closed k i hk (f k o r e);rw[b]at this;cases this) (λj d f s=>by
    obtain⟨o',F,s⟩:=sL.1 s;have ap:j<i:=by obtain⟨e,I,f⟩:=sK.1 f;simp only[eL,pt]at f;rw[<-f.1];exact z i _ r e I f.2
    exact g.val j o' d (by omega) (u j f) F s) g.ext
   refine wpOp_mono (λa' w' h=>?_) aj;obtain⟨v,rfl,I,hv,ak⟩:=h;exact ih _ _ _ (by simp[Y]) (g.next U hV Y r D I hv ak b λj f=>u j (by unfold waits at f;rw[r]at f;exact f)) aa;have G:m+1=ops.size:=by omega
   obtain rfl:i=m:=by omega
   have y:∀c j,j+c=i->0<c->L.getD j false=true:=by
    intro c;induction c using Nat.strongRecOn with
    |_ c al=>
     intro j f aq;obtain⟨k,ar,au,K⟩:=M G j (by omega);rcases fO k i with am|am;exact g.closed k j (al (i-k) (by omega) k (by omega) (by omega)) K;obtain rfl:k=i:=by omega
     refine u j ?_;unfold waits at K;rw[r]at K;exact K
   have ac:=(h1 _ a w g.size g.defers g.keep (λj d f s=>by obtain⟨o',F,s⟩:=sL.1 s;exact g.val j o' d f (y (i-j) j (by omega) (by omega)) F s) (λj o' f F s=>g.valn j o' f (y (i-j) j (by omega) (by omega)) F s) g.ext).2 G;refine wpOp_mono (λa' w' h=>?_) ac;have n:∀j,j<ops.size->(L.setIfInBounds i true).getD j false=true:=λj f=>by rw[jT _ _ _ (by omega)];split;rfl;exact y (i-j) j (by omega) (by omega)
   have ad:Region.ready .any ops (L.setIfInBounds i true)=[]:=by
    unfold Region.ready;refine PD.2 λj f=>?_;have h:=n j (jL.1 f);have ae:j<(L.setIfInBounds i true).size:=by have:=jL.1 f;simp;omega
    rw[xk,jp ae]at h;rw[xk,jp ae];simp only[kF]at h⊢;rw[h];simp
   cases p with
   |zero=>exact⟨ad,h⟩
   |succ p=>exact⟨λ_=>h,λj f=>by rw[ad]at f;cases f⟩
 refine ah _ _ _ _ (by simp) ⟨hN,rfl,λ_ _=>rfl,λi o d _ T _ _=>?_,?_,λi _=>?_,λi j q _=>?_,λi o _ T _ _=>?_,λ_ _=>rfl⟩ ?_;simp[xk,tF]at T;split at T<;>simp at T;have:(Array.replicate ops.size false).getD sp false=false:=by simp only[xk,tF];split<;>rfl
 rw[this];exact h0;simp only[xk,tF];split<;>rfl;simp[xk,tF]at q;split at q<;>simp at q;simp[xk,tF]at T;split at T<;>simp at T;exact dS List.countP_le_length (by simp)
end
end Go.Proofs.W
variable{x y z:di}{D E:Bool}
namespace Go.Proofs.W
open Go.RowKit
abbrev gW:=di->dg->Prop
def yn{a:Type}(f:a->Bool):List a->Bool
 |[]=>false
 |x::r=>match f x with
  |true=>true
  |false=>yn f r
def P8:Option Nat->Nat->Bool
 |some d,t=>Nat.beq d t
 |none,_=>false
def RM(a:List Oper)(t:Nat):Bool:=yn (λo=>P8 o.dst t) a
def wG(a:List Oper)(o:Oper)(t:Nat):Bool:=match RM a t with
 |false=>true
 |true=>yn (λe=>match Region.binds .any e with
  |true=>P8 (yg a e.on) t
  |false=>false) o.after.toList
def rd:dZ->List Nat
 | .tmp t=>[t]
 |_=>[]
def TJ:List dZ->List Nat
 |[]=>[]
 |x::r=>rd x++TJ r
def Uy:List (Nat×dZ)->List Nat
 |[]=>[]
 |x::r=>rd x.2++Uy r
def TK:Option dZ->List Nat
 |none=>[]
 |some x=>rd x
def OE:Op->List Nat
 | .move x=>rd x
 | .assign x=>rd x
 | .nilCheck x=>rd x
 | .fieldAddr _ x _=>rd x
 | .extract x _=>rd x
 | .field _ x _=>rd x
 | .load _ x=>rd x
 | .box _ x=>rd x
 | .unOp _ _ x=>rd x
 | .convert _ _ x=>rd x
 | .pick c x y=>rd c++(rd x++rd y)
 | .store _ x y=>rd x++rd y
 | .binOp _ _ x y _=>rd x++rd y
 | .makeSlice _ x y=>rd x++rd y
 | .indexAddr _ x y=>rd x++rd y
 | .index _ x y=>rd x++rd y
 | .lookup _ x y _=>rd x++rd y
 | .mapUpdate _ m x y=>rd m++(rd x++rd y)
 | .build _ d=>Uy d.toList
 | .buildSlice _ _ d=>Uy d.toList
 | .makeFunc _ a b=>TJ a.toList++TJ b.toList
 | .makeMap _ r=>TK r
 | .slice _ x a b c=>rd x++(TK a++(TK b++TK c))
 | .call c=>(match c.callee with
  | .value f=>rd f
  |_=>[])++TJ c.args.toList
 |_=>[]
def OF(a:List Oper)(o:Oper):List Nat:=match o.guard with
 |none=>[]
 |some (g,_)=>match yg a g with
  |some d=>[d]
  |none=>[]
def qX(c:Nat->Bool)(l:L):List Nat->L
 |[]=>[]
 |t::r=>match c t with
  |true=>(match lk l t with
   |some v=>(t,v)::qX c l r
   |none=>qX c l r)
  |false=>qX c l r
def mD(c:Nat->Bool):List (Nat×gW)->List (Nat×gW)
 |[]=>[]
 |p::r=>match c p.1 with
  |true=>p::mD c r
  |false=>mD c r
def yo(a:List Oper)(o:Oper):List Nat:=OE o.op++OF a o
def wH:List (Nat×gW)->dg->(L->Prop)->Prop
 |[],_,f=>f []
 |p::r,w,f=>∀v,p.2 v w->wH r w λl=>f ((p.1,v)::l)
def Dx(l:L):List Nat->Option (List di)
 |[]=>some []
 |t::r=>match lk l t with
  |some v=>(match Dx l r with
   |some a=>some (v::a)
   |none=>none)
  |none=>none
abbrev zO:=List Nat×(List di->dg->Prop)
def yp:List zO->L->dg->Prop->Prop
 |[],_,_,X=>X
 |p::r,l,w,X=>match Dx l p.1 with
  |some a=>p.2 a w->yp r l w X
  |none=>yp r l w X
inductive wX (E E':dg->dg->Prop) (w:dg) (f:dg->(di->dg->Prop)->Prop) (kx:di->Prop) (kr:gW->Prop) (kp:gW->Prop) (lb:Bool) (kl:gW->Prop) (ea:Bool):Prop
 |exact(v:di) (h:∀w1,E' w w1->f w1 λu w2=>u=v/\E w1 w2) (k:kx v)
 |rel (R:gW) (st:∀v a b,R v a->E' a b->R v b) (h:∀w1,E' w w1->f w1 λu w2=>R u w2/\E w1 w2) (k:kr R)
 |IS (R:gW) (st:∀v a b,R v a->E a b->R v b) (h:∀w1,E' w w1->f w1 λu w2=>R u w2/\E w1 w2) (k:kp R)
 |late (hb:lb=true) (R:gW) (st:∀v a b,R v a->E a b->R v b) (h:∀w1,E' w w1->f w1 λu w2=>R u w2/\E w1 w2) (k:kl R)
 |early (he:ea=true) (R:gW) (st:∀v a b,R v a->E a b->R v b) (h:∀w1,E w w1->f w1 λu w2=>R u w2/\E w1 w2) (k:kp R)
 |yq (he:ea=true) (v:di) (h:∀w1,E w w1->f w1 λu w2=>u=v/\E w1 w2) (k:kx v)
inductive Uz (E1 E2 Es:dg->dg->Prop) (w:dg) (f:dg->(List di->dg->Prop)->Prop) (kj:(List di->dg->Prop)->Prop):Prop
 |vQ (J:List di->dg->Prop) (st:∀vs a b,J vs a->Es a b->J vs b) (h:∀w1,E1 w w1->f w1 λvs w2=>J vs w2/\E2 w1 w2) (k:kj J)
def Dy:List (Nat×gW)->List Nat
 |[]=>[]
 |p::r=>p.1::Dy r
def IT:L->List di
 |[]=>[]
 |p::r=>p.2::IT r
def Lw(T:wE)(e:List Nat)(l:L):Op->Option di
 | .move x=>ev l x
 | .assign x=>ev l x
 | .pick (.tmp c) x y=>match lk l c with
  |some (.bool b)=>(match mem c e with
   |true=>(match b with
    |true=>ev l x
    |false=>ev l y)
   |false=>none)
  |_=>none
 | .nilCheck x=>match ev l x with
  |some (.pointer (some f))=>some (.pointer (some f))
  |_=>none
 | .fieldAddr S x i=>match ev l x with
  |some (.pointer (some ⟨b,o,none⟩))=>(match T.off S i with
   |some d=>some (.pointer (some ⟨b,o+d,none⟩))
   |none=>none)
  |_=>none
 | .extract x i=>match ev l x with
  |some (.tuple g)=>nth g.toList i
  |_=>none
 | .makeFunc h first a=>match evs l first.toList with
  |some j=>(match evs l a.toList with
   |some k=>some (.func h j.toArray k.toArray)
   |none=>none)
  |none=>none
 |_=>none
def Dz{P:dq}{T:wE}{j:List Nat}{l:L}{w:dg}{o:Oper}{k:di->dg->Prop}{s:dg->Prop}{pan:List PanicEntry->dg->Prop}(h:Lw T j l o.op=some x)(e:k x w):ER P T j l w o k s pan:=by
 unfold ER;unfold Lw at h;split at h;case h_1 f a=>simp only[a,h];exact e
 case h_2 f a=>simp only[a,h];exact e
 case h_3 c f y a=>
  simp only[a];split at h;rename_i b m;try simp only[m]
  split at h;rename_i n;try simp only[n]
  cases b with
  |true=>simp only at h⊢;simp only[h];exact e
  |false=>simp only at h⊢;simp only[h];exact e
  cases h
  cases h
 case h_4 f a=>
  simp only[a];split at h;rename_i u g;obtain rfl:=dH h;simp only[g];exact e;cases h
 case h_5 S f i a=>
  simp only[a];split at h;rename_i b p g;split at h;rename_i d q;obtain rfl:=dH h;(try simp only[g,q]);exact e;cases h;cases h
 case h_6 f i a=>
  simp only[a];split at h;rename_i v g;simp only[g,h];exact e;cases h
 case h_7 z first cap a=>
  simp only[a];split at h;rename_i A r;split at h;rename_i B t;obtain rfl:=dH h;(try simp only[r,t]);exact e;cases h;cases h
 case h_8=>cases h
def FV(o:Oper)(r:List Oper):Bool:=match r,o.dst,o.guard with
 |[],none,none=>true
 |_,_,_=>false
def OG{a:Type}(f:a->Bool):List a->Bool
 |[]=>true
 |x::r=>match f x with
  |true=>OG f r
  |false=>false
def early0(a:List Oper)(i t:Nat):Bool:=match RM a t with
 |false=>false
 |true=>OG (λo=>match P8 o.dst t with
  |true=>yn (λe=>match Region.binds .any e with
   |true=>Nat.beq e.on i
   |false=>false) o.after.toList
  |false=>true) a
def pG(c e:Nat->Bool)(l a:L):List Nat->L
 |[]=>[]
 |t::r=>match c t with
  |true=>(match lk l t with
   |some v=>(t,v)::pG c e l a r
   |none=>pG c e l a r)
  |false=>(match e t with
   |true=>(match lk a t with
    |some v=>(t,v)::pG c e l a r
    |none=>pG c e l a r)
   |false=>pG c e l a r)
def OH(a:List Oper)(i:Nat)(o:Oper)(l b:L):L:=pG (wG a o) (early0 a i) l b (yo a o)
def zP(d:Option Nat)(R:gW)(a:List (Nat×gW)):List (Nat×gW):=match d with
 |some d=>(d,R)::a
 |none=>a
def Lx(a:List Oper)(sp i:Nat):Bool:=match nth a sp with
 |some o=>yn (λe=>match Region.binds .any e with
  |true=>Nat.beq e.on i
  |false=>false) o.after.toList
 |none=>false
def qY(a:List Oper)(sp i:Nat):Bool:=match nth a sp with
 |some o=>yn (λe=>match Region.binds .any e with
  |true=>(match Nat.beq e.on i with
   |true=>true
   |false=>Lx a e.on i)
  |false=>false) o.after.toList
 |none=>false
def Q4(b:Bool):List (Nat×gW)->List (Nat×gW)->List (Nat×gW)
 |[],a=>a
 |p::r,a=>match b with
  |true=>p::(r++a)
  |false=>a
def Ly{a b:List (Nat×gW)}{p:Nat×gW}(h:p∈Q4 D a b):p∈b\/(D=true/\p∈a):=by
 cases a with
 |nil=>exact .inl h
 |cons q r=>
  cases D with
  |false=>exact .inl h
  |true=>
   rcases ft.1 h with rfl|h;exact .inr ⟨rfl,iV⟩;rcases j8.1 h with h|h;exact .inr ⟨rfl,iF _ h⟩;exact .inl h
def DC(P:Program)(T:wE)(N:Nat)(pn:List PanicEntry->World->Prop)(E E':World->World->Prop)(a:List Oper)(w:World)(i:Nat)(e:L)(o:Oper)(f:List Nat)(l:L)(b c:List (Nat×gW))(j g:Bool)(d:L->List (Nat×gW)->List (Nat×gW)->Bool->Prop):Prop:=
 match Lw T f (OH a i o l e) o.op with
 |some v=>d (ins N o.dst v l) b c false
 |none=>wX E E' w (λh k=>wH (Q4 g (mD (wG a o) c) (mD (wG a o) b)) h λm=>ER P T f (m++OH a i o l e) h o k (λ_=>False) pn)
  (λv=>d (ins N o.dst v l) b c false) (λR=>d l (zP o.dst R b) c false) (λR=>d l b (zP o.dst R c) false) j (λR=>d l (zP o.dst R b) c true) g
def SL(P:dq)(T:wE)(E E':dg->dg->Prop)(a:List Oper)(w:dg)(o:Oper)(e:List Nat)(l:L)(b:List (Nat×gW))(f:zO->Prop):Prop:=
 Uz E' E E' w (λc g=>wH (mD (wG a o) b) c λd=>ER P T e (d++qX (wG a o) l (yo a o)) c o (λ_ _=>False) (λh=>g (IT d) h) λ_ _=>False)
  (λJ=>f (Dy (mD (wG a o) b),J))
def runT(P:dq)(T:wE)(E E':dg->dg->Prop)(a:List Oper)(w:dg)(o:Oper)(f:List Nat)(l:L)(b c:List (Nat×gW))(g:zO->Prop):Prop:=
 Uz E E' E w (λd h=>wH (mD (wG a o) c++mD (wG a o) b) d λe=>ER P T f (e++qX (wG a o) l (yo a o)) d o (λ_ _=>False) (λi=>h (IT e) i) λ_ _=>False)
  (λJ=>g (Dy (mD (wG a o) c++mD (wG a o) b),J))
inductive WB (E E':dg->dg->Prop) (w:dg) (f:dg->(di->dg->Prop)->Prop) (kr:gW->Prop):Prop
 |spec (R:gW) (st:∀v a b,R v a->E a b->R v b) (h:∀w1,E w w1->f w1 λu w2=>R u w2/\E' w1 w2) (k:kr R)
def SM(P:dq)(T:wE)(pn:List PanicEntry->dg->Prop)(E E':dg->dg->Prop)(a:List Oper)(w:dg)(o:Oper)(c:List Nat)(l:L)(d e:List (Nat×gW))(f:gW->Prop):Prop:=
 WB E E' w (λb g=>wH (mD (wG a o) e++mD (wG a o) d) b λh=>ER P T c (h++qX (wG a o) l (yo a o)) b o g (λ_=>False) pn) f
def yr:List (Nat×gW)->List (Nat×gW)->List (Nat×gW)
 |[],a=>a
 |p::r,a=>(p.1,λ_ _=>True)::yr r a
def ug(a:List Nat)(o:Oper):Bool:=match o.dst with
 |some _=>yn (λe=>match Region.binds .any e with
  |true=>mem e.on a
  |false=>false) o.after.toList
 |none=>false
def FW(b:Bool)(i:Nat)(a:List Nat):List Nat:=match b with
 |true=>i::a
 |false=>a
def Hv(o:Oper):Bool:=match o.dst,o.guard with
 |none,none=>(match o.op with
  | .store _ _ _=>true
  | .mapUpdate _ _ _ _=>true
  |_=>false)
 |_,_=>false
def DW(P:dq)(T:wE)(N:Nat)(pn:List PanicEntry->dg->Prop)(E E':dg->dg->Prop)(sp:Nat)(a:List Oper)(w:dg)(j:L)(K:L->dg->Prop):Nat->List Oper->List Nat->L->List (Nat×gW)->List (Nat×gW)->List zO->List Nat->Prop
 |_,[],_,l,h,n,q,k=>∀s,E' w s->wH h s λm=>yp q m s (K (m++l) s)
 |i,o::r,c,l,h,n,q,k=>match FV o r with
  |true=>∀s,E' w s->wH h s λm=>yp q m s (ER P T [] (m++l) s o (λ_ _=>False) (λv=>K (m++l) v) λ_ _=>False)
  |false=>match Hv o with
  |true=>(match Nat.beq i sp with
   |true=>runT P T E E' a w o c l h n λp=>DW P T N pn E E' sp a w j K (i+1) r c l (yr n h) [] (p::q) k
   |false=>SL P T E E' a w o c l h λp=>DW P T N pn E E' sp a w j K (i+1) r c l h n (p::q) k)
  |false=>SI N o.dst (match o.guard with
   |none=>(match Nat.beq i sp with
    |true=>SM P T pn E E' a w o c l h n λR=>DW P T N pn E E' sp a w j K (i+1) r c l (zP o.dst R (yr n h)) [] q (match o.dst with
     |some _=>[i]
     |none=>[])
    |false=>DC P T N pn E E' a w i j o c l h n (ug k o) (qY a sp i) λm e f t=>DW P T N pn E E' sp a w j K (i+1) r c m e f q (FW t i k))
   |some (g,u)=>(match yg a g with
    |none=>False
    |some d=>match wG a o d with
     |false=>False
     |true=>match lk l d with
      |some (.bool b)=>(match mem d c with
       |true=>(match b,u with
        |true,true=>DC P T N pn E E' a w i j o c l h n (ug k o) (qY a sp i) λm e f t=>DW P T N pn E E' sp a w j K (i+1) r c m e f q (FW t i k)
        |false,false=>DC P T N pn E E' a w i j o c l h n (ug k o) (qY a sp i) λm e f t=>DW P T N pn E E' sp a w j K (i+1) r c m e f q (FW t i k)
        |_,_=>DW P T N pn E E' sp a w j K (i+1) r c (ins N o.dst undef l) h n q k)
       |false=>(match u with
        |true=>(b=true->DC P T N pn E E' a w i j o (d::c) ((d,.bool true)::l) h n (ug k o) (qY a sp i) λm e f t=>DW P T N pn E E' sp a w j K (i+1) r (d::c) m e f q (FW t i k))/\
         (b=false->DW P T N pn E E' sp a w j K (i+1) r (d::c) (ins N o.dst undef ((d,.bool false)::l)) h n q k)
        |false=>(b=true->DW P T N pn E E' sp a w j K (i+1) r (d::c) (ins N o.dst undef ((d,.bool true)::l)) h n q k)/\
         (b=false->DC P T N pn E E' a w i j o (d::c) ((d,.bool false)::l) h n (ug k o) (qY a sp i) λm e f t=>DW P T N pn E E' sp a w j K (i+1) r (d::c) m e f q (FW t i k))))
      |some (.tuple _)=>DW P T N pn E E' sp a w j K (i+1) r c (ins N o.dst undef l) h n q k
      |_=>False))
def vR(a:List Oper):L->L
 |[]=>[]
 |p::r=>match RM a p.1 with
  |true=>vR a r
  |false=>p::vR a r
def sC:List Oper->Nat
 |[]=>0
 |o::r=>match FV o r with
  |true=>0
  |false=>sC r+1
section
variable{P:dq}{T:wE}{N m sp:Nat}{pn:List PanicEntry->dg->Prop}{E E':dg->dg->Prop}{ops:Array Oper}{w0:dg}{a0:Act}{K:L->dg->Prop}{Q:Exit->Act->dg->Prop}
theorem l9{a:Type}{f:a->Bool}:∀{l:List a},yn f l=true->∃x∈l,f x=true
 |x::r,h=>by simp only[yn]at h;split at h;rename_i b;exact⟨x,iV,b⟩;obtain⟨y,c,d⟩:=l9 h;exact⟨y,iF _ c,d⟩
theorem Hw{a:Type}{f:a->Bool}:∀{l:List a} {x:a},x∈l->f x=true->yn f l=true
 |y::r,x,h,b=>by simp only[yn];rcases ft.1 h with rfl|h;rw[b];split;rfl;exact Hw h b
def wY{d:Option Nat}{t:Nat}:P8 d t=true↔d=some t:=by
 cases d with
 |none=>simp[P8]
 |some d=>
  simp only[P8,gx];exact⟨ii,λh=>by rw[h];exact vE t⟩
def rR{ops:Array Oper}{t:Nat}:RM ops.toList t=wrote ops t:=by
 cases h:RM ops.toList t with
 |true=>
  obtain⟨o,a,b⟩:=l9 h;exact(sK.2 ⟨o,by simpa using a,by simpa using wY.1 b⟩).symm
 |false=>
  cases b:wrote ops t with
  |false=>rfl
  |true=>
   obtain⟨o,a,c⟩:=sK.1 b;have:=Hw (f:=λo=>P8 o.dst t) (by simpa using a:o∈ops.toList) (wY.2 (by simpa using c));unfold RM at h;rw[h]at this;cases this
def IU(e:l8 ops N m=true){i j t:Nat}{o f:Oper}(g:ops[i]? =some o)(c:ops[j]? =some f)(h:o.dst=some t)(k:f.dst=some t):i=j:=by have l:i<ops.size:=(fF.1 g).1;have n:j<ops.size:=(fF.1 c).1;simp only[l8,eL]at e;have a:=nY.1 e.1 i (jL.2 l);rw[g]at a;simp only[eL]at a;have d:=a.2;rw[h]at d;simp only[eL,jC]at d;have b:=nY.1 d.2 j (jL.2 n);rw[c]at b;simp only[k,GY,jC]at b;rcases b with b|b;exact b.symm;simp at b
structure Cons(ops:Array Oper)(a0:Act)(i:Nat)(S:Nat->Bool->gW)(l:L)(rs ps:List (Nat×gW))(js:List zO):Prop where
 l:∀t v,lk l t=some v->(wrote ops t=false/\a0.eval (.tmp t)=v)\/∃j o,j<i/\ops[j]? =some o/\o.dst=some t/\∀b u w,S j b u w->u=v
 r:∀p∈rs,∃j o,j<i/\ops[j]? =some o/\o.dst=some p.1/\∀b u w,S j b u w->p.2 u w
 p:∀p∈ps,∃j o,j<i/\ops[j]? =some o/\o.dst=some p.1/\∀u w,S j false u w->p.2 u w
 j:∀p∈js,∃j o,j<i/\ops[j]? =some o/\o.dst=none/\∀b a w,S j b (iy ops o a) w->p.2 (p.1.map λt=>a.eval (.tmp t)) w
structure At(ops:Array Oper)(a0:Act)(N i:Nat)(S:Nat->Bool->gW)(b:Bool)(D:Nat->Prop)(a:Act)(w:dg):Prop where
 size:a.tmps.size=N
 defers:a.defers=a0.defers
 keep:∀j,Before ops i j->a.eval (.tmp j)=a0.eval (.tmp j)
 val:∀j d,D j->((ops[j]?).bind (·.dst))=some d->S j b (a.eval (.tmp d)) w
def nG(I:l8 ops N m=true){i:Nat}{S n:Nat->Bool->gW}{l:L}{J:List zO}{C E:List (Nat×gW)}(q:Cons ops a0 i S l C E J)(s:∀j,j<i->n j=S j){o:Oper}{a:Act}{w:dg}
 (F:At ops a0 N i n D (λj=>(o.after.any λe=>e.on==j&&Region.binds .any e)=true) a w){t:Nat}(u:wG ops.toList o t=true):(∀v,lk l t=some v->a.eval (.tmp t)=v)/\(∀p∈C,p.1=t->p.2 (a.eval (.tmp t)) w)/\(D=false->∀p∈E,p.1=t->p.2 (a.eval (.tmp t)) w):=by
 have g:wrote ops t=true->∀j f,ops[j]? =some f->f.dst=some t->n j D (a.eval (.tmp t)) w:=λx j f b c=>by
  unfold wG at u;rw[rR,x]at u;obtain⟨e,K,y⟩:=l9 u;split at y;rename_i M;have G:=wY.1 y;rw[lN]at G;have H:(ops[e.on]?).bind (·.dst)=some t:=by simpa using G
  obtain⟨P,z,A⟩:=sL.1 H;obtain rfl:=IU I z b A c;exact F.val _ _ (sK.2 ⟨e,by simpa using K,by simp[M]⟩) H;cases y
 have d:∀{j:Nat} {f:Oper},ops[j]? =some f->f.dst=some t->wrote ops t=true:=λb c=>sK.2 ⟨_,mC b,by simp[c]⟩;refine⟨λv O=>?_,?_,?_⟩;rcases q.l t v O with⟨x,h⟩|⟨j,f,k,b,c,h⟩;rw[F.keep t (IR x)];exact h;have:=g (d b c) j f b c;rw[s j k]at this;exact h _ _ _ this;rintro p B rfl;obtain⟨j,f,k,b,c,h⟩:=q.r p B;have:=g (d b c) j f b c;rw[s j k]at this;exact h _ _ _ this;rintro rfl p B rfl;obtain⟨j,f,k,b,c,h⟩:=q.p p B;have:=g (d b c) j f b c;rw[s j k]at this;exact h _ _ this
theorem qZ{c:Nat->Bool}{l:L}{a:Act}(h:∀t,c t=true->∀v,lk l t=some v->a.eval (.tmp t)=v):∀(d:List Nat) (t:Nat) (v:di),lk (qX c l d) t=some v->a.eval (.tmp t)=v
 |[],t,v,b=>by cases b
 |x::r,t,v,b=>by simp only[qX]at b;split at b;rename_i e;split at b;rename_i u f;simp only[lk]at b;split at b;rename_i g;obtain rfl:=ii g;obtain rfl:=dH b;exact h x e _ f;exact qZ h r t v b;exact qZ h r t v b;exact qZ h r t v b
theorem yu{a:Act}{w:dg}:∀{d:List (Nat×gW)} {f:L->Prop},wH d w f->(∀p∈d,p.2 (a.eval (.tmp p.1)) w)->∃c,f c/\∀t v,lk c t=some v->a.eval (.tmp t)=v
 |[],f,h,_=>⟨[],h,λt v b=>by cases b⟩
 |p::r,f,h,e=>by obtain⟨c,g,i⟩:=yu (h _ (e p iV)) λq j=>e q (iF _ j);refine⟨_,g,λt v b=>?_⟩;simp only[lk]at b;split at b;rename_i k;obtain rfl:=ii k;exact dH b;exact i t v b
def Bt{l a:L}{t:Nat}(h:lk (a++l) t=some x):lk a t=some x\/lk l t=some x:=by
 induction a with
 |nil=>exact .inr h
 |cons p r b=>
  simp only[oP,lk]at h⊢;split at h;exact .inl h;exact b h
theorem fN{c:Nat->Bool}:∀{a:List (Nat×gW)} {p:Nat×gW},p∈mD c a->p∈a/\c p.1=true
 |q::r,p,h=>by simp only[mD]at h;split at h;rename_i b;rcases ft.1 h with rfl|h;exact⟨iV,b⟩;exact⟨iF _ (fN h).1,(fN h).2⟩;exact⟨iF _ (fN h).1,(fN h).2⟩
def oE(o:Oper)(j:Nat):Prop:=(o.after.any λe=>e.on==j&&Region.binds .any e)=true
theorem Cons.ins{i:Nat}{S s:Nat->Bool->gW}{l:L}{A:List zO}{B C:List (Nat×gW)}(v:Cons ops a0 i S l B C A)(y:∀j,j<i->s j=S j){o:Oper}(E:ops[i]? =some o)(F:∀d,o.dst=some d->∀b u w,s i b u w->u=x):Cons ops a0 (i+1) s (W.ins N o.dst x l) B C A:=by
 have e:∀t u,lk l t=some u->(wrote ops t=false/\a0.eval (.tmp t)=u)\/∃j o,j<i+1/\ops[j]? =some o/\o.dst=some t/\∀b D w,s j b D w->D=u:=λt u h=>by rcases v.l t u h with h|⟨j,f,g,k,m,n⟩;exact .inl h;exact .inr ⟨j,f,by omega,k,m,by rw[y j g];exact n⟩
 refine⟨λt u c=>?_,λp q=>?_,λp q=>?_,λp q=>?_⟩;cases z:o.dst with
 |none=>rw[z]at c;exact e t u c
 |some d=>
  rw[z]at c;simp only[W.ins]at c;split at c;simp only[lk]at c;split at c;rename_i G;obtain rfl:=ii G;obtain rfl:=dH c;exact .inr ⟨i,o,by omega,E,z,F _ z⟩;exact e t u c;exact e t u c
 obtain⟨j,f,g,k,m,n⟩:=v.r p q;exact⟨j,f,by omega,k,m,by rw[y j g];exact n⟩;obtain⟨j,f,g,k,m,n⟩:=v.p p q;exact⟨j,f,by omega,k,m,by rw[y j g];exact n⟩;obtain⟨j,f,g,k,m,n⟩:=v.j p q;exact⟨j,f,by omega,k,m,λb a w h=>n b a w (by rw[<-y j g];exact h)⟩
def Cons.tf{i:Nat}{S:Nat->Bool->gW}{l:L}{c:List zO}{e f:List (Nat×gW)}(a:Cons ops a0 i S l e f c){d:Nat}(g:lk l d=some x):Cons ops a0 i S ((d,x)::l) e f c:=by refine⟨λt u b=>?_,a.r,a.p,a.j⟩;simp only[lk]at b;split at b;rename_i h;obtain rfl:=ii h;obtain rfl:=dH b;exact a.l _ _ g;exact a.l t u b
theorem Cons.zP{i:Nat}{S q:Nat->Bool->gW}{l:L}{z:List zO}{y A:List (Nat×gW)}(s:Cons ops a0 i S l y A z)(v:∀j,j<i->q j=S j){o:Oper}(B:ops[i]? =some o){R:gW}(C:∀d,o.dst=some d->∀b u w,q i b u w->R u w):Cons ops a0 (i+1) q l (W.zP o.dst R y) A z:=by
 have n:∀p∈y,∃j o,j<i+1/\ops[j]? =some o/\o.dst=some p.1/\∀b u w,q j b u w->p.2 u w:=λp c=>by obtain⟨j,e,f,g,k,m⟩:=s.r p c;exact⟨j,e,by omega,g,k,by rw[v j f];exact m⟩
 refine⟨λt u h=>?_,λp c=>?_,λp c=>?_,λp c=>?_⟩;rcases s.l t u h with h|⟨j,e,f,g,k,m⟩;exact .inl h;exact .inr ⟨j,e,by omega,g,k,by rw[v j f];exact m⟩;cases x:o.dst with
 |none=>rw[x]at c;exact n p c
 |some d=>
  rw[x]at c;rcases ft.1 c with rfl|c;exact⟨i,o,by omega,B,x,C _ x⟩;exact n p c
 obtain⟨j,e,f,g,k,m⟩:=s.p p c;exact⟨j,e,by omega,g,k,by rw[v j f];exact m⟩;obtain⟨j,e,f,g,k,m⟩:=s.j p c;exact⟨j,e,by omega,g,k,λb a w h=>m b a w (by rw[<-v j f];exact h)⟩
def Cons.UA{i:Nat}{S q:Nat->Bool->gW}{l:L}{v x:List (Nat×gW)}{y:List zO}(m:Cons ops a0 i S l v x y)(n:∀j,j<i->q j=S j){o:Oper}(z:ops[i]? =some o)(A:o.dst=none){s:zO}(B:∀b a w,q i b (iy ops o a) w->s.2 (s.1.map λt=>a.eval (.tmp t)) w):Cons ops a0 (i+1) q l v x (s::y):=by refine⟨λt u h=>?_,λp c=>?_,λp c=>?_,λp c=>?_⟩;rcases m.l t u h with h|⟨j,d,e,f,g,k⟩;exact .inl h;exact .inr ⟨j,d,by omega,f,g,by rw[n j e];exact k⟩;obtain⟨j,d,e,f,g,k⟩:=m.r p c;exact⟨j,d,by omega,f,g,by rw[n j e];exact k⟩;obtain⟨j,d,e,f,g,k⟩:=m.p p c;exact⟨j,d,by omega,f,g,by rw[n j e];exact k⟩;rcases ft.1 c with rfl|c;exact⟨i,o,by omega,z,A,B⟩;obtain⟨j,d,e,f,g,k⟩:=m.j p c;exact⟨j,d,by omega,f,g,λb a w h=>k b a w (by rw[<-n j e];exact h)⟩
theorem Aw:∀{b a:List (Nat×gW)} {p:Nat×gW},p∈yr b a->p∈a\/∃q∈b,p=(q.1,λ_ _=>True)
 |[],a,p,h=>.inl h
 |q::r,a,p,h=>by rcases ft.1 h with rfl|h;exact .inr ⟨q,iV,rfl⟩;rcases Aw h with h|⟨x,c,d⟩;exact .inl h;exact .inr ⟨x,iF _ c,d⟩
def Cons.VD{i:Nat}{S:Nat->Bool->gW}{l:L}{c d:List (Nat×gW)}{e:List zO}(a:Cons ops a0 i S l c d e):Cons ops a0 i S l (yr d c) [] e:=by refine⟨a.l,λp b=>?_,(λp b=>by cases b),a.j⟩;rcases Aw b with h|⟨q,f,rfl⟩;exact a.r p h;obtain⟨j,o,g,k,m,_⟩:=a.p q f;exact⟨j,o,g,k,m,λ_ _ _ _=>trivial⟩
def Cons.SO{i:Nat}{S q:Nat->Bool->gW}{l:L}{z y:List (Nat×gW)}{A:List zO}(s:Cons ops a0 i S l z y A)(v:∀j,j<i->q j=S j){o:Oper}(B:ops[i]? =some o){R:gW}(C:∀d,o.dst=some d->q i false=R):Cons ops a0 (i+1) q l z (W.zP o.dst R y) A:=by
 have n:∀p∈y,∃j o,j<i+1/\ops[j]? =some o/\o.dst=some p.1/\∀u w,q j false u w->p.2 u w:=λp c=>by obtain⟨j,e,f,g,k,m⟩:=s.p p c;exact⟨j,e,by omega,g,k,by rw[v j f];exact m⟩
 refine⟨λt u h=>?_,λp c=>?_,λp c=>?_,λp c=>?_⟩;rcases s.l t u h with h|⟨j,e,f,g,k,m⟩;exact .inl h;exact .inr ⟨j,e,by omega,g,k,by rw[v j f];exact m⟩;obtain⟨j,e,f,g,k,m⟩:=s.r p c;exact⟨j,e,by omega,g,k,by rw[v j f];exact m⟩;cases x:o.dst with
 |none=>rw[x]at c;exact n p c
 |some d=>
  rw[x]at c;rcases ft.1 c with rfl|c;exact⟨i,o,by omega,B,x,λu w h=>by rw[C _ x]at h;exact h⟩;exact n p c
 obtain⟨j,e,f,g,k,m⟩:=s.j p c;exact⟨j,e,by omega,g,k,λb a w h=>m b a w (by rw[<-v j f];exact h)⟩
structure Told(E E':dg->dg->Prop)(R:Bool->gW):Prop where
 e:∀b v w w',R b v w->E w w'->R b v w'
 x:∀v w w',R false v w->E' w w'->R true v w'
theorem Hx{b:Type}{f:b->Bool}:∀{l:List b},OG f l=true->∀x∈l,f x=true
 |y::r,h,x,a=>by simp only[OG]at h;split at h;rename_i c;rcases ft.1 a with rfl|a;exact c;exact Hx h x a;cases h
def IV{i t:Nat}(h:early0 ops.toList i t=true):Before ops i t:=λk o b c=>by unfold early0 at h;split at h;cases h;have:=Hx h o (by simpa using mC b);rw[c,show P8 (some t) t=true from vE t]at this;obtain⟨e,d,a⟩:=l9 this;split at a;rename_i f;unfold waits;rw[b];exact sK.2 ⟨e,by simpa using d,by simp[ii a,f]⟩;cases a
theorem Ax{c e:Nat->Bool}{l i:L}{a:Act}(h:∀t,c t=true->∀v,lk l t=some v->a.eval (.tmp t)=v)(k:∀t,e t=true->∀v,lk i t=some v->a.eval (.tmp t)=v):∀(m:List Nat) (t:Nat) (v:di),lk (pG c e l i m) t=some v->a.eval (.tmp t)=v
 |[],t,v,b=>by cases b
 |x::r,t,v,b=>by
  have g:=Ax h k r t v;have d:∀u,a.eval (.tmp x)=u->lk ((x,u)::pG c e l i r) t=some v->a.eval (.tmp t)=v:=λu f h=>by simp only[lk]at h;split at h;rename_i n;obtain rfl:=ii n;obtain rfl:=dH h;exact f;exact g h
  simp only[pG]at b;split at b;rename_i j;split at b;rename_i u f;exact d u (h x j u f) b;exact g b;split at b;rename_i j;split at b;rename_i u f;exact d u (k x j u f) b;exact g b;exact g b
def Lz(O:lB P T)(A:∀c a w,a.tmps.size=N->a.defers=a0.defers->pn c w->Q (.panic c) a w)(hE:gq E)(ad:∀a b,E a b->E' a b)(hB:l8 ops N m=true){i:Nat}{S:Nat->Bool->gW}{l:L}{rs ps:List (Nat×gW)}{js:List zO}{ks:List Nat}{o:Oper}{ea:Bool}{l0:L}(ae:∀t v,lk l0 t=some v->a0.eval (.tmp t)=v){go:L->List (Nat×gW)->List (Nat×gW)->Bool->Prop}(J:Cons ops a0 i S l rs ps js)(U:ops[i]? =some o) (h:DC P T N pn E E' ops.toList w0 i l0 o ks l rs ps D ea go):∃R:Bool->gW,Told E E' R/\
  (∀(g:Nat->Bool->gW) (b:Bool),(D=true->b=true)->(∀j,j<i->g j=S j)->∀a w,At ops a0 N i g b (oE o) a w->(ea=true->b=false/\E w0 w)->E' w0 w->o.wp P a w (λa' y=>∃v,a'=a.put o.dst v/\E w y/\R b v y) Q)/\
  ∃l' Y Z aa,go l' Y Z aa/\(aa=true->D=true/\∀u w,¬R false u w)/\∀g:Nat->Bool->gW,(∀j,j<i->g j=S j)->(∀d,o.dst=some d->g i=R)->Cons ops a0 (i+1) g l' Y Z js:=by
 have frame:∀(g:Nat->Bool->gW) (b:Bool),(∀j,j<i->g j=S j)->∀a w,At ops a0 N i g b (oE o) a w->∀x:L,(∀t v,lk x t=some v->a.eval (.tmp t)=v)->uK N (x++OH ops.toList i o l l0) a:=λg b n a w q x ab=>by refine⟨q.size,λt v ht=>?_⟩;rcases Bt ht with h|h;exact ab t v h;exact Ax (λt hc v hv=>(nG hB J n q hc).1 v hv) (λt hc v hv=>(q.keep t (IV hc)).trans (ae t v hv)) _ t v h
 have z:∀(g:Nat->Bool->gW) (b:Bool),(∀j,j<i->g j=S j)->∀a w,At ops a0 N i g b (oE o) a w->(ea=true->b=false)->∀f:L->Prop,wH (Q4 ea (mD (wG ops.toList o) ps) (mD (wG ops.toList o) rs)) w f->∃x,f x/\uK N (x++OH ops.toList i o l l0) a:=λg b n a w q r f hf=>by
  obtain⟨x,B,C⟩:=yu (a:=a) hf λp V=>by rcases Ly V with V|⟨H,V⟩;exact(nG hB J n q (fN V).2).2.1 p (fN V).1 rfl;exact(nG hB J n q (fN V).2).2.2 (r H) p (fN V).1 rfl
  exact⟨x,B,frame g b n a w q x C⟩
 unfold DC at h;split at h;rename_i v hv;refine⟨λ_ u _=>u=v,⟨λ_ _ _ _ h _=>h,λ_ _ _ h _=>h⟩,λg b _ n a w q r H=>?_,_,_,_,_,h,(λh=>by cases h),λg n F=>J.ins n U λd G b u w K=>by rw[F d G]at K;exact K⟩;refine iY O (frame g b n a w q [] λt v ht=>by cases ht) (Dz (k:=λu w2=>u=v/\w2=w) (s:=λ_=>False) (pan:=λ_ _=>False) hv ⟨rfl,rfl⟩) ?_ (λ_ h=>h.elim) λ_ _ h=>h.elim;rintro u y ⟨rfl,rfl⟩;exact⟨u,rfl,hE.refl _,rfl⟩;cases h with
 |exact v h k=>
  refine⟨λ_ u _=>u=v,⟨λ_ _ _ _ h _=>h,λ_ _ _ h _=>h⟩,λg b _ n a w q r H=>?_,_,_,_,_,k,(λh=>by cases h),λg n F=>J.ins n U λd G b u w K=>by rw[F d G]at K;exact K⟩;obtain⟨x,B,I⟩:=z g b n a w q (λe=>(r e).1) _ (h w H);refine iY O I B ?_ (λ_ h=>h.elim) λc y h=>A c a y q.size q.defers h;rintro u y ⟨rfl,C⟩;exact⟨u,rfl,C,rfl⟩
 |rel R M h k=>
  refine⟨λ_=>R,⟨λ_ _ _ _ h e=>M _ _ _ h (ad _ _ e),λ_ _ _ h e=>M _ _ _ h e⟩,λg b _ n a w q r H=>?_,_,_,_,_,k,(λh=>by cases h),λg n F=>J.zP n U λd G b u w h=>by rw[F d G]at h;exact h⟩;obtain⟨x,B,I⟩:=z g b n a w q (λe=>(r e).1) _ (h w H);refine iY O I B ?_ (λ_ h=>h.elim) λc y h=>A c a y q.size q.defers h;rintro u y ⟨C,W⟩;exact⟨u,rfl,W,C⟩
 |IS R M h k=>
  refine⟨λb u w=>b=true\/R u w,⟨λ_ _ _ _ h e=>h.imp id λh=>M _ _ _ h e,λ_ _ _ _ _=>.inl rfl⟩,λg b _ n a w q r H=>?_,_,_,_,_,k,(λh=>by cases h),λg n F=>J.SO n U λd G=>by rw[F d G];funext u w;simp⟩;obtain⟨x,B,I⟩:=z g b n a w q (λe=>(r e).1) _ (h w H);refine iY O I B ?_ (λ_ h=>h.elim) λc y h=>A c a y q.size q.defers h;rintro u y ⟨C,W⟩;exact⟨u,rfl,W,.inr C⟩
 |late ac R M h k=>
  refine⟨λb u w=>b=true/\R u w,⟨λ_ _ _ _ h e=>⟨h.1,M _ _ _ h.2 e⟩,λ_ _ _ h _=>by cases h.1⟩,λg b hb n a w q r H=>?_,_,_,_,_,k,λ_=>⟨ac,λu w h=>by cases h.1⟩,λg n F=>J.zP n U λd G b u w h=>by rw[F d G]at h;exact h.2⟩;obtain⟨x,B,I⟩:=z g b n a w q (λe=>(r e).1) _ (h w H);refine iY O I B ?_ (λ_ h=>h.elim) λc y h=>A c a y q.size q.defers h;rintro u y ⟨C,W⟩;exact⟨u,rfl,W,hb ac,C⟩
 |early X R M h k=>
  refine⟨λb u w=>b=true\/R u w,⟨λ_ _ _ _ h e=>h.imp id λh=>M _ _ _ h e,λ_ _ _ _ _=>.inl rfl⟩,λg b _ n a w q r H=>?_,_,_,_,_,k,(λh=>by cases h),λg n F=>J.SO n U λd G=>by rw[F d G];funext u w;simp⟩;obtain⟨x,B,I⟩:=z g b n a w q (λe=>(r e).1) _ (h w (r X).2);refine iY O I B ?_ (λ_ h=>h.elim) λc y h=>A c a y q.size q.defers h;rintro u y ⟨C,W⟩;exact⟨u,rfl,W,.inr C⟩
 |yq X v h k=>
  refine⟨λ_ u _=>u=v,⟨λ_ _ _ _ h _=>h,λ_ _ _ h _=>h⟩,λg b _ n a w q r H=>?_,_,_,_,_,k,(λh=>by cases h),λg n F=>J.ins n U λd G b u w K=>by rw[F d G]at K;exact K⟩;obtain⟨x,B,I⟩:=z g b n a w q (λe=>(r e).1) _ (h w (r X).2);refine iY O I B ?_ (λ_ h=>h.elim) λc y h=>A c a y q.size q.defers h;rintro u y ⟨rfl,C⟩;exact⟨u,rfl,C,rfl⟩
theorem u5{a:Act}{w:dg}{e:L}{X:Prop}(f:∀t v,lk e t=some v->a.eval (.tmp t)=v):∀{k:List zO},yp k e w X->(∀p∈k,p.2 (p.1.map λt=>a.eval (.tmp t)) w)->X
 |[],h,_=>h
 |p::r,h,g=>by
  have b:∀(d:List Nat) (c:List di),Dx e d=some c->(d.map λt=>a.eval (.tmp t))=c:=by
   intro d;induction d with
   |nil=>intro c h;simp only[Dx,gx]at h;subst h;rfl
   |cons t r l=>
    intro c h;simp only[Dx]at h;split at h;rename_i v m;split at h;rename_i n o;simp only[gx]at h;subst h;simp[f t v m,l n o];cases h;cases h
  simp only[yp]at h;split at h;rename_i c i;exact u5 f (h (b _ _ i▸g p iV)) λq j=>g q (iF _ j);exact u5 f h λq j=>g q (iF _ j)
theorem u6{a:Act}{w:dg}:∀{d:List (Nat×gW)} {f:L->Prop},wH d w f->(∀p∈d,p.2 (a.eval (.tmp p.1)) w)->∃c,f c/\(∀t v,lk c t=some v->a.eval (.tmp t)=v)/\IT c=(Dy d).map λt=>a.eval (.tmp t)
 |[],f,h,_=>⟨[],h,(λt v b=>by cases b),rfl⟩
 |p::r,f,h,e=>by obtain⟨c,g,i,j⟩:=u6 (h _ (e p iV)) λq k=>e q (iF _ k);refine⟨_,g,λt v b=>?_,by simp[IT,Dy,j]⟩;simp only[lk]at b;split at b;rename_i l;obtain rfl:=ii l;exact dH b;exact i t v b
theorem DD:∀{a:List (Nat×gW)} {t:Nat},t∈Dy a->∃p∈a,p.1=t
 |p::r,t,h=>by rcases ft.1 h with rfl|h;exact⟨p,iV,rfl⟩;obtain⟨q,b,c⟩:=DD h;exact⟨q,iF _ b,c⟩
def Hy{o:Oper}{t:Nat}(d:wrote ops t=true)(a:wG ops.toList o t=true):t∈FU ops o:=by
 unfold wG at a;rw[rR,d]at a;obtain⟨e,f,b⟩:=l9 a;split at b;rename_i g;have c:=wY.1 b;rw[lN]at c;have h:(ops[e.on]?).bind (·.dst)=some t:=by simpa using c
 exact List.mem_filterMap.2 ⟨e,f,by rw[dr g];exact h⟩;cases b
def Ay(hT:lB P T)(G:l8 ops N m=true){E1 E2 H:dg->dg->Prop}(ab:∀a b,E a b->E' a b){i:Nat}{S:Nat->Bool->gW}{l:L}{I K:List (Nat×gW)}{js:List zO}{ks:List Nat}{o:Oper}(y:Bool)(M:∀a b,E a b->H a b)(O:y=false->∀a b,E' a b->H a b){C:List (Nat×gW)}(hq:∀p∈C,(p∈I\/(y=true/\p∈K))/\wG ops.toList o p.1=true){go:zO->Prop}(x:Cons ops a0 i S l I K js)(ho:ops[i]? =some o)(f:o.dst=none)
 (h:Uz E1 E2 H w0 (λw1 κ=>wH C w1 λl'=>ER P T ks (l'++qX (wG ops.toList o) l (yo ops.toList o)) w1 o (λ_ _=>False) (λw2=>κ (IT l') w2) λ_ _=>False) (λJ=>go (Dy C,J))):∃R:Bool->gW,Told E E' R/\
  (∀(g:Nat->Bool->gW) (b U:Bool),(y=true->b=false/\U=true)->(∀j,j<i->g j=S j)->∀a w,At ops a0 N i g b (oE o) a w->E1 w0 w->o.wp P a w (λa' V=>∃v,a'=a.put o.dst v/\E2 w V/\R U v V/\v=iy ops o a) Q)/\
  ∃p,go p/\∀g:Nat->Bool->gW,(∀j,j<i->g j=S j)->g i=R->Cons ops a0 (i+1) g l I K (p::js):=by
 obtain⟨J,st,h,k⟩:=h;let D:=Dy C;have W:∀t∈D,t∈FU ops o:=λt z=>by obtain⟨p,X,rfl⟩:=DD z;obtain⟨d,e⟩:=hq p X;rcases d with d|⟨_,d⟩;obtain⟨j,o',hj,q,s,_⟩:=x.r p d;exact Hy (sK.2 ⟨_,mC q,by simp[s]⟩) e;obtain⟨j,o',hj,q,s,_⟩:=x.p p d;exact Hy (sK.2 ⟨_,mC q,by simp[s]⟩) e
 refine⟨λb v w=>(y=true->b=true)/\∃a:Act,v=iy ops o a/\J (D.map λt=>a.eval (.tmp t)) w,⟨λ_ v a b ⟨h0,c,u,n⟩ A=>⟨h0,c,u,st _ _ _ n (M _ _ A)⟩,λv a b ⟨h0,c,u,n⟩ A=>⟨λ_=>rfl,c,u,st _ _ _ n (O (by cases y<;>simp_all) _ _ A)⟩⟩,λg b U hb B a w F A=>?_,_,k,λg B hi=>x.UA B ho f λb a w hs=>?_⟩;obtain⟨Y,u,n,h3⟩:=u6 (a:=a) (h w A) λp X=>by obtain⟨d,e⟩:=hq p X;rcases d with d|⟨Z,d⟩;exact(nG G x B F e).2.1 p d rfl;exact(nG G x B F e).2.2 (hb Z).1 p d rfl
 have hF:uK N (Y++qX (wG ops.toList o) l (yo ops.toList o)) a:=by refine⟨F.size,λt v z=>?_⟩;rcases Bt z with h|h;exact n t v h;exact qZ (λt hc v hv=>(nG G x B F hc).1 v hv) _ t v h
 refine iY hT hF u (λ_ _ h=>h.elim) (λV hw=>?_) λ_ _ h=>h.elim;obtain⟨hJ,aa⟩:=hw;rw[h3]at hJ;exact⟨_,by rw[f];rfl,aa,⟨λZ=>(hb Z).2,a,rfl,hJ⟩,rfl⟩;rw[hi]at hs;obtain⟨_,b,u,n⟩:=hs;have:(D.map λt=>b.eval (.tmp t))=D.map λt=>a.eval (.tmp t):=List.map_congr_left λt z=>(IQ u (W t z)).symm;rw[this]at n;exact n
def LA(B:lB P T)(n:∀c a w,a.tmps.size=N->a.defers=a0.defers->pn c w->Q (.panic c) a w)(q:l8 ops N m=true){i:Nat}{S:Nat->Bool->gW}{l:L}{y z:List (Nat×gW)}{C:List zO}{D:List Nat}{o:Oper}{A:gW->Prop}(r:Cons ops a0 i S l y z C)(U:ops[i]? =some o) (h:SM P T pn E E' ops.toList w0 o D l y z A):∃R:gW,(∀v a b,R v a->E a b->R v b)/\A R/\
  (∀s:Nat->Bool->gW,(∀j,j<i->s j=S j)->∀a w,At ops a0 N i s false (oE o) a w->E w0 w->o.wp P a w (λF f=>∃v,F=a.put o.dst v/\E' w f/\R v f) Q):=by
 obtain⟨R,G,h,k⟩:=h;refine⟨R,G,k,λs u a w e H=>?_⟩;obtain⟨x,I,J,V⟩:=u6 (a:=a) (h w H) λp d=>by rcases j8.1 d with d|d;exact(nG q r u e (fN d).2).2.2 rfl p (fN d).1 rfl;exact(nG q r u e (fN d).2).2.1 p (fN d).1 rfl
 have K:uK N (x++qX (wG ops.toList o) l (yo ops.toList o)) a:=by refine⟨e.size,λt v M=>?_⟩;rcases Bt M with h|h;exact J t v h;exact qZ (λt O v g=>(nG q r u e O).1 v g) _ t v h
 refine iY B K I (λv f g=>?_) (λ_ h=>h.elim) λc f h=>n c a f e.size e.defers h;exact⟨v,rfl,g.2,g.1⟩
def FX{a:Act}{g d:Nat}(e:(ops[g]?).bind (·.dst)=some d)(b:a.eval (.tmp d)=.bool D):yielded ops a.tmps g=some D:=by
 rw[jS]at b;unfold yielded;rw[e];simp only[qz];cases c:a.tmps[d]? with
 |none=>rw[c]at b;simp[undef]at b
 |some x=>rw[c]at b;simp at b;subst b;rfl
def LD(ops:Array Oper)(i:Nat)(S:Nat->Bool->gW)(a:List Nat):Prop:=∀j∈a,∃o d,j<i/\ops[j]? =some o/\o.dst=some d/\∀u w,¬S j false u w
def LD.next{ops:Array Oper}{i:Nat}{S a:Nat->Bool->gW}{b:List Nat}(h:LD ops i S b)(c:∀j,j<i->a j=S j):LD ops (i+1) a b:=λj e=>by obtain⟨o,d,f,g,k,l⟩:=h j e;exact⟨o,d,by omega,g,k,by rw[c j f];exact l⟩
theorem mem_iff{n:Nat}:∀{l:List Nat},mem n l=true->n∈l
 |x::r,h=>by simp only[mem]at h;split at h;rename_i a;rw[ii a];exact iV;exact iF _ (mem_iff h)
def Q5{l0:L}(aL:∀t v,lk l0 t=some v->a0.eval (.tmp t)=v)(hT:lB P T)(aB:∀c a w,a.tmps.size=N->a.defers=a0.defers->pn c w->Q (.panic c) a w)(hE:gq E)(ae:∀a b,E a b->E' a b)(hB:l8 ops N m=true)(hK:∀l a w,nV a0.defers N l a->K l w->Q .normal a w):∀(r:List Oper) (i:Nat) (A:List Nat) (l:L) (M Z:List (Nat×gW)) (I:List zO) (lt:List Nat) (S:Nat->Bool->gW),(∀j,r[j]? =ops[i+j]?)->i+sC r=m->Cons ops a0 i S l M Z I->(∀j,Told E E' (S j))->LD ops i S lt->DW P T N pn E E' sp ops.toList w0 l0 K i r A l M Z I lt->
  ∃f:Nat->Bool->gW,(∀j,j<i->f j=S j)/\(∀j,Told E E' (f j))/\(∀j o,i<=j->j<m->ops[j]? =some o->mW E E' (λb w=>(b=true\/E w0 w)/\E' w0 w) sp P ops Q a0 N (λb j=>f j b) j o)/\qW (λb w=>(b=true\/E w0 w)/\E' w0 w) P ops Q a0 N m (λb j=>f j b):=by
 have aC:∀(b:Bool) (i:Nat) (S:Nat->Bool->gW) (l:L) (M Z:List (Nat×gW)) (I:List zO),i=m->Cons ops a0 i S l M Z I->∀a w,a.tmps.size=N->a.defers=a0.defers->(∀j,wrote ops j=false->a.eval (.tmp j)=a0.eval (.tmp j))->
  (∀i d,i<m->((ops[i]?).bind (·.dst))=some d->S i b (a.eval (.tmp d)) w)->(∀i o,i<m->ops[i]? =some o->o.dst=none->S i b (iy ops o a) w)->∀X:L->Prop,(wH M w λl'=>yp I l' w (X l'))->∃l',X l'/\nV a0.defers N (l'++l) a:=by
  rintro b i S l M Z I rfl B a w hz y hk hv ag X hf;obtain⟨l',h1,h2⟩:=yu (a:=a) hf λp hp=>by obtain⟨j,o,J,H,y,h⟩:=B.r p hp;exact h _ _ _ (hv j p.1 J (by rw[H];exact y))
  refine⟨l',u5 h2 h1 (λp hp=>?_),⟨hz,λt v ht=>?_⟩,y⟩;obtain⟨j,o,J,H,y,h⟩:=B.j p hp;exact h _ _ _ (ag j o J H y);rcases Bt ht with h|h;exact h2 t v h;rcases B.l t v h with⟨hw,h⟩|⟨j,o,J,H,y,h⟩;rw[hk t hw];exact h;exact h _ _ _ (hv j t J (by rw[H];exact y))
 intro r;induction r with
 |nil=>
  intro i A l M Z I lt S hr hi B an G h;have ao:i=m:=by simpa[sC]using hi
  refine⟨S,λ_ _=>rfl,an,λj o h1 h2=>by omega,λb a w hz y hk hv ag he=>?_⟩;have aT:ops.size<=m:=by have:=hr 0;simp only[List.getElem?_nil,nj]at this;have:=Array.getElem?_eq_none_iff.1 this.symm;omega
  refine⟨λ_=>?_,λh=>by omega⟩;obtain⟨l',h1,hF⟩:=aC b i S l M Z I ao B a w hz y hk hv ag _ (h w he.2);exact hK _ a w hF h1
 |cons o r ih=>
  intro i A l M Z I lt S hr hi B an G h;have H:ops[i]? =some o:=(hr 0).symm;have aU:i<ops.size:=(fF.1 H).1;have aM:∀j,r[j]? =ops[i+1+j]? :=λj=>by have:=hr (j+1);simpa[tK,Nat.add_comm 1 j]using this
  unfold DW at h;split at h;rename_i ht;have ao:i=m:=by simpa[sC,ht]using hi
  refine⟨S,λ_ _=>rfl,an,λj o h1 h2=>by omega,λb a w hz y hk hv ag he=>⟨λh=>by omega,λ_=>?_⟩⟩;obtain⟨l',h1,hF⟩:=aC b i S l M Z I ao B a w hz y hk hv ag _ (h w he.2);have aD:o.dst=none/\o.guard=none:=by unfold FV at ht;split at ht;rename_i h1 h2;exact⟨h1,h2⟩;cases ht
  unfold wpOp;rw[<-ao,H];simp only[Region.wanted,aD.2,ei];refine .inl (iY hT hF.b h1 (λ_ _ h=>h.elim) (λO h'=>?_) λ_ _ h=>h.elim);rw[aD.1];exact hK _ a O hF h';rename_i ht;have aN:i+1+sC r=m:=by simp only[sC,ht]at hi;omega
  have aa:∀(R:Bool->gW) (ax:List Nat) (l':L) (ab ac:List (Nat×gW)) (ap:List zO) (aq:List Nat),Told E E' R->(∀f:Nat->Bool->gW,(∀j,j<i->f j=S j)->f i=R->Cons ops a0 (i+1) f l' ab ac ap)->(∀f:Nat->Bool->gW,(∀j,j<i->f j=S j)->f i=R->LD ops (i+1) f aq)->DW P T N pn E E' sp ops.toList w0 l0 K (i+1) r ax l' ab ac ap aq->
   (∀f:Nat->Bool->gW,(∀j,j<i->f j=S j)->f i=R->mW E E' (λb w=>(b=true\/E w0 w)/\E' w0 w) sp P ops Q a0 N (λb j=>f j b) i o)->
   ∃f:Nat->Bool->gW,(∀j,j<i->f j=S j)/\(∀j,Told E E' (f j))/\(∀j o,i<=j->j<m->ops[j]? =some o->mW E E' (λb w=>(b=true\/E w0 w)/\E' w0 w) sp P ops Q a0 N (λb j=>f j b) j o)/\qW (λb w=>(b=true\/E w0 w)/\E' w0 w) P ops Q a0 N m (λb j=>f j b):=by
   intro R ax l' ab ac ap aq hR af aE h' n;let S1:Nat->Bool->gW:=λj=>if j=i then R else S j
   have ay:∀j,j<i->S1 j=S j:=λj J=>by simp only[S1];rw[dp (by omega)]
   have ah:S1 i=R:=by show(if i=i then _ else _)=_;rw[dr rfl]
   obtain⟨f,h1,h2,h3,h4⟩:=ih (i+1) ax l' ab ac ap aq S1 aM aN (af S1 ay ah) (λj=>by simp only[S1];split;exact hR;exact an j) (aE S1 ay ah) h';have z:∀j,j<i->f j=S j:=λj J=>(h1 j (by omega)).trans (ay j J);refine⟨f,z,h2,λj o' J aO az=>?_,h4⟩;rcases Nat.eq_or_lt_of_le J with rfl|J;rw[H]at az;obtain rfl:=dH az;exact n f z ((h1 i (by omega)).trans ah);exact h3 j o' J aO az
  split at h;rename_i ai;have ar:o.dst=none/\o.guard=none:=by unfold Hv at ai;split at ai;rename_i h1 h2;exact⟨h1,h2⟩;cases ai
  split at h;rename_i s;have s:=ii s;unfold runT at h;obtain⟨R,hR,n,p,h',af⟩:=Ay (E:=E) (Q:=Q) (go:=λp=>DW P T N pn E E' sp ops.toList w0 l0 K (i+1) r A l (yr Z M) [] (p::I) lt) hT hB ae true (λ_ _ h=>h) (λh=>by cases h) (λp hp=>(j8.1 hp).elim (λh=>⟨.inr ⟨rfl,(fN h).1⟩,(fN h).2⟩) λh=>⟨.inl (fN h).1,(fN h).2⟩) B H ar.1 h;refine aa R A l (yr Z M) [] (p::I) lt hR (λf q hi=>(af f q hi).VD) (λf q _=>G.next q) h' λf z U b a w hb hz V hk hv he=>?_;obtain rfl:=hb (.inl s);have hs:=n f false true (λ_=>⟨rfl,rfl⟩) z a w ⟨hz,V,hk,hv⟩ (he.1.resolve_left (by simp));unfold wpOp;rw[H];simp only[Region.wanted,ar.2,ei];refine .inl ?_;simp only[dr s];rw[U];refine Oper.wp_mono (λa' O hx=>?_) hs;obtain⟨v,q1,q2,q3,q4⟩:=hx;exact⟨v,q1,q2,by simpa[s]using q3,λ_=>q4⟩;rename_i s;have s:=uM s;unfold SL at h;obtain⟨R,hR,n,p,h',af⟩:=Ay (E:=E) (Q:=Q) (go:=λp=>DW P T N pn E E' sp ops.toList w0 l0 K (i+1) r A l M Z (p::I) lt) hT hB ae false ae (λ_ _ _ h=>h) (λp hp=>⟨.inl (fN hp).1,(fN hp).2⟩) B H ar.1 h;refine aa R A l M Z (p::I) lt hR af (λf q _=>G.next q) h' λf z U b a w hb hz V hk hv he=>?_;have hs:=n f b b (λh=>by cases h) z a w ⟨hz,V,hk,hv⟩ he.2;unfold wpOp;rw[H];simp only[Region.wanted,ar.2,ei];refine .inl ?_;simp only[dp s];rw[U];refine Oper.wp_mono (λa' O hx=>?_) hs;obtain⟨v,q1,q2,q3,q4⟩:=hx;exact⟨v,q1,q2,by simpa[s]using q3,λ_=>q4⟩;rename_i aS;obtain⟨h,y⟩:=wW h
  have aj:∀(A:List Nat) (l:L),Cons ops a0 i S l M Z I->(∀(f:Nat->Bool->gW) (b:Bool),(∀j,j<i->f j=S j)->∀a w,At ops a0 N i f b (oE o) a w->Region.wanted o (yielded ops a.tmps)=true)->DC P T N pn E E' ops.toList w0 i l0 o A l M Z (ug lt o) (qY ops.toList sp i) (λl' ab ac lb=>DW P T N pn E E' sp ops.toList w0 l0 K (i+1) r A l' ab ac I (FW lb i lt))->
   ∃f:Nat->Bool->gW,(∀j,j<i->f j=S j)/\(∀j,Told E E' (f j))/\(∀j o,i<=j->j<m->ops[j]? =some o->mW E E' (λb w=>(b=true\/E w0 w)/\E' w0 w) sp P ops Q a0 N (λb j=>f j b) j o)/\qW (λb w=>(b=true\/E w0 w)/\E' w0 w) P ops Q a0 N m (λb j=>f j b):=by
   intro A l B hw h;obtain⟨R,hR,n,l',ab,ac,aF,h',aG,af⟩:=Lz (Q:=Q) hT aB hE ae hB aL B H h;let R1:Bool->gW:=λb v w=>o.dst=none\/R b v w;have aH:∀d,o.dst=some d->R1=R:=λd y=>by funext b v w;simp only[R1,y];simp
   refine aa R1 A l' ab ac I (FW aF i lt) ⟨λb v w O h e=>h.imp id λh=>hR.e b v w O h e,λv w O h e=>h.imp id λh=>hR.x v w O h e⟩ (λf q hi=>af f q λd y=>hi.trans (aH d y)) (λf q hi=>by
    cases aF with
    |false=>exact G.next q
    |true=>
     obtain⟨h1,h2⟩:=aG rfl;intro j J;rcases ft.1 J with rfl|J;cases y:o.dst with
     |none=>unfold ug at h1;rw[y]at h1;cases h1
     |some d=>exact⟨o,d,Nat.lt_succ_self _,H,y,by rw[hi,aH d y];exact h2⟩
     exact G.next q j J) h' λf z U b a w hb hz V hk hv he=>?_
   have F:At ops a0 N i f b (oE o) a w:=⟨hz,V,hk,hv⟩
   have aP:ug lt o=true->b=true:=λau=>by
    unfold ug at au;split at au;obtain⟨e,ak,D⟩:=l9 au;split at D;rename_i al;obtain⟨o2,d2,g1,g2,g3,g4⟩:=G _ (mem_iff D);have av:=hv e.on d2 (sK.2 ⟨e,by simpa using ak,by simp[al]⟩) (by rw[g2];exact g3);cases b with
    |true=>rfl
    |false=>
     simp only[z _ g1]at av;exact absurd av (g4 _ _)
    cases D
    cases au
   have aQ:qY ops.toList sp i=true->b=false/\E w0 w:=λC=>by
    skip
    have aR:∀{k j:Nat},Lx ops.toList k j=true->waits ops k j=true:=λ{k j} C=>by
     unfold Lx at C;unfold waits;rw[wV]at C;have hg:ops.toList[k]? =ops[k]? :=by simp
     rw[hg]at C;split at C;rename_i o2 aA;obtain⟨e,ak,D⟩:=l9 C;rw[aA];split at D;rename_i al;exact sK.2 ⟨e,by simpa using ak,by simp[ii D,al]⟩;cases D;cases C
    have hw:P6 ops sp i:=by
     unfold qY at C;rw[wV]at C;have hg:ops.toList[sp]? =ops[sp]? :=by simp
     rw[hg]at C;split at C;rename_i o2 aA;obtain⟨e,ak,D⟩:=l9 C;split at D;rename_i al;have aI:waits ops sp e.on=true:=by unfold waits;rw[aA];exact sK.2 ⟨e,by simpa using ak,by simp[al]⟩
     split at D;rename_i hx;rw[<-ii hx];exact .inl aI;exact .inr ⟨e.on,aI,aR D⟩;cases D;cases C
    exact⟨hb (.inr hw),he.1.resolve_left (by rw[hb (.inr hw)];simp)⟩
   have hs:=n f b aP z a w F aQ he.2;unfold wpOp;rw[H];simp only[hw f b z a w F,ei];refine .inl ?_;rw[U];refine Oper.wp_mono (λa' O hx=>?_) hs;obtain⟨v,q1,q2,q3⟩:=hx;have q5:if i=sp then E' w O else E w O:=by split;exact ae _ _ q2;exact q2
   have q6:R1 (b||decide (i=sp)) v O:=by by_cases e:i=sp;rw[hb (.inl e)]at q3;have:=hR.x v O O q3 (ae _ _ (hE.refl O));simpa[e,hb (.inl e)]using(Or.inr this:R1 true v O);simpa[e]using(Or.inr q3:R1 b v O)
   cases ad:o.dst with
   |none=>exact⟨iy ops o a,by rw[q1,ad];rfl,q5,.inl ad,λ_=>rfl⟩
   |some d=>exact⟨v,by rw[q1,ad],q5,q6,λh=>by cases h⟩
  have skip:∀(A:List Nat) (l:L),Cons ops a0 i S l M Z I->(∀(f:Nat->Bool->gW) (b:Bool),(∀j,j<i->f j=S j)->∀a w,At ops a0 N i f b (oE o) a w->Region.wanted o (yielded ops a.tmps)=false)->DW P T N pn E E' sp ops.toList w0 l0 K (i+1) r A (W.ins N o.dst undef l) M Z I lt->
   ∃f:Nat->Bool->gW,(∀j,j<i->f j=S j)/\(∀j,Told E E' (f j))/\(∀j o,i<=j->j<m->ops[j]? =some o->mW E E' (λb w=>(b=true\/E w0 w)/\E' w0 w) sp P ops Q a0 N (λb j=>f j b) j o)/\qW (λb w=>(b=true\/E w0 w)/\E' w0 w) P ops Q a0 N m (λb j=>f j b):=by
   intro A l B hw h';let R1:Bool->gW:=λ_ u _=>o.dst=none\/u=undef;refine aa R1 A _ M Z I lt ⟨λ_ _ _ _ h _=>h,λ_ _ _ h _=>h⟩ (λf q hi=>B.ins q H λd y b u w hu=>by rw[hi]at hu;rcases hu with hu|hu;rw[y]at hu;cases hu;exact hu) (λf q _=>G.next q) h' λf z U b a w hb hz V hk hv he=>?_;have F:At ops a0 N i f b (oE o) a w:=⟨hz,V,hk,hv⟩;unfold wpOp;rw[H];simp only[hw f b z a w F,iw,fp];rw[U];have q5:if i=sp then E' w w else E w w:=by split;exact ae _ _ (hE.refl w);exact hE.refl w
   cases ad:o.dst with
   |none=>exact⟨iy ops o a,rfl,q5,.inl ad,λ_=>rfl⟩
   |some d=>exact⟨undef,rfl,q5,.inr rfl,λh=>by cases h⟩
  split at h;rename_i hg;split at h;rename_i s;have s:=ii s;obtain⟨R,hR,h',n⟩:=LA (Q:=Q) hT aB hB B H h
  refine aa (λb v w=>o.dst=none\/(b=true/\R v w)) A l _ [] I _ ⟨λb v w O h e=>h.imp (λh=>h) λh=>⟨h.1,hR _ _ _ h.2 e⟩,λv w O h _=>h.imp (λh=>h) λh=>by cases h.1⟩ (λf q hi=>B.VD.zP q H λd y b u w hu=>by
   rw[hi]at hu;rcases hu with hu|hu;rw[y]at hu;cases hu;exact hu.2) (λf q hi=>by
   intro j J;cases y:o.dst with
   |none=>rw[y]at J;cases J
   |some d=>
    rw[y]at J;obtain rfl:=iQ.1 J;exact⟨o,d,Nat.lt_succ_self _,H,y,λu w hx=>by rw[hi]at hx;rcases hx with hx|hx;rw[y]at hx;cases hx;cases hx.1⟩) h' λf z U b a w hb hz V hk hv he=>?_
  obtain rfl:=hb (.inl s);have hs:=n f z a w ⟨hz,V,hk,hv⟩ (he.1.resolve_left (by simp));unfold wpOp;rw[H];simp only[Region.wanted,hg,ei];refine .inl ?_;simp only[dr s];rw[U];refine Oper.wp_mono (λa' O hx=>?_) hs;obtain⟨v,q1,q2,q3⟩:=hx;cases ad:o.dst with
  |none=>exact⟨iy ops o a,by rw[q1,ad];rfl,q2,.inl rfl,λ_=>rfl⟩
  |some d=>exact⟨v,by rw[q1,ad],q2,.inr ⟨by simp[s],q3⟩,λh=>by cases h⟩
  exact aj A l B (λ_ _ _ _ _ _=>by simp[Region.wanted,hg]) h;rename_i g am hg;split at h;exact h.elim;rename_i d aJ;rw[lN]at aJ;have aK:(ops[g]?).bind (·.dst)=some d:=by simpa using aJ
  split at h;exact h.elim;rename_i aw;split at h;rename_i b hb;have hw:∀(f:Nat->Bool->gW) (Y:Bool),(∀j,j<i->f j=S j)->∀a w,At ops a0 N i f Y (oE o) a w->Region.wanted o (yielded ops a.tmps)=(b==am):=λf Y q a w F=>by have:=(nG hB B q F aw).1 _ hb;simp[Region.wanted,hg,FX aK this]
  split at h;cases b<;>cases am<;>simp only at h;exact aj A l B (λf Y q a w F=>by rw[hw f Y q a w F];rfl) h;exact skip A l B (λf Y q a w F=>by rw[hw f Y q a w F];rfl) h;exact skip A l B (λf Y q a w F=>by rw[hw f Y q a w F];rfl) h;exact aj A l B (λf Y q a w F=>by rw[hw f Y q a w F];rfl) h;cases am<;>simp only at h<;>cases b;exact aj (d::A) ((d,.bool false)::l) (B.tf hb) (λf Y q a w F=>by rw[hw f Y q a w F];rfl) (h.2 rfl);exact skip (d::A) ((d,.bool true)::l) (B.tf hb) (λf Y q a w F=>by rw[hw f Y q a w F];rfl) (h.1 rfl);exact skip (d::A) ((d,.bool false)::l) (B.tf hb) (λf Y q a w F=>by rw[hw f Y q a w F];rfl) (h.2 rfl);exact aj (d::A) ((d,.bool true)::l) (B.tf hb) (λf Y q a w F=>by rw[hw f Y q a w F];rfl) (h.1 rfl);rename_i vs hb;exact skip A l B (λf Y q a w F=>by have:=oe aK ((nG hB B q F aw).1 _ hb);simp[Region.wanted,hg,this]) h;exact h.elim
def DF(F:lB P T)(q:∀c a w,a.tmps.size=N->a.defers=a0.defers->pn c w->Q (.panic c) a w)(s:gq E)(f:gq E')(g:∀a b,E a b->E' a b)(G:P.follows .mixedOrders=true){l:L}{H:Nat}(A:l8 ops N m=true)(u:sC ops.toList=m)(y:uK N l a0)(I:∀l a w,nV a0.defers N l a->K l w->Q .normal a w) (h:DW P T N pn E E' sp ops.toList w0 l K 0 ops.toList [] (vR ops.toList l) [] [] [] []):(Code.region H ops true).wp P Q a0 w0:=by
 have drop:∀(l:L),∀t v,lk (vR ops.toList l) t=some v->wrote ops t=false/\lk l t=some v:=by
  intro l;induction l with
  |nil=>intro t v h;cases h
  |cons p r B=>
   intro t v h;simp only[vR]at h;split at h;rename_i d;obtain⟨C,n⟩:=B t v h;refine⟨C,?_⟩;simp only[lk];split;rename_i z;obtain rfl:=ii z;rw[rR,C]at d;cases d;exact n;rename_i d;simp only[lk]at h⊢;split at h;rename_i z;obtain rfl:=ii z;rw[rR]at d;exact⟨d,h⟩;exact B t v h
 obtain⟨U,_,n,J,M⟩:=Q5 (Q:=Q) (a0:=a0) (sp:=sp) y.at_ F q s g A I ops.toList 0 [] _ [] [] [] [] (λ_ _ _ _=>True) (λj=>by simp) (by simpa using u)
  ⟨λt v D=>.inl ⟨(drop l t v D).1,y.at_ t v (drop l t v D).2⟩,(λp d=>by cases d),(λp d=>by cases d),λp d=>by cases d⟩ (λ_=>⟨λ_ _ _ _ _ _=>trivial,λ_ _ _ _ _=>trivial⟩) (λj O=>by cases O) h
 refine wF (E:=E) (E':=E') (sp:=sp) (Rch:=λb w=>(b=true\/E w0 w)/\E' w0 w) G A ⟨λb i v w k=>(n i).e b v w k,λi v w k=>(n i).x v w k,λb w k h e=>⟨h.1.imp (λh=>h) λh=>s.trans _ _ _ h e,f.trans _ _ _ h.2 (g _ _ e)⟩,λw k h e=>⟨.inl rfl,f.trans _ _ _ h.2 e⟩⟩ ⟨.inr (s.drew _),f.drew _⟩ y.size (λi o R S=>J i o (gu _) R S) M
end
end Go.Proofs.W
variable{m k i j o p s d:Nat}{a:Option Go.Addr}{h:Go.Addr}
namespace Go.Proofs.W
open Go.RowKit
def SP:List (Nat×List Nat):=[(24,[0,1,2,3,4,5,6]),(29,[0,1]),(56,[0,1]),(81,[0,1,2]),(84,[0,1,2]),(101,[0,1,2,3]),(121,[0,1,2]),(125,[0,1,2,3,4]),(141,[0,1,2]),(166,[0,1,2,3,4,7]),(173,[0,1,2,3,4]),(184,[0,1]),(186,[0,7,43,44,45]),(199,[0,1,2,3]),(207,[0,1,2,3]),(220,[0,1]),(245,[0,1,2,8]),(247,[0,1])]
def OI:List (Nat×List Nat)->Nat->Nat->Option Nat
 |[],_,_=>none
 |p::r,S,i=>match Nat.beq p.1 S with
  |true=>nth p.2 i
  |false=>OI r S i
def FY:wE:=⟨OI SP⟩
noncomputable def Hz(p:Nat×List Nat):Bool:=match Tryz.prog.underlying p.1 with
 |some (.struct a)=>(List.range p.2.length).all λi=>match nth p.2 i,a[i]? with
  |some d,some f=>f.offset==d&&(match Tryz.prog.info? f.type with
   |some x=>x.size !=0
   |none=>false)
  |_,_=>false
 |_=>false
def UB:SP.all Hz=true:=by kernel_rfl
theorem DG:∀(l:List (Nat×List Nat)) (S i d:Nat),OI l S i=some d->∃p∈l,p.1=S/\nth p.2 i=some d
 |p::r,S,i,d,h=>by simp only[OI]at h;split at h;rename_i a;exact⟨p,iV,ii a,h⟩;obtain⟨q,b,c⟩:=DG r S i d h;exact⟨q,iF _ b,c⟩
theorem LG{a:Type}:∀{l:List a} {i:Nat} {d:a},nth l i=some d->i<l.length
 |_::_,0,_,_=>Nat.succ_pos _
 |_::r,n+1,_,h=>Nat.succ_lt_succ (LG (l:=r) h)
def gY{t:dn}{d:TypeDesc}(h:Tryz.prog.underlying t=some d)(w:dg):Sem.run V.prog (underlying t) w=.ok d w:=by rw[V.uN];unfold underlying;rw[Sem.run_bind,run_program,Result.andThen_ok,h,Sem.run_pure]
def DI{t:dn}{x:TypeInfo}(h:Tryz.prog.info? t=some x)(w:dg):Sem.run V.prog (typeInfo t) w=.ok x w:=by rw[V.Cm];unfold typeInfo;rw[Sem.run_bind,run_program,Result.andThen_ok,h,Sem.run_pure]
def FZ{t:dn}{x:TypeInfo}(h:Tryz.prog.info? t=some x)(w:dg):Sem.run V.prog (sizeOf t) w=.ok x.size w:=by unfold sizeOf;rw[Sem.run_bind,DI h,Result.andThen_ok,Sem.run_pure]
def LH{t:dn}{x:TypeInfo}{z:di}(h:Tryz.prog.info? t=some x)(a:x.zero=some z)(w:dg):Sem.run V.prog (zeroValue t) w=.ok z w:=by unfold zeroValue;rw[Sem.run_bind,DI h,Result.andThen_ok,a,Sem.run_pure]
def er:lB V.prog FY:=⟨λS i d h b o w=>by
 obtain⟨p,l,rfl,k⟩:=DG _ _ _ _ h;have c:=nY.1 UB p l;unfold Hz at c;split at c;rename_i r m;have a:=nY.1 c i (jL.2 (LG k));rw[k]at a;split at a;rename_i s f e n;obtain rfl:=dH e;simp only[eL,pt]at a;obtain⟨rfl,g⟩:=a;split at g;rename_i x q;have j:x.size≠0:=by simpa using g
 unfold Instr.fieldAt;rw[Sem.run_bind,gY m,Result.andThen_ok];simp only[n,Instr.sureAddr,pure_bind,fieldPlace,Sem.run_bind,FZ q,Result.andThen_ok,dp j,Sem.run_pure];simp[Addr.add];cases g;cases a;cases c⟩
structure TI where
 kd:Nat
 sz:Nat
 es:Nat
 ln:Nat
def VE:List (Nat×TI):=[(3,⟨0,1,0,0⟩),(4,⟨0,1,0,0⟩),(22,⟨3,1,3,0⟩),(24,⟨1,7,0,0⟩),(25,⟨3,1,3,0⟩),(26,⟨3,1,2,0⟩),(27,⟨3,1,1,0⟩),(29,⟨1,2,0,0⟩),(31,⟨0,1,0,0⟩),(38,⟨0,1,0,0⟩),(43,⟨3,1,7,0⟩),(44,⟨3,1,1,0⟩),(45,⟨3,1,1,0⟩),(56,⟨1,2,0,0⟩),(60,⟨0,1,0,0⟩),(64,⟨3,1,1,0⟩),(66,⟨3,1,1,0⟩),(81,⟨1,3,0,0⟩),(84,⟨1,3,0,0⟩),(95,⟨3,1,4,0⟩),(101,⟨1,4,0,0⟩),(112,⟨0,1,0,0⟩),(117,⟨3,1,1,0⟩),(119,⟨0,1,0,0⟩),(121,⟨1,3,0,0⟩),(125,⟨1,5,0,0⟩),(133,⟨0,1,0,0⟩),(138,⟨0,1,0,0⟩),(139,⟨3,1,8,0⟩),(141,⟨1,3,0,0⟩),(154,⟨0,1,0,0⟩),(164,⟨2,3,1,3⟩),(166,⟨1,8,0,0⟩),(173,⟨1,5,0,0⟩),(178,⟨2,6,1,6⟩),(179,⟨2,36,6,6⟩),(180,⟨0,1,0,0⟩),(181,⟨0,1,0,0⟩),(182,⟨0,1,0,0⟩),(184,⟨1,2,0,0⟩),(186,⟨1,47,0,0⟩),(199,⟨1,4,0,0⟩),(200,⟨0,1,0,0⟩),(204,⟨2,6,1,6⟩),(205,⟨2,32,1,32⟩),(207,⟨1,35,0,0⟩),(209,⟨0,1,0,0⟩),(217,⟨2,5,1,5⟩),(220,⟨1,2,0,0⟩),(222,⟨3,1,1,0⟩),(225,⟨3,1,1,0⟩),(243,⟨0,1,0,0⟩),(245,⟨1,12,0,0⟩),(247,⟨1,5,0,0⟩),(248,⟨3,1,4,0⟩)]
def TL:List (Nat×TI)->Nat->Option TI
 |[],_=>none
 |p::r,S=>match Nat.beq p.1 S with
  |true=>some p.2
  |false=>TL r S
def ty(t:Nat):Option TI:=TL VE t
noncomputable def yw(t n:Nat):Bool:=match Tryz.prog.info? t with
 |some x=>x.size==n
 |none=>false
noncomputable def RN(p:Nat×TI):Bool:=yw p.1 p.2.sz&&(match Tryz.prog.underlying p.1 with
 |some (.struct _)=>p.2.kd==1
 |some (.array n e)=>p.2.kd==2&&p.2.ln==n&&yw e p.2.es
 |some (.slice e)=>p.2.kd==3&&yw e p.2.es
 |some _=>p.2.kd==0
 |none=>false)
def UC:VE.all RN=true:=by kernel_rfl
theorem HB:∀(l:List (Nat×TI)) (S:Nat) (d:TI),TL l S=some d->(S,d)∈l
 |p::r,S,d,h=>by simp only[TL]at h;split at h;rename_i a;obtain rfl:=ii a;obtain rfl:=dH h;exact iV;exact iF _ (HB r S d h)
def HE{t:Nat}{x:TI}(h:ty t=some x):RN (t,x)=true:=nY.1 UC _ (HB _ _ _ h)
def lO{t n:Nat}(h:yw t n=true)(w:dg):Sem.run V.prog (sizeOf t) w=.ok n w:=by unfold yw at h;split at h;rename_i x a;rw[FZ a,pt.1 h];cases h
def OJ{t:Nat}{x:TI}(h:ty t=some x)(w:dg):Sem.run V.prog (sizeOf t) w=.ok x.sz w:=by have:=HE h;simp only[RN,eL]at this;exact lO this.1 w
def Q6{t:Nat}{x:TI}(h:ty t=some x)(w:dg):Sem.run V.prog (isAgg t) w=.ok (x.kd==1||x.kd==2) w:=by
 have:=HE h;simp only[RN,eL]at this;have a:=this.2;unfold isAgg;cases b:Tryz.prog.underlying t with
 |none=>rw[b]at a;cases a
 |some d=>
  rw[b]at a;rw[Sem.run_bind,gY b,Result.andThen_ok];cases d<;>simp only[eL,pt]at a<;>simp[a]
def re{t:Nat}{x:TI}(h:ty t=some x)(c:x.kd=3):∃e,Tryz.prog.underlying t=some (.slice e)/\yw e x.es=true:=by
 have:=HE h;simp only[RN,eL]at this;have a:=this.2;cases b:Tryz.prog.underlying t with
 |none=>rw[b]at a;cases a
 |some d=>
  rw[b]at a;cases d<;>simp only[eL,pt]at a<;>first|(exfalso;omega)|skip
  exact⟨_,rfl,a.2⟩
def DJ{t:Nat}{x:TI}(h:ty t=some x)(c:x.kd=2):∃e,Tryz.prog.underlying t=some (.array x.ln e)/\yw e x.es=true:=by
 have:=HE h;simp only[RN,eL]at this;have a:=this.2;cases b:Tryz.prog.underlying t with
 |none=>rw[b]at a;cases a
 |some d=>
  rw[b]at a;cases d<;>simp only[eL,pt]at a<;>first|(exfalso;omega)|skip
  exact⟨_,by rw[a.1.2],a.2⟩
def zL:List (Nat×List di):=[(3,[.int .i64 0]),(24,[.int .i64 0,.int .i64 0,.int .i64 0,.int .i64 0,.int .i64 0,.int .i64 0,.slice none 0 0]),(27,[.slice none 0 0]),(29,[.int .i64 0,.slice none 0 0]),(31,[.nilFunc]),(56,[.int .i64 0,.int .i64 0]),(66,[.slice none 0 0]),(81,[.int .i64 0,.int .i64 0,.int .i64 0]),(84,[.int .i64 0,.int .i64 0,.bool false]),(101,[.int .i64 0,.int .i64 0,.bool false,.bool false]),(125,[.bool false,.int .i64 0,.int .i64 0,.slice none 0 0,.slice none 0 0]),(141,[.pointer none,.slice none 0 0,.int .i64 0]),(166,[.int .i64 0,.int .i64 0,.int .i64 0,.bool false,.bool false,.bool false,.bool false,.bool false]),(173,[.bool false,.int .i64 0,.int .i64 0,.int .i64 0,.int .i64 0]),(178,[.int .i64 0,.int .i64 0,.int .i64 0,.int .i64 0,.int .i64 0,.int .i64 0]),(186,[.int .i64 0,.int .i64 0,.int .i64 0,.int .i64 0,.int .i64 0,.int .i64 0,.slice none 0 0,.int .i64 0,.int .i64 0,.int .i64 0,.int .i64 0,.int .i64 0,.int .i64 0,.int .i64 0,.int .i64 0,.int .i64 0,.int .i64 0,.int .i64 0,.int .i64 0,.int .i64 0,.int .i64 0,.int .i64 0,.int .i64 0,.int .i64 0,.int .i64 0,.int .i64 0,.int .i64 0,.int .i64 0,.int .i64 0,.int .i64 0,.int .i64 0,.int .i64 0,.int .i64 0,.int .i64 0,.int .i64 0,.int .i64 0,.int .i64 0,.int .i64 0,.int .i64 0,.int .i64 0,.int .i64 0,.int .i64 0,.int .i64 0,.map none,.map none,.nilFunc,.nilFunc]),(199,[.slice none 0 0,.int .i64 0,.int .i64 0,.bool false]),(204,[.int .u8 0,.int .u8 0,.int .u8 0,.int .u8 0,.int .u8 0,.int .u8 0]),(209,[.nilFunc]),(217,[.bool false,.bool false,.bool false,.bool false,.bool false]),(220,[.slice none 0 0,.bool false]),(225,[.slice none 0 0]),(247,[.int .i64 0,.slice none 0 0,.int .i64 0,.int .i64 0,.bool false])]
def zG:List (Nat×List di)->Nat->Option (List di)
 |[],_=>none
 |p::r,S=>match Nat.beq p.1 S with
  |true=>some p.2
  |false=>zG r S
def zc(t:Nat):Option (List di):=zG zL t
noncomputable def TM(t:Nat):Option di:=(Tryz.prog.info? t).bind (·.zero)
def WE:(zL.map λp=>(TM p.1).map (·.cells.toList))=zL.map λp=>some p.2:=by kernel_rfl
theorem P9:∀(l:List (Nat×List di)),(l.map λp=>(TM p.1).map (·.cells.toList))=(l.map λp=>some p.2)->∀t a,zG l t=some a->(TM t).map (·.cells.toList)=some a
 |p::r,h,t,a,b=>by simp only[lA,pY]at h;simp only[zG]at b;split at b;rename_i c;obtain rfl:=ii c;obtain rfl:=dH b;exact h.1;exact P9 r h.2 t a b
def Q7{t:Nat}{b:List di}(h:zc t=some b):∃z,z.cells=b.toArray/\∀w,Sem.run V.prog (zeroValue t) w=.ok z w:=by
 have a:=P9 _ WE t b h;unfold TM at a;cases c:Tryz.prog.info? t with
 |none=>rw[c]at a;cases a
 |some x=>
  rw[c]at a;simp only[qz]at a;cases d:x.zero with
  |none=>rw[d]at a;cases a
  |some z=>
   rw[d]at a;refine⟨z,?_,λw=>LH c d w⟩;have:=dH a;rw[<-this]
section
variable{w:dg}{k:di->dg->Prop}{s:dg->Prop}
def OK(a b:Nat):(a==b)=Nat.beq a b:=by
 cases h:Nat.beq a b with
 |true=>simpa using ii h
 |false=>simpa using uM h
def F0(t:Nat):Option Bool:=match ty t with
 |some x=>match Nat.beq x.kd 1 with
  |true=>some true
  |false=>some (Nat.beq x.kd 2)
 |none=>none
def yx{t:Nat}{b:Bool}(h:F0 t=some b)(w:dg):Sem.run V.prog (isAgg t) w=.ok b w:=by
 unfold F0 at h;split at h;rename_i x c;rw[Q6 c];split at h;rename_i a;obtain rfl:=dH h;have:x.kd=1:=ii a;simp[this];rename_i a;obtain rfl:=dH h;have:x.kd≠1:=uM a;have e:(x.kd==1)=false:=by simpa using this
 rw[e,Bool.false_or,OK];cases h
def Qa(t:Nat):Option Nat:=match ty t with
 |some x=>some x.sz
 |none=>none
def Bu{t n:Nat}(h:Qa t=some n)(w:dg):Sem.run V.prog (sizeOf t) w=.ok n w:=by unfold Qa at h;split at h;rename_i x a;obtain rfl:=dH h;exact OJ a w;cases h
def dl{t:dn}{v:di}(c:w.cell? h=some v)(a:k v w)(b:F0 t=some false:=by rfl):jB V.prog (Instr.loadAt t (.pointer (some h))) w k:=by refine⟨v,w,?_,a⟩;simp only[Instr.loadAt,Instr.sureAddr,pure_bind,loadVar,Sem.run_bind,yx b,Result.andThen_ok,iw,fp];go_simp
def iK(b o j:Nat):(⟨b,o,none⟩:Addr).add j=⟨b,o+j,none⟩:=by unfold Addr.add;split<;>simp_all
def eB{t:dn}{vs:List di}(a:∀j v,vs[j]? =some v->w.cell? ⟨i,o+j,none⟩=some v)(h:k (.agg vs.toArray) w)(b:F0 t=some true:=by rfl)(c:Qa t=some vs.length:=by rfl):
 jB V.prog (Instr.loadAt t (.pointer (some ⟨i,o,none⟩))) w k:=by
 refine⟨_,w,?_,h⟩;have d:=run_loadCells_list (P:=V.prog) w ⟨i,o,none⟩ vs λj v e=>by rw[iK];exact a j v e
 simp only[Instr.loadAt,Instr.sureAddr,pure_bind,loadVar,Sem.run_bind,yx b,Bu c,Result.andThen_ok,ei,d,Sem.run_pure]
def gD(a:Array di)(o:Nat):List di->Array di
 |[]=>a
 |v::r=>gD (a.setIfInBounds o v) (o+1) r
theorem rf:∀(d:List di) (w:dg) (b o:Nat) (a:Array di) (t:dn) (c:Nat×Nat),w.heap[b]? =some (.cells a t c)->(w.setCells b o d).heap[b]? =some (.cells (gD a o d) t c)
 |[],w,b,o,a,t,c,h=>h
 |v::r,w,b,o,a,t,c,h=>rf r (w.setCell ⟨b,o,none⟩ v) b (o+1) (a.setIfInBounds o v) t c (by simp[World.setCell,nd,h])
theorem oF:∀(c:List di) (w a:dg) (b o:Nat),dP (λx=>x=b) a w->dP (λx=>x=b) a (w.setCells b o c)
 |[],_,_,_,_,h=>h
 |v::r,w,a,b,o,h=>oF r _ a b (o+1) (h.setCell _ _ λ_=>rfl)
def jj{t:dn}{v:di}{a:Array di}{e:dn}(b:w.heap[i]? =some (.cells a e))(m:o+v.cells.size<=a.size)(h:∀c,dP (λx=>x=i) w c->c.heap[i]? =some (.cells (gD a o v.cells.toList) e)->s c)
 (g:∀u∈v.cells.toList,u.oneCell'=true:=by simp[Value.cells])(k:Qa t=some v.cells.size:=by rfl):Dt V.prog (Instr.storeAt t (.pointer (some ⟨i,o,none⟩)) v) w s:=by
 have l:=run_storeCells_cells (P:=V.prog) i o v.cells.toList 0 w (λj f=>by
  have d:o+0+j<a.size:=by
   have:j<v.cells.size:=by simpa using f
   omega
  simp only[World.cell?,b];simpa using d) (λj f=>by simp[World.frozen?,b]) g
 refine⟨_,?_,h (w.setCells i o v.cells.toList) (oF _ _ _ _ _ (dP.refl _ w)) (rf _ _ _ _ _ _ _ b)⟩;simp only[Instr.storeAt,Instr.sureAddr,pure_bind,storeVar,Sem.run_bind,Bu k,Result.andThen_ok,ne_eq,not_true_eq_false,fp];exact l
def ti:List di->Bool
 |[]=>true
 |v::r=>match v.oneCell' with
  |true=>ti r
  |false=>false
theorem gG:∀{l:List di},ti l=true->∀u∈l,u.oneCell'=true
 |v::r,h,u,a=>by simp only[ti]at h;split at h;rename_i b;rcases ft.1 a with rfl|a;exact b;exact gG h u a;cases h
def ee{t:dn}{v:di}{a:Array di}{c:dn}(d:w.heap[i]? =some (.cells a c))(h:∀b,dP (λx=>x=i) w b->b.heap[i]? =some (.cells (gD a o v.cells.toList) c)->s b)
 (e:Nat.ble (o+v.cells.size) a.size=true:=by rfl)(f:ti v.cells.toList=true:=by rfl)(g:Qa t=some v.cells.size:=by rfl):Dt V.prog (Instr.storeAt t (.pointer (some ⟨i,o,none⟩)) v) w s:=
 jj d (oS e) h (gG f) g
def sD(t:Nat):List di:=match zc t with
 |some a=>a
 |none=>[]
def UD(t:Nat):Bool:=match zc t with
 |some _=>true
 |none=>false
def fJ{t:dn}(h:∀a b,Ext w a->w.heap.size<=b->a.heap[b]? =some (.cells (sD t).toArray t)->k (.pointer (some ⟨b,0,none⟩)) a)(c:UD t=true:=by rfl):jB V.prog (Instr.alloc t true (.tuple #[])) w k:=by
 unfold UD at c;cases d:zc t with
 |none=>rw[d]at c;cases c
 |some f=>
  have e:sD t=f:=by simp[sD,d]
  obtain⟨z,g,i⟩:=Q7 d;rw[e]at h;refine⟨_,w.alloc (.cells f.toArray t),?_,h _ w.heap.size (Ext.alloc _ _) (dC _) (fM _ _)⟩;simp only[Instr.alloc,Sem.run_bind,i,Result.andThen_ok,newVar,newRow,g];go_simp
def fB{t:dn}{v:di}(h:∀a b,Ext w a->w.heap.size<=b->a.heap[b]? =some (.cells v.cells t)->k (.pointer (some ⟨b,0,none⟩)) a):jB V.prog (Instr.box t v) w k:=by refine⟨_,w.alloc (.cells v.cells t),?_,h _ w.heap.size (Ext.alloc _ _) (dC _) (fM _ _)⟩;simp only[Instr.box,newVar,newRow];go_simp
def fl{t b o l c:Nat}(a g:Nat){i:Int}(q:a<l)(h:k (.pointer (some ⟨b,o+a*g,none⟩)) w)(j:i=(a:Nat):=by rfl)(m:ty t=some ⟨3,1,g,0⟩:=by rfl):jB V.prog (Instr.indexAt t (.slice (some ⟨b,o,none⟩) l c) (.int .i64 i)) w k:=by
 subst j;obtain⟨e,n,p⟩:=re m rfl;refine⟨_,w,?_,h⟩;have d:(a:Int)<(l:Int):=by omega
 have f:(0:Int)<=(a:Int):=by omega
 unfold Instr.indexAt;simp only[asIntOf,pure_bind,Sem.run_bind,gY n,Result.andThen_ok,Sem.run_pure,f,d,and_self,ei,lO p,oO,iK]
def wZ{t b o:Nat}(a f n:Nat){g:Int}(q:a<n)(h:k (.pointer (some ⟨b,o+a*f,none⟩)) w)(j:g=(a:Nat):=by rfl)(l:ty t=some ⟨2,i,f,n⟩:=by rfl):jB V.prog (Instr.indexAt t (.pointer (some ⟨b,o,none⟩)) (.int .i64 g)) w k:=by
 subst j;obtain⟨e,m,p⟩:=DJ l rfl;refine⟨_,w,?_,h⟩;have c:(a:Int)<(n:Int):=by omega
 have d:(0:Int)<=(a:Int):=by omega
 unfold Instr.indexAt;simp only[asIntOf,Instr.sureAddr,pure_bind,Sem.run_bind,gY m,Result.andThen_ok,Sem.run_pure,d,c,and_self,ei,lO p,oO,iK]
def eP{t b o l c:Nat}(a:Nat){i:Int}(d:a<l)(h:k (.pointer (some ⟨b,o+a,none⟩)) w)(e:i=(a:Nat):=by rfl)(f:ty t=some ⟨3,1,1,0⟩:=by rfl):jB V.prog (Instr.indexAt t (.slice (some ⟨b,o,none⟩) l c) (.int .i64 i)) w k:=
 fl a 1 d (by rw[nk];exact h) e f
def tj{t b o:Nat}(a n:Nat){i:Int}(c:a<n)(h:k (.pointer (some ⟨b,o+a,none⟩)) w)(d:i=(a:Nat):=by rfl)(e:ty t=some ⟨2,n,1,n⟩:=by rfl):jB V.prog (Instr.indexAt t (.pointer (some ⟨b,o,none⟩)) (.int .i64 i)) w k:=
 wZ a 1 n c (by rw[nk];exact h) d e
def dK{t b:dn}{c:Array Bool}(h:k (.int .i64 i) w)(d:ty b=some ⟨3,1,o,0⟩:=by rfl):Au V.prog (builtin .len #[b] t c #[.slice a i j]) w k:=by
 obtain⟨e,f,_⟩:=re d rfl;refine⟨_,w,?_,h⟩;have g:Sem.run V.prog (Builtin.len_ #[b] t #[.slice a i j]) w=.ok (.int .i64 i) w:=by unfold Builtin.len_;simp only[Cd,G0,Sem.run_bind,gY f,Result.andThen_ok,Sem.run_pure];rfl
 unfold builtin;simp only[Sem.run_bind,g,Result.andThen_ok,Sem.run_pure]
def eC{b:Bool}(h:k (.bool (!b)) w):jB V.prog (Op.unary .not (.bool b)) w k:=⟨_,w,by go_simp,h⟩
section
variable{t:dn}{x y:dZ}{m n:Int}{κ:IntKind}
def dD(h:k (.int .i64 (m+n)) w)(a: -9223372036854775808<=m+n/\m+n<=9223372036854775807:=by omega):jB V.prog (do eqGuard .add t x y (.int .i64 m) (.int .i64 n);binOp .add t (.int .i64 m) (.int .i64 n)) w k:=
 ⟨_,w,by go_simp;exact IntWalk.i64_in _ a,h⟩
def gK(h:k (.int .i64 (m-n)) w)(a: -9223372036854775808<=m-n/\m-n<=9223372036854775807:=by omega):jB V.prog (do eqGuard .sub t x y (.int .i64 m) (.int .i64 n);binOp .sub t (.int .i64 m) (.int .i64 n)) w k:=
 ⟨_,w,by go_simp;exact IntWalk.i64_in _ a,h⟩
def u9(h:k (.int .i64 (m*n)) w)(a: -9223372036854775808<=m*n/\m*n<=9223372036854775807:=by omega):jB V.prog (do eqGuard .mul t x y (.int .i64 m) (.int .i64 n);binOp .mul t (.int .i64 m) (.int .i64 n)) w k:=
 ⟨_,w,by go_simp;exact IntWalk.i64_in _ a,h⟩
def eg(h:k (.bool (decide (m<n))) w):jB V.prog (do eqGuard .lss t x y (.int κ m) (.int κ n);binOp .lss t (.int κ m) (.int κ n)) w k:=⟨_,w,by go_simp,h⟩
def vS(h:k (.bool (decide (m<=n))) w):jB V.prog (do eqGuard .leq t x y (.int κ m) (.int κ n);binOp .leq t (.int κ m) (.int κ n)) w k:=⟨_,w,by go_simp,h⟩
def mE(h:k (.bool (decide (n<m))) w):jB V.prog (do eqGuard .gtr t x y (.int κ m) (.int κ n);binOp .gtr t (.int κ m) (.int κ n)) w k:=⟨_,w,by go_simp,h⟩
def uh(h:k (.bool (decide (n<=m))) w):jB V.prog (do eqGuard .geq t x y (.int κ m) (.int κ n);binOp .geq t (.int κ m) (.int κ n)) w k:=⟨_,w,by go_simp,h⟩
def gA(h:k (.bool (decide (m=n))) w):jB V.prog (do eqGuard .eql t x y (.int κ m) (.int κ n);binOp .eql t (.int κ m) (.int κ n)) w k:=⟨_,w,by go_simp;rw[Bool.eq_iff_iff];simp,h⟩
def fV(h:k (.bool (decide (m≠n))) w):jB V.prog (do eqGuard .neq t x y (.int κ m) (.int κ n);binOp .neq t (.int κ m) (.int κ n)) w k:=⟨_,w,by go_simp;rw[Bool.eq_iff_iff];simp,h⟩
end
@[simp] def WF (v:di):one [v]=v:=rfl
@[simp] def WG (u v:di):one [u,v]=.tuple #[u,v]:=rfl
def Bv{a:Array dn}{t:dn}{b:Array Bool}{m n:Int}(h:k (.int .i64 (max m n)) w):Au V.prog (builtin .max a t b #[.int .i64 m,.int .i64 n]) w k:=by
 refine⟨_,w,?_,h⟩;have c:Sem.run V.prog (Builtin.max_ a t #[.int .i64 m,.int .i64 n]) w=.ok (.int .i64 (max m n)) w:=by unfold Builtin.max_;simp only[List.foldlM_cons,List.foldlM_nil,Builtin.max2,pure_bind,Sem.run_pure];congr 2;show(if n>m then n else m)=_;omega
 unfold builtin;simp only[Sem.run_bind,c,Result.andThen_ok,Sem.run_pure]
def kC{t:dn}(b:Nat){x:Int}(n:b<=j)(h:k (.slice a b j) w)(f:x=(b:Nat):=by rfl)(g:ty t=some ⟨3,1,o,0⟩:=by rfl):jB V.prog (Instr.sliceAt t (.slice a i j) none (some (.int .i64 x)) none) w k:=by
 subst f;obtain⟨e,l,m⟩:=re g rfl;refine⟨_,w,?_,h⟩;have c:(b:Int)<=(j:Int):=by omega
 have d:(0:Int)<=(b:Int):=by omega
 unfold Instr.sliceAt Instr.slice;simp only[Sem.run_bind,gY l,Result.andThen_ok,Instr.sliceBounds,Instr.sliceBound,asIntOf,pure_bind,d,c,and_self,ei,Sem.run_pure,lO m,oO,Nat.sub_zero];cases a<;>simp[Addr.add]
def gh(R:di->dg->Prop):Ending->dg->Prop:=λe w=>∃v,e=.returned v/\R v w
def dt{a:List di}{R:di->dg->Prop}{c:List PanicEntry->dg->Prop}(g:Calls V.prog K a.toArray w (gh R))(h:∀v b,R v b->k v b)(d:∀f w,Sem.run V.prog (callFunc K f) w=.ok (.enter K f) w:=by intro _ _;kernel_rfl):OD V.prog K a w k c:=by refine⟨d,g.mono ?_⟩;rintro e b ⟨v,rfl,i⟩;exact h v b i
end
def dN{a:List di}{d:di}{w:dg}{k:di->dg->Prop}{b:List PanicEntry->dg->Prop}(g:Calls V.prog K a.toArray w (gh λv e=>v=d/\e=w))(h:k d w)(c:∀f w,Sem.run V.prog (callFunc K f) w=.ok (.enter K f) w:=by intro _ _;kernel_rfl):OD V.prog K a w k b:=
 dt g (λv e i=>by obtain⟨rfl,rfl⟩:=i;exact h) c
def eD{a:List di}{v0:di}{w:dg}{k:di->dg->Prop}{c:List PanicEntry->dg->Prop}(g:Calls V.prog K a.toArray w (gh λv b=>v=v0/\Ext w b))(h:∀b,Ext w b->k v0 b)(d:∀f w,Sem.run V.prog (callFunc K f) w=.ok (.enter K f) w:=by intro _ _;kernel_rfl):OD V.prog K a w k c:=
 dt g (λv b e=>by obtain⟨rfl,e⟩:=e;exact h _ e) d
def ki{b:Bool}{A B:Prop}(h:b=true)(k:A):(b=true->A)/\(b=false->B):=⟨λ_=>k,λa=>by rw[h]at a;cases a⟩
def mX{b:Bool}{A B:Prop}(h:b=false)(k:B):(b=true->A)/\(b=false->B):=⟨λa=>(by rw[h]at a;cases a),λ_=>k⟩
def eZ{N b z c n:Nat}{A f B:Code}{l:L}{w:dg}{Q:QW}(h:Nat->L)(J:Nat->dg->Prop)(C:Sub (h 0) l/\J 0 w)
 (r:∀k w,k<=n->J k w->WC V.prog FY N A (λe q g=>e=.normal/\lk q c=some (.bool (decide ((k:Int)<(n:Int))))/\Sub (h k) q/\J k g) (h k) w)
 (i:∀k w,k<n->J k w->WC V.prog FY N (.seq (.block z f) B) (λe q g=>match e with
  | .normal=>Sub (h (k+1)) q/\J (k+1) g
  |e=>ji b Q e q g) (h k) w)
 (s:∀w,J n w->Q .normal (h n) w):fE V.prog N (Code.block b (Code.loop (A.seq ((Code.cond (.tmp c) Code.skip (Code.exit b)).seq ((Code.block z f).seq B))))) l w Q:=by
 refine⟨λa u=>?_⟩;refine wp_block ?_;refine mM (λj a w=>∃k,k<=n/\j=n-k/\Fr N (h k) a/\J k w) n ⟨0,gu _,by omega,u.sub C.1,C.2⟩ ?_;rintro j a w ⟨k,E,rfl,u,F⟩;refine kh (kH (iJ er _ _ _ a w u (r k w E F)) ?_);rintro e G g ⟨q,m,rfl,H,D,t⟩;refine kh (wp_cond_split (m.at_ c _ H) (λI=>?_) λK=>?_);have v:k<n:=by simpa using I
 refine wp_skip ?_;refine kH (iJ er _ _ _ G g (m.sub D) (i k g v t)) ?_;rintro e O P ⟨x,d,o⟩;cases e with
 |normal=>exact⟨n-(k+1),by omega,k+1,by omega,rfl,d.sub o.1,o.2⟩
 |exit j=>
  simp only[Exit.then,Exit.inBlock];by_cases p:j=b;subst p;rw[dr rfl];simp only[ji,vE]at o;exact⟨x,d,o⟩;rw[dp p];have:Nat.beq j b=false:=by
   cases M:Nat.beq j b with
   |false=>rfl
   |true=>exact absurd (ii M) p
  simp only[ji,this]at o;exact⟨x,d,o⟩
 |_=>exact⟨x,d,o⟩
 have y:k=n:=by
  have:¬k<n:=by simpa using K
  omega
 subst y;refine wp_exit ?_;simp only[Exit.then,Exit.inBlock,ei];exact⟨_,m.sub D,s g t⟩
def iE{x:Type}{N b D c n:Nat}{E f F:Code}{l:L}{w:dg}{Q:QW}(h:Nat->x->L)(J:Nat->x->dg->Prop)(y:x)(G:Sub (h 0 y) l/\J 0 y w)
 (r:∀k s w,k<=n->J k s w->WC V.prog FY N E (λe p g=>e=.normal/\lk p c=some (.bool (decide ((k:Int)<(n:Int))))/\Sub (h k s) p/\J k s g) (h k s) w)
 (i:∀k s w,k<n->J k s w->WC V.prog FY N (.seq (.block D f) F) (λe p g=>match e with
  | .normal=>∃v,Sub (h (k+1) v) p/\J (k+1) v g
  |e=>ji b Q e p g) (h k s) w)
 (t:∀s w,J n s w->Q .normal (h n s) w):fE V.prog N (Code.block b (Code.loop (E.seq ((Code.cond (Operand.tmp c) Code.skip (Code.exit b)).seq ((Code.block D f).seq F))))) l w Q:=by
 refine⟨λa z=>?_⟩;refine wp_block ?_;refine mM (λj a w=>∃k s,k<=n/\j=n-k/\Fr N (h k s) a/\J k s w) n ⟨0,y,gu _,by omega,z.sub G.1,G.2⟩ ?_;rintro j a w ⟨k,s,I,rfl,z,K⟩;refine kh (kH (iJ er _ _ _ a w z (r k s w I K)) ?_);rintro e M g ⟨p,m,rfl,O,H,u⟩;refine kh (wp_cond_split (m.at_ c _ O) (λP=>?_) λR=>?_);have A:k<n:=by simpa using P
 refine wp_skip ?_;refine kH (iJ er _ _ _ M g (m.sub H) (i k s g A u)) ?_;rintro e W X ⟨B,d,q⟩;cases e with
 |normal=>
  obtain⟨v,S,T⟩:=q;exact⟨n-(k+1),by omega,k+1,v,by omega,rfl,d.sub S,T⟩
 |exit j=>
  simp only[Exit.then,Exit.inBlock];by_cases o:j=b;subst o;rw[dr rfl];simp only[ji,vE]at q;exact⟨B,d,q⟩;rw[dp o];have:Nat.beq j b=false:=by
   cases U:Nat.beq j b with
   |false=>rfl
   |true=>exact absurd (ii U) o
  simp only[ji,this]at q;exact⟨B,d,q⟩
 |_=>exact⟨B,d,q⟩
 have C:k=n:=by
  have:¬k<n:=by simpa using R
  omega
 subst C;refine wp_exit ?_;simp only[Exit.then,Exit.inBlock,ei];exact⟨_,m.sub H,t s g u⟩
def go{a:Func}{c:Code}{b:Array di}{w:dg}{R:Ending->dg->Prop}(e:V.prog.funcs[K]? =some a)(f:a.ntmps=i)(h:WC V.prog FY i c (QR V.prog a.results.toList R) (b.toList.zipIdx.map λp=>(p.2,p.1)) w)
 (g:a.body=some c:=by rfl)(d:Nat.ble b.toList.length i=true:=by rfl):Calls V.prog K b w R:=by
 have:=SK er (args:=b.toList) i e g f (oS d) h;simpa using this
def F1{b:Array di}{w:dg}{v:di}{S:dg->Prop}(h:Calls V.prog K b w λe a=>e=.returned v/\S a):Calls V.prog K b w (gh λu a=>u=v/\S a):=h.mono λe a h=>⟨v,h.1,rfl,h.2⟩
def gh.same{a:Array di}{w:dg}{v:di}(h:Calls V.prog K a w (gh λu w'=>u=v/\w'=w)):Calls V.prog K a w (gh λu w'=>u=v/\Ext w w'):=h.mono λe w' ⟨v,h,b,c⟩=>⟨v,h,b,c▸Ext.refl _⟩
def io{e:Array Oper}{l:L}{w:dg}{Q:QW}{E g:dg->dg->Prop}(p:Nat)(q:gq E)(k:gq g)(m:∀a b,E a b->g a b)(h:DW V.prog FY i (λc n=>Q (.panic c) [] n) E g p e.toList w l (λl n=>Q .normal l n) 0 e.toList [] (vR e.toList l) [] [] [] [])(r:l8 e i (sC e.toList)=true:=by kernel_rfl):
 fE V.prog i (.region j e true) l w Q:=
 ⟨λa o=>DF er (λc a w s u x=>⟨[],⟨s,u.trans o.defers,λt v y=>by cases y⟩,x⟩) q k m (by kernel_rfl) r rfl o.b (λl A w f z=>⟨l,⟨f.b.size,f.d.trans o.defers,f.b.at_⟩,z⟩) h⟩
def dT{a:Array Oper}{l:L}{w:dg}{Q:QW}{E:dg->dg->Prop}(d:gq E)(h:DW V.prog FY i (λc b=>Q (.panic c) [] b) E E 1000 a.toList w l (λl b=>Q .normal l b) 0 a.toList [] (vR a.toList l) [] [] [] [])(e:l8 a i (sC a.toList)=true:=by kernel_rfl):
 fE V.prog i (.region j a true) l w Q:=io 1000 d d (λ_ _ h=>h) h e
section
variable{E:dg->dg->Prop}{w:dg}{kx:di->Prop}{kr kp kl:gW->Prop}{lb ea:Bool}
def dx{s:Sem di}(v:di)(h:∀a,E w a->jB V.prog s a λu b=>u=v/\E a b)(k:kx v):wX E E w (λa κ=>jB V.prog s a κ) kx kr kp lb kl ea:=.exact v h k
def TN{s:Sem Next}(v:di)(h:∀a,E w a->Au V.prog s a λu b=>u=v/\E a b)(k:kx v):wX E E w (λa κ=>Au V.prog s a κ) kx kr kp lb kl ea:=.exact v h k
def kZ{a:List di}{c:List PanicEntry->dg->Prop}(v:di)(g:∀b,E w b->Calls V.prog K a.toArray b (gh λu i=>u=v/\E b i))(k:kx v)(d:∀f w,Sem.run V.prog (callFunc K f) w=.ok (.enter K f) w:=by intro _ _;kernel_rfl):wX E E w (λb κ=>OD V.prog K a b κ c) kx kr kp lb kl ea:=
 .exact v (λb e=>dt (g b e) (λ_ _ h=>h) d) k
def gU{a:List di}{c:List PanicEntry->dg->Prop}(i:gq E)(v:di)(j:∀b,E w b->Calls V.prog K a.toArray b (gh λu f=>u=v/\f=b))(k:kx v)(d:∀g w,Sem.run V.prog (callFunc K g) w=.ok (.enter K g) w:=by intro _ _;kernel_rfl):wX E E w (λb κ=>OD V.prog K a b κ c) kx kr kp lb kl ea:=
 .exact v (λb e=>dt (j b e) (λu f h=>⟨h.1,by rw[h.2];exact i.refl _⟩) d) k
def dI{t:dn}{v:di}(b:w.cell? h=some v)(k:kx v)(c:F0 t=some false:=by rfl):wX Ext Ext w (λa κ=>jB V.prog (Instr.loadAt t (.pointer (some h))) a κ) kx kr kp lb kl ea:=
 dx v (λa e=>dl (e.cell b) ⟨rfl,Ext.refl _⟩ c) k
variable{t:dn}{x y:dZ}{m n:Int}{κ:IntKind}
def pH{b:Bool}(h:kx (.bool (!b)))(c:gq E:=by first|exact dO|exact im _):wX E E w (λa f=>jB V.prog (Op.unary .not (.bool b)) a f) kx kr kp lb kl ea:=
 dx _ (λa _=>eC ⟨rfl,c.refl _⟩) h
def F2(h:kx (.int .i64 (m+n)))(b: -9223372036854775808<=m+n/\m+n<=9223372036854775807:=by omega)(c:gq E:=by first|exact dO|exact im _):wX E E w (λa f=>jB V.prog (do eqGuard .add t x y (.int .i64 m) (.int .i64 n);binOp .add t (.int .i64 m) (.int .i64 n)) a f) kx kr kp lb kl ea:=
 dx _ (λa _=>dD ⟨rfl,c.refl _⟩ b) h
def rh(h:kx (.int .i64 (m-n)))(b: -9223372036854775808<=m-n/\m-n<=9223372036854775807:=by omega)(c:gq E:=by first|exact dO|exact im _):wX E E w (λa f=>jB V.prog (do eqGuard .sub t x y (.int .i64 m) (.int .i64 n);binOp .sub t (.int .i64 m) (.int .i64 n)) a f) kx kr kp lb kl ea:=
 dx _ (λa _=>gK ⟨rfl,c.refl _⟩ b) h
def LI(h:kx (.int .i64 (m*n)))(b: -9223372036854775808<=m*n/\m*n<=9223372036854775807:=by omega)(c:gq E:=by first|exact dO|exact im _):wX E E w (λa f=>jB V.prog (do eqGuard .mul t x y (.int .i64 m) (.int .i64 n);binOp .mul t (.int .i64 m) (.int .i64 n)) a f) kx kr kp lb kl ea:=
 dx _ (λa _=>u9 ⟨rfl,c.refl _⟩ b) h
def LJ(h:kx (.bool (decide (m<n))))(b:gq E:=by first|exact dO|exact im _):wX E E w (λa f=>jB V.prog (do eqGuard .lss t x y (.int κ m) (.int κ n);binOp .lss t (.int κ m) (.int κ n)) a f) kx kr kp lb kl ea:=
 dx _ (λa _=>eg ⟨rfl,b.refl _⟩) h
def SQ(h:kx (.bool (decide (m<=n))))(b:gq E:=by first|exact dO|exact im _):wX E E w (λa f=>jB V.prog (do eqGuard .leq t x y (.int κ m) (.int κ n);binOp .leq t (.int κ m) (.int κ n)) a f) kx kr kp lb kl ea:=
 dx _ (λa _=>vS ⟨rfl,b.refl _⟩) h
def Az(h:kx (.bool (decide (n<m))))(b:gq E:=by first|exact dO|exact im _):wX E E w (λa f=>jB V.prog (do eqGuard .gtr t x y (.int κ m) (.int κ n);binOp .gtr t (.int κ m) (.int κ n)) a f) kx kr kp lb kl ea:=
 dx _ (λa _=>mE ⟨rfl,b.refl _⟩) h
def Qb(h:kx (.bool (decide (n<=m))))(b:gq E:=by first|exact dO|exact im _):wX E E w (λa f=>jB V.prog (do eqGuard .geq t x y (.int κ m) (.int κ n);binOp .geq t (.int κ m) (.int κ n)) a f) kx kr kp lb kl ea:=
 dx _ (λa _=>uh ⟨rfl,b.refl _⟩) h
def HF(h:kx (.bool (decide (m=n))))(b:gq E:=by first|exact dO|exact im _):wX E E w (λa f=>jB V.prog (do eqGuard .eql t x y (.int κ m) (.int κ n);binOp .eql t (.int κ m) (.int κ n)) a f) kx kr kp lb kl ea:=
 dx _ (λa _=>gA ⟨rfl,b.refl _⟩) h
def Qc(h:kx (.bool (decide (m≠n))))(b:gq E:=by first|exact dO|exact im _):wX E E w (λa f=>jB V.prog (do eqGuard .neq t x y (.int κ m) (.int κ n);binOp .neq t (.int κ m) (.int κ n)) a f) kx kr kp lb kl ea:=
 dx _ (λa _=>fV ⟨rfl,b.refl _⟩) h
def jU{t b o l c:Nat}(a d:Nat){i:Int}(g:a<l)(h:kx (.pointer (some ⟨b,o+a*d,none⟩)))(j:i=(a:Nat):=by rfl)(k:ty t=some ⟨3,1,d,0⟩:=by rfl)(m:gq E:=by first|exact dO|exact im _):wX E E w (λe f=>jB V.prog (Instr.indexAt t (.slice (some ⟨b,o,none⟩) l c) (.int .i64 i)) e f) kx kr kp lb kl ea:=
 dx _ (λe _=>fl a d g ⟨rfl,m.refl _⟩ j k) h
def HG{t b o:Nat}(a c n:Nat){d:Int}(g:a<n)(h:kx (.pointer (some ⟨b,o+a*c,none⟩)))(j:d=(a:Nat):=by rfl)(k:ty t=some ⟨2,i,c,n⟩:=by rfl)(l:gq E:=by first|exact dO|exact im _):wX E E w (λe f=>jB V.prog (Instr.indexAt t (.pointer (some ⟨b,o,none⟩)) (.int .i64 d)) e f) kx kr kp lb kl ea:=
 dx _ (λe _=>wZ a c n g ⟨rfl,l.refl _⟩ j k) h
def nH{t b o l c:Nat}(a:Nat){i:Int}(e:a<l)(h:kx (.pointer (some ⟨b,o+a,none⟩)))(g:i=(a:Nat):=by rfl)(j:ty t=some ⟨3,1,1,0⟩:=by rfl)(k:gq E:=by first|exact dO|exact im _):wX E E w (λd f=>jB V.prog (Instr.indexAt t (.slice (some ⟨b,o,none⟩) l c) (.int .i64 i)) d f) kx kr kp lb kl ea:=
 dx _ (λd _=>eP a e ⟨rfl,k.refl _⟩ g j) h
def pI{t b o:Nat}(a n:Nat){i:Int}(d:a<n)(h:kx (.pointer (some ⟨b,o+a,none⟩)))(e:i=(a:Nat):=by rfl)(g:ty t=some ⟨2,n,1,n⟩:=by rfl)(j:gq E:=by first|exact dO|exact im _):wX E E w (λc f=>jB V.prog (Instr.indexAt t (.pointer (some ⟨b,o,none⟩)) (.int .i64 i)) c f) kx kr kp lb kl ea:=
 dx _ (λc _=>tj a n d ⟨rfl,j.refl _⟩ e g) h
def lf{t b:dn}{d:Array Bool}(h:kx (.int .i64 i))(e:ty b=some ⟨3,1,o,0⟩:=by rfl)(g:gq E:=by first|exact dO|exact im _):wX E E w (λc f=>Au V.prog (builtin .len #[b] t d #[.slice a i j]) c f) kx kr kp lb kl ea:=
 TN _ (λc _=>dK ⟨rfl,g.refl _⟩ e) h
end
end Go.Proofs.W
variable{l f:List Nat}
namespace Go.Proofs.W
open Go.RowKit
def ly(n a b:Int):Bool:=decide (a<=n)&&decide (n<=b)
def fC(n a b:Int)(w:dg):Calls V.prog 106 #[.int .i64 n,.int .i64 a,.int .i64 b] w (gh λv c=>v=.bool (ly n a b)/\c=w):=by refine go V.func106 Tryz.ntmps106 ?_;refine vS ⟨λh=>vS ⟨_,rfl,?_,rfl⟩,λh=>⟨_,rfl,?_,rfl⟩⟩<;>simp[ly,h]
def Ka(l:List Nat)(k:Nat):Nat:=if k=0 then 0 else l.getD (k-1) 0+1
def DK(W:Nat->Nat->Int)(l:List Nat):Nat->Int
 |0=>0
 |k+1=>DK W l k+W (Ka l k) (l.getD k 0+1)
def rS(W:Nat->Nat->Int)(l:List Nat):Int:=DK W l l.length+W (Ka l l.length) 0
def LK(h:∀d∈l,d<5)(k:Nat)(b:k<=l.length):Ka l k<6:=by
 unfold Ka;split;omega;have a:k-1<l.length:=by omega
 have:=h _ (fc a);rw[ng,fI a];simp only[kF];omega
theorem Bw{W:Nat->Nat->Int}(a:∀i j,0<=W i j/\W i j<=1000)(l:List Nat):∀k,0<=DK W l k/\DK W l k<=1000*k
 |0=>by simp[DK]
 |k+1=>by have b:=Bw a l k;have c:=a (Ka l k) (l.getD k 0+1);simp only[DK];omega
def yy{W:Nat->Nat->Int}(a:∀i j,0<=W i j/\W i j<=1000)(l:List Nat):0<=rS W l/\rS W l<=1000*l.length+1000:=by have b:=Bw a l l.length;have c:=a (Ka l l.length) 0;unfold rS;omega
def F3(W:Nat->Nat->Int)(a:Int)(l:List Nat):Int:=rS W l+(l.length:Int)*a
def getD_eq{a:Type}{l:List a}{d:a}(h:k<l.length):l.getD k d=l[k]:=by rw[ng,fI h];rfl
def yz(m:Nat)(W:Nat->Nat->Int)(l:List Nat)(p:Option Addr)(s:Nat)(w:dg)(a:∀i j,i<6->j<6->w.cell? ⟨m,7+i*6+j,none⟩=some (.int .i64 (W i j)))(q:∀i j,0<=W i j/\W i j<=1000) (r:∀d∈l,d<5)(t:l.length<=100000)(f:∀k (h:k<l.length),∃b o,p=some ⟨b,o,none⟩/\w.cell? ⟨b,o+k,none⟩=some (.int .i64 l[k])):
 Calls V.prog 161 #[.pointer (some ⟨m,0,none⟩),.slice p l.length s] w (gh λv e=>v=.int .i64 (rS W l)/\e=w):=by
 have u:=Bw q l;refine go V.func161 Tryz.ntmps161 ?_;refine dK (eZ (n:=l.length) (λk=>[(0,.pointer (some ⟨m,0,none⟩)),(9,.slice p l.length s),(10,.int .i64 l.length),(11,.int .i64 k),(5,.int .i64 (DK W l k)),(6,.int .i64 (Ka l k))]) (λ_ e=>e=w) ?_ ?_ ?_ ?_);exact⟨⟨rfl,rfl,rfl,rfl,rfl,rfl,trivial⟩,rfl⟩;rintro k e g rfl;exact eg ⟨rfl,rfl,⟨rfl,rfl,rfl,rfl,rfl,rfl,trivial⟩,rfl⟩;rintro k e g rfl;obtain⟨b,o,rfl,y⟩:=f k g;have B:=r _ (fc g);have c:=LK r k (by omega);have z:=u k;have A:=q (Ka l k) (l[k]+1);refine eP k g (dl y (dD (wZ (Ka l k) 6 6 c (tj (l[k]+1) 6 (by omega) (dl (a _ (l[k]+1) c (by omega)) (dD (dD (dD ?_))))))));have x:l.getD k 0=l[k]:=getD_eq g;refine⟨⟨rfl,rfl,rfl,rfl,?_,?_,trivial⟩,rfl⟩;show _=some (Value.int .i64 (DK W l k+W (Ka l k) (l.getD k 0+1)));rw[x];rfl;show _=some (Value.int .i64 ((l.getD k 0+1:Nat):Int));rw[x];rfl;rintro e rfl;have c:=LK r l.length (dC _);have z:=u l.length;have A:=q (Ka l l.length) 0;exact wZ (Ka l l.length) 6 6 c (tj 0 6 (by omega) (dl (a _ 0 c (by omega)) (dD ⟨_,rfl,rfl,rfl⟩)))
def IW(m:Nat)(W:Nat->Nat->Int)(n:Int)(l:List Nat)(p:Option Addr)(r:Nat)(w:dg)(q:w.cell? ⟨m,2,none⟩=some (.int .i64 n))(a:∀i j,i<6->j<6->w.cell? ⟨m,7+i*6+j,none⟩=some (.int .i64 (W i j)))(s:∀i j,0<=W i j/\W i j<=1000) (y:∀d∈l,d<5)(c:l.length<=100000)(f:∀k (h:k<l.length),∃b o,p=some ⟨b,o,none⟩/\w.cell? ⟨b,o+k,none⟩=some (.int .i64 l[k]))(g:0<=n/\n<=1000):
 Calls V.prog 114 #[.pointer (some ⟨m,0,none⟩),.slice p l.length r] w (gh λv z=>v=.int .i64 (F3 W n l)/\Ext w z):=by
 have t:=yy s l;have u:=Int.mul_le_mul_of_nonneg_left g.2 (Int.natCast_nonneg l.length);have C:=GZ (Int.natCast_nonneg l.length) g.1;refine go V.func114 Tryz.ntmps114 ?_;refine dT dO ?_;refine gU dO _ (λx e=>yz m W l p r x (λi j A B=>e.cell (a i j A B)) s y c λk h=>by obtain⟨b,o,t,u⟩:=f k h;exact⟨b,o,t,e.cell u⟩) (lf (dI q (LI (F2 λx e=>⟨_,rfl,rfl,e⟩))))
end Go.Proofs.W
variable{w t e:dg}
namespace Go.Proofs.W
open Go.RowKit
def zQ(a b:Int):Int:=max (a-b) (b-a)
def HH(a b:Int)(w:dg)(d:0<=a/\a<=1000000)(e:0<=b/\b<=1000000):Calls V.prog 178 #[.int .i64 a,.int .i64 b] w (gh λv c=>v=.int .i64 (zQ a b)/\c=w):=by refine go V.func178 Tryz.ntmps178 ?_;exact gK (gK (Bv ⟨_,rfl,rfl,rfl⟩))
def F4(b:Nat)(n T:Int)(w:dg)(a:w.cell? ⟨b,5,none⟩=some (.int .i64 T)):Calls V.prog 179 #[.int .i64 n,.pointer (some ⟨b,0,none⟩)] w (gh λv c=>v=.bool (decide (T<=n))/\c=w):=by refine go V.func179 Tryz.ntmps179 ?_;exact dl a (uh ⟨_,rfl,rfl,rfl⟩)
def F5(b:Nat)(m n T:Int)(w:dg)(c:w.cell? ⟨b,5,none⟩=some (.int .i64 T)):Calls V.prog 180 #[.int .i64 m,.int .i64 n,.pointer (some ⟨b,0,none⟩)] w (gh λv d=>v=.bool (decide (T<2)||(decide (0<m)&&decide (0<n)))/\d=w):=by refine go V.func180 Tryz.ntmps180 ?_;refine dl c (eg ⟨λh=>?_,λh=>?_⟩);exact⟨_,rfl,by simp[h],rfl⟩;refine mE ⟨λa=>mE ⟨_,rfl,by simp[h,a],rfl⟩,λa=>⟨_,rfl,by simp[h,a],rfl⟩⟩
def LL(a:Nat)(D:Int)(w:dg)(b:w.cell? ⟨a,4,none⟩=some (.int .i64 D))(d:0<=D/\D<=1000):Calls V.prog 107 #[.pointer (some ⟨a,0,none⟩)] w (gh λv c=>v=.int .i64 (2*D-1)/\c=w):=by refine go V.func107 Tryz.ntmps107 ?_;exact dl b (u9 (gK ⟨_,rfl,rfl,rfl⟩))
def iz(w:dg)(a:Option Addr)(l:List Int):Prop:=∀k (h:k<l.length),∃b o,a=some ⟨b,o,none⟩/\w.cell? ⟨b,o+k,none⟩=some (.int .i64 l[k])
def iz.ext{l:List Int}(h:iz w a l)(e:Ext w t):iz t a l:=λk c=>by obtain⟨b,o,d,f⟩:=h k c;exact⟨b,o,d,e.cell f⟩
theorem iz.take{l:List Int}(h:iz w a l)(i:Nat):iz w a (l.take i):=λk d=>by
 have c:k<l.length:=by simp at d;omega
 obtain⟨b,o,e,f⟩:=h k c;exact⟨b,o,e,by rw[f];simp⟩
def tk(x:Int):List Int->Nat->Int
 |[],_=> -1
 |y::r,i=>if x=y then i else tk x r (i+1)
def AA(x:Int)(l:List Int)(k:Nat)(a:k<l.length):tk x (l.drop k) k=if x=l[k]then(k:Int)else tk x (l.drop (k+1)) (k+1):=by rw[qu a];rfl
def IX(l:List Int)(x:Int)(e:Option Addr)(f:Nat)(w:dg)(i:iz w e l)(g:l.length<=100000):Calls V.prog 176 #[.slice e l.length f,.int .i64 x] w (gh λv c=>v=.int .i64 (tk x l 0)/\c=w):=by
 refine go V.func176 Tryz.ntmps176 ?_;refine dK (eZ (n:=l.length) (λk=>[(0,.slice e l.length f),(1,.int .i64 x),(7,.int .i64 l.length),(8,.int .i64 k)]) (λk c=>c=w/\tk x l 0=tk x (l.drop k) k) ⟨⟨rfl,rfl,rfl,rfl,trivial⟩,rfl,rfl⟩ ?_ ?_ ?_);rintro k c d ⟨rfl,a⟩;exact eg ⟨rfl,rfl,⟨rfl,rfl,rfl,rfl,trivial⟩,rfl,a⟩;rintro k c d ⟨rfl,a⟩;obtain⟨b,o,rfl,j⟩:=i k d;rw[AA x l k d]at a;refine eP k d (dl j (gA ⟨λh=>?_,λh=>?_⟩));have h:x=l[k]:=by simpa using h
 exact⟨_,rfl,by rw[a,dr h];rfl,rfl⟩;have h:¬x=l[k]:=by simpa using h
 rw[dp h]at a;exact dD ⟨⟨rfl,rfl,rfl,rfl,trivial⟩,rfl,a⟩;rintro c ⟨rfl,a⟩;exact⟨_,rfl,by rw[a];simp[tk],rfl⟩
structure Dr where
 st:Int
 at_:Int
 talk:Int
structure Gd where
 streets:Int
 corner:Int
 knock:Int
 minutes:Int
 days:Int
 tries:Int
 doors:List Dr
def dL(d:Dr):List di:=[.int .i64 d.st,.int .i64 d.at_,.int .i64 d.talk]
def iv(w:dg)(a:Option Addr)(l:List Dr):Prop:=∀k (h:k<l.length),∃b o,a=some ⟨b,o,none⟩/\w.cell? ⟨b,o+k*3,none⟩=some (.int .i64 l[k].st)/\w.cell? ⟨b,o+k*3+1,none⟩=some (.int .i64 l[k].at_)/\w.cell? ⟨b,o+k*3+2,none⟩=some (.int .i64 l[k].talk)
def iv.ext{l:List Dr}(h:iv w a l)(e:Ext w t):iv t a l:=λk c=>by obtain⟨b,o,d,f,g,i⟩:=h k c;exact⟨b,o,d,e.cell f,e.cell g,e.cell i⟩
def gL(G:Gd)(a:Option Addr)(b:Nat):List di:=[.int .i64 G.streets,.int .i64 G.corner,.int .i64 G.knock,.int .i64 G.minutes,.int .i64 G.days,.int .i64 G.tries,.slice a G.doors.length b]
def gV(G:Gd)(a:Option Addr)(b:Nat):di:=.agg (gL G a b).toArray
def j9(G:Gd):Bool:=ly G.streets 1 3&&(ly G.corner 1 9&&(ly G.knock 1 5&&(ly G.minutes 1 90&&(ly G.days 1 3&&ly G.tries 1 G.days))))
def nI(n:Int)(d:Dr):Int:=if ly d.st 0 (n-1)then(if ly d.at_ 0 20&&ly d.talk 1 9 then 0 else 1)else 3
def lP(n:Int):List Dr->Int
 |[]=>0
 |d::r=>if nI n d=0 then lP n r else nI n d
def eF(G:Gd):Int:=if j9 G then(if(5:Int)<G.doors.length then 6 else lP G.streets G.doors)else 1
def vT(n:Int)(l:List Dr)(k:Nat)(a:k<l.length):lP n (l.drop k)=if nI n l[k]=0 then lP n (l.drop (k+1))else nI n l[k]:=by rw[qu a];rfl
def IY(G:Gd)(t:Option Addr)(D:Nat)(w:dg)(H:iv w t G.doors)(E:G.doors.length<=100000):Calls V.prog 146 #[gV G t D] w (gh λv m=>v=.int .i64 (eF G)/\Ext w m):=by
 refine go V.func146 Tryz.ntmps146 ?_;refine fB λu I f J c=>?_;have a:∀{b:Bool},j9 G=false->∃v,Ending.returned (one [Value.int .i64 1])=.returned v/\v=Value.int .i64 (eF G)/\Ext w u:=λh=>⟨_,rfl,by simp[eF,h],f⟩;refine dl (dj c rfl) (dN (fC _ _ _ _) (eC ⟨λh=>ki h (a (b:=true) (by simp at h;simp[j9,h])),λg=>?_⟩));refine dl (dj c rfl) (dN (fC _ _ _ _) (eC ⟨λh=>ki h (a (b:=true) (by simp at h;simp[j9,h])),λq=>?_⟩));refine dl (dj c rfl) (dN (fC _ _ _ _) (eC ⟨λh=>ki h (a (b:=true) (by simp at h;simp[j9,h])),λr=>?_⟩));refine dl (dj c rfl) (dN (fC _ _ _ _) (eC ⟨λh=>ki h (a (b:=true) (by simp at h;simp[j9,h])),λK=>?_⟩));refine dl (dj c rfl) (dN (fC _ _ _ _) (eC ⟨λh=>ki h (a (b:=true) (by simp at h;simp[j9,h])),λL=>?_⟩));refine dl (dj c rfl) (dl (dj c rfl) (dN (fC _ _ _ _) (eC ⟨λh=>(a (b:=true) (by simp at h;simp[j9,h])),λM=>?_⟩)));have S: -1000000<=G.streets/\G.streets<=1000000:=by simp[ly]at g;omega
 have F:j9 G=true:=by simp at g q r K L M;simp[j9, *]
 refine dl (dj c rfl) (dK (mE ⟨λh=>⟨_,rfl,by simp at h;simp[eF,F,h],f⟩,λx=>?_⟩));have x:¬(5:Int)<G.doors.length:=by simpa using x
 have y:eF G=lP G.streets G.doors:=by simp[eF,F,x]
 refine dl (dj c rfl) (dK (eZ (n:=G.doors.length) (λk=>[(1,.pointer (some ⟨I,0,none⟩)),(38,.slice t G.doors.length D),(39,.int .i64 G.doors.length),(40,.int .i64 k)]) (λk m=>Ext u m/\eF G=lP G.streets (G.doors.drop k)) ⟨⟨rfl,rfl,rfl,rfl,trivial⟩,Ext.refl _,by rw[y];rfl⟩ ?_ ?_ ?_));rintro k m s ⟨e,d⟩;exact eg ⟨rfl,rfl,⟨rfl,rfl,rfl,rfl,trivial⟩,e,d⟩;rintro k m s ⟨e,d⟩;obtain⟨b,o,rfl,N,z,O⟩:=(H.ext (f.trans e)) k s;rw[vT _ _ k s]at d;refine fl k 3 s (eB (vs:=dL G.doors[k]) (λj v i=>?_) (fJ λT U P A B=>ee B λQ R l=>?_));match j,i with
 |0,i=>cases i;exact N
 |1,i=>cases i;exact z
 |2,i=>cases i;exact O
 have p:Ext u Q:=(e.trans P).dz R (dS e.size A);have C:=p.at_ c;refine dl (dj l rfl) (dl (dj C rfl) (gK (dN (fC _ _ _ _) (eC ⟨λh=>?_,λg=>?_⟩))));exact⟨_,rfl,by simp at h;rw[d];simp[nI,h],f.trans p⟩;simp at g;refine dl (dj l rfl) (dN (fC _ _ _ _) (eC ⟨λh=>ki h ?_,λq=>?_⟩));exact⟨_,rfl,by simp at h;rw[d];simp[nI,g,h],f.trans p⟩;simp at q;refine dl (dj l rfl) (dN (fC _ _ _ _) (eC ⟨λh=>?_,λr=>?_⟩));exact⟨_,rfl,by simp at h;rw[d];simp[nI,g,h],f.trans p⟩;simp at r;exact dD ⟨⟨rfl,rfl,rfl,rfl,trivial⟩,p,by rw[d];simp[nI,g,q,r]⟩;rintro m ⟨e,d⟩;exact⟨_,rfl,by rw[d];simp[lP],f.trans e⟩
end Go.Proofs.W
variable{T U:dn}
namespace Go.Proofs.W
open Go.RowKit
section
variable{w:dg}{k:di->dg->Prop}
def Qd(h:∀a b,Ext w a->w.heap.size<=b->a.heap[b]? =some (.map #[] 0)->k (.map (some b)) a):jB V.prog (Instr.makeMap T none) w k:=
 ⟨_,_,run_makeMap T w,h _ w.heap.size (Ext.alloc _ _) (dC _) (fM _ _)⟩
def eJ{s:Sem di}(v:di)(h:k v w)(a:∀w,Sem.run V.prog s w=.ok v w:=by intro _;kernel_rfl):jB V.prog s w k:=⟨v,w,a w,h⟩
def eQ{a:Array (Nat×di)}(d:List di)(e:dn)(h:∀b c,Ext w b->w.heap.size<=c->b.heap[c]? =some (.cells d.toArray e)->k (.slice (some ⟨c,0,none⟩) m m) b)
 (f:∀w,Sem.run V.prog (Instr.buildSlice T m a) w=.ok (.slice (some ⟨w.heap.size,0,none⟩) m m) (w.alloc (.cells d.toArray e)):=by intro _;kernel_rfl):jB V.prog (Instr.buildSlice T m a) w k:=
 ⟨_,_,f w,h _ w.heap.size (Ext.alloc _ _) (dC _) (fM _ _)⟩
def ES(b e:dn)(a:List di):Prop:=V.prog.underlying b=some (.slice e)/\∃i z,V.prog.info? e=some i/\i.zero=some z/\z.cells=a.toArray/\i.size=a.length/\i.bytes<=256/\0<a.length
def OL:ES 22 81 [.int .i64 0,.int .i64 0,.int .i64 0]:=⟨by kernel_rfl,Tryz.t81,_,by kernel_rfl,rfl,by kernel_rfl,by kernel_rfl,by decide+kernel,by decide⟩
def uj:ES 27 3 [.int .i64 0]:=⟨by kernel_rfl,Tryz.t3,_,by kernel_rfl,rfl,by kernel_rfl,by kernel_rfl,by decide+kernel,by decide⟩
def Q8:ES 66 27 [.slice none 0 0]:=⟨by kernel_rfl,Tryz.t27,_,by kernel_rfl,rfl,by kernel_rfl,by kernel_rfl,by decide+kernel,by decide⟩
def F6{e:dn}{l:List di}{q:Array Bool}(r:ES T e l){v:di}{o:List di}(s:dM i e l w v j o)(n:i<=w.heap.size){m c:Nat}{news:List di}(t:news.length=m*l.length)(x:0<m) (a:∀p u,news[p]? =some u->w.cell? (h.add p)=some u)(y:∀u∈news,u.oneCell'=true)(g:j+m<=1000000) (A:∀d f,dM i e l f d (j+m) (o++news)->dP (dw v) w f->(∀b,dw d b->dw v b\/w.heap.size<=b)->k d f):Au V.prog (builtin .append #[T,T] U q #[v,.slice (some h) m c]) w k:=by obtain⟨B,M,z,C,D,E,F,G,H⟩:=r;obtain⟨d,f,I,J,K,L⟩:=FT (ty:=U) B C D E F G H s n (c:=c) t x a y g;refine⟨d,f,?_,A d f J K L⟩;unfold builtin;simp only[Sem.run_bind,I,Result.andThen_ok,Sem.run_pure]
def iM{e:dn}{c:List di}{n:Array Bool}(p:ES T e c){v:di}{l:List di}(h:dM m e c w v i l)(d:m<=w.heap.size){a:List di}{q:dn}(r:w.heap[j]? =some (.cells a.toArray q))(b:i+1<=1000000)
 (s:∀f g,dM m e c g f (i+1) (l++a)->dP (dw v) w g->(∀j,dw f j->dw v j\/w.heap.size<=j)->k f g)(t:Nat.beq a.length c.length=true:=by rfl)(x:ti a=true:=by rfl):Au V.prog (builtin .append #[T,T] U n #[v,.slice (some ⟨j,0,none⟩) 1 o]) w k:=
 F6 p h d (by rw[Nat.one_mul];exact ii t) (by omega) (λz u y=>by rw[iK,dB];exact dj r (by simpa using y)) (gG x) b s
def Bx{e:dn}{f:List di}{g:Array Bool}(l:ES T e f){b:Option Addr}(n:m<=i)(h:k (.slice a m i) w):Au V.prog (builtin .append #[T,T] U g #[.slice a m i,.slice b 0 j]) w k:=by
 obtain⟨c,o,z,d,r,s,t,u,v⟩:=l;refine⟨_,w,?_,h⟩;rw[V.sv]at c;rw[V.G7]at d;have p:Sem.run V.prog (sizeOf e) w=.ok o.size w:=FZ d w;have q:Sem.run V.prog (Builtin.append_ #[T,T] U #[.slice a m i,.slice b 0 j]) w=.ok (.slice a m i) w:=by unfold Builtin.append_;simp only[Cd,G0,zZ,Sem.run_bind,gY c,Result.andThen_ok,p,Sem.run_pure];simp only[iw,fp,Builtin.lenOf,Sem.run_pure,Result.andThen_ok,nj,n,ei,Bool.not_false];cases b<;>cases a<;>simp[Builtin.firstCells,loadCells,loadCellsFrom,storeCells,Sem.run_bind,Sem.run_pure]<;>(intro h;omega)
 unfold builtin;simp only[Sem.run_bind,q,Result.andThen_ok,Sem.run_pure]
end
end Go.Proofs.W
variable{H N:Go.Proofs.W.Gd}{I J:Int}{S:dg->Prop}
namespace Go.Proofs.W
open Go.RowKit
def fa(G:Gd):List Dr:=⟨0,0,0⟩::G.doors
def IZ(c:Int)(a b:Dr):Int:=if a.st=b.st then zQ a.at_ b.at_ else a.at_+b.at_+c*zQ a.st b.st
def qn(G:Gd)(i j:Nat):Int:=match(fa G)[i]?,(fa G)[j]? with
 |some a,some b=>IZ G.corner a b
 |_,_=>0
def Qe(f a:Nat):di:=.func (.func f) #[] #[.pointer (some ⟨a,0,none⟩)]
def DL(G:Gd)(a:Option Addr)(dc mk ms:Nat)(b c:di)(f:Nat->Nat->Int)(j:Nat):di:=
 if j<7 then(gL G a dc).getD j undef else if j<43 then .int .i64 (f ((j-7)/6) ((j-7)%6))else if j=43 then .map (some mk)else if j=44 then .map (some ms)else if j=45 then b else c
structure nJ(gp:Nat)(C:Nat->di)(w:dg):Prop where
 out:∃cs,w.heap[gp]? =some (.cells cs 186)/\cs.size=47/\∀j,j<47->cs[j]? =some (C j)
def nJ.cell{C:Nat->di}(h:nJ m C w)(j:Nat)(a:j<47:=by omega):w.cell? ⟨m,j,none⟩=some (C j):=by obtain⟨d,b,e,c⟩:=h.out;exact dj b (c j a)
def nJ.ext{C:Nat->di}(h:nJ m C w)(e:Ext w t):nJ m C t:=by obtain⟨a,b,c,d⟩:=h.out;exact⟨a,e.at_ b,c,d⟩
def nJ.mono{C a:Nat->di}(h:nJ m C w)(e:∀j,j<47->C j=a j):nJ m a w:=by obtain⟨c,d,f,g⟩:=h.out;exact⟨c,d,f,λj b=>by rw[g j b,e j b]⟩
theorem nK:∀(b:List di) (a:Array di) (o j:Nat),o+b.length<=a.size->(gD a o b)[j]? =if o<=j/\j<o+b.length then b[j-o]? else a[j]?
 |[],a,o,j,_=>by simp[gD];omega
 |v::r,a,o,j,h=>by simp only[fq]at h;have e:=nK r (a.setIfInBounds o v) (o+1) j (by simp;omega);simp only[gD,e,fq];by_cases c:o+1<=j/\j<o+1+r.length;rw[dr c,dr (by omega)];rw[show j-o=(j-(o+1))+1 by omega];simp;rw[dp c];by_cases d:o=j;subst d;rw[dr (by omega),kq (by omega)];simp;rw[dp (by omega),eG d]
theorem og:∀(b:List di) (a:Array di) (o:Nat),(gD a o b).size=a.size
 |[],_,_=>rfl
 |v::r,a,o=>by rw[gD,og r];simp
def LM{C:Nat->di}(h:nJ m C w)(p:o+x.cells.size<=47)(b:∀a,dP (λc=>c=m) w a->nJ m (λj=>if o<=j/\j<o+x.cells.size then x.cells.toList.getD (j-o) undef else C j) a->S a)
 (d:ti x.cells.toList=true:=by rfl)(e:Qa T=some x.cells.size:=by rfl):Dt V.prog (Instr.storeAt T (.pointer (some ⟨m,o,none⟩)) x) w S:=by
 obtain⟨q,f,g,i⟩:=h.out;refine jj f (by omega) (λa k l=>b a k ⟨_,l,by rw[og];exact g,λj n=>?_⟩) (gG d) e;rw[nK _ _ _ _ (by simp;omega)];simp only[Array.length_toList];split;rename_i r;have:j-o<x.cells.toList.length:=by simp;omega
 rw[ng,fI this];rfl;exact i j n
structure oN(gp mk ms:Nat)(G:Gd)(w:dg):Prop where
 at_:∃da dc gb,nJ gp (DL G da dc mk ms (Qe 179 gb) (Qe 180 gb) (qn G)) w/\iv w da G.doors/\w.cell? ⟨gb,5,none⟩=some (.int .i64 G.tries)
 ok:eF G=0
 mlt:mk<w.heap.size
 slt:ms<w.heap.size
 ne:mk≠ms
 gk:gp≠mk/\gp≠ms
theorem oN.ext{gp mk ms:Nat}(h:oN gp mk ms H w)(e:Ext w t):oN gp mk ms H t:=by obtain⟨a,b,c,d,f,g⟩:=h.at_;exact⟨⟨a,b,c,d.ext e,f.ext e,e.cell g⟩,h.ok,eh h.mlt e.size,eh h.slt e.size,h.ne,h.gk⟩
structure Gd.Ok(G:Gd):Prop where
 streets:1<=G.streets/\G.streets<=3
 corner:1<=G.corner/\G.corner<=9
 knock:1<=G.knock/\G.knock<=5
 minutes:1<=G.minutes/\G.minutes<=90
 days:1<=G.days/\G.days<=3
 tries:1<=G.tries/\G.tries<=G.days
 many:G.doors.length<=5
 door:∀d∈G.doors,(0<=d.st/\d.st<=2)/\(0<=d.at_/\d.at_<=20)/\1<=d.talk/\d.talk<=9
theorem AB(c:I<=3):∀{l:List Dr},lP I l=0->∀d∈l,(0<=d.st/\d.st<=2)/\(0<=d.at_/\d.at_<=20)/\1<=d.talk/\d.talk<=9
 |x::r,h,d,b=>by simp only[lP]at h;split at h;rename_i a;rcases ft.1 b with rfl|b;simp only[nI]at a;split at a;split at a;rename_i e f;simp[ly]at e f;omega;omega;omega;exact AB c h d b;rename_i a;exact absurd h a
def jV(h:eF H=0):H.Ok:=by simp only[eF]at h;split at h;rename_i a;split at h;omega;rename_i b;simp[j9,ly]at a;refine⟨by omega,by omega,by omega,by omega,by omega,by omega,by omega,AB (by omega) h⟩;omega
def By(h:H.Ok)(i j:Nat):0<=qn H i j/\qn H i j<=1000:=by
 have f:∀d∈fa H,(0<=d.st/\d.st<=2)/\(0<=d.at_/\d.at_<=20):=λd c=>by rcases ft.1 c with rfl|c;simp;exact⟨(h.door d c).1,(h.door d c).2.1⟩
 unfold qn;split;rename_i a b g k;have m:=f a (vD g);have n:=f b (vD k);have l:=h.corner;unfold IZ;split;unfold zQ;omega;have e:0<=zQ a.st b.st/\zQ a.st b.st<=2:=by unfold zQ;omega
 have:=Int.mul_le_mul l.2 e.2 e.1 (by omega);have:=GZ (show 0<=H.corner by omega) e.1;omega;omega
end Go.Proofs.W
variable{A B C:Nat->Prop}
namespace Go.Proofs.W
open Go.RowKit
def pd(G:Gd)(i k a b:Nat):Int:=if a<i\/(a=i/\b<k)then qn G a b else 0
def DM(G:Gd)(h:(fa G).length<=m\/(fa G).length<=k):qn G m k=0:=by unfold qn;rcases h with h|h;rw[G1 h];rw[G1 h];split<;>simp_all
def OM(G:Gd)(a:m<(fa G).length)(b:k<(fa G).length):qn G m k=IZ G.corner (fa G)[m] (fa G)[k]:=by unfold qn;rw[fI a,fI b]
def LN(G:Gd)(a:Option Addr)(dc mk ms:Nat)(b c:di)(i k:Nat)(l:i<6)(m:k<6)(n:Int)(g:n=qn G i k)(j:Nat)(o:j<47):
 (if 7+i*6+k<=j/\j<7+i*6+k+1 then([Value.int .i64 n]:List di).getD (j-(7+i*6+k)) undef else DL G a dc mk ms b c (pd G i k) j)=DL G a dc mk ms b c (pd G i (k+1)) j:=by
 split;rename_i h;obtain rfl:j=7+i*6+k:=by omega
 simp only[ot,List.getD_cons_zero,DL];rw[dp (by omega),dr (by omega)];have d:(7+i*6+k-7)/6=i:=by omega
 have f:(7+i*6+k-7)%6=k:=by omega
 rw[d,f];simp[pd,g];rename_i h;simp only[DL];split;rfl;split;rename_i d f;have:¬((j-7)/6=i/\(j-7)%6=k):=by omega
 congr 1;simp only[pd];have e:((j-7)/6<i\/(j-7)/6=i/\(j-7)%6<k)↔((j-7)/6<i\/(j-7)/6=i/\(j-7)%6<k+1):=by omega
 simp only[e];rfl
def ON{ds:List Dr}(h:dM m 81 [.int .i64 0,.int .i64 0,.int .i64 0] w x k (ds.flatMap dL))(p:k=ds.length):∃a c,x=.slice a k c/\iv w a ds/\∀b o,a=some ⟨b,o,none⟩->m<=b:=by
 subst p;have j:∀(ds:List Dr) (f:Nat) (g:f<ds.length),(ds.flatMap dL)[f*3]? =some (.int .i64 ds[f].st)/\(ds.flatMap dL)[f*3+1]? =some (.int .i64 ds[f].at_)/\(ds.flatMap dL)[f*3+2]? =some (.int .i64 ds[f].talk):=by
  intro ds;induction ds with
  |nil=>intro f g;simp at g
  |cons d r q=>
   intro f g;cases f with
   |zero=>simp[dL]
   |succ f=>
    have:=q f (by simpa using g);have e:(f+1)*3=f*3+3:=by omega
    simpa[dL,e]using this
 obtain⟨s,⟨t,rfl⟩|⟨b,c,z,A,rfl,i,B,C,D,l,E⟩⟩:=h;exact⟨none,0,by rw[t],λf g=>by omega,λ_ _ h=>by cases h⟩;refine⟨_,c,rfl,λf g=>⟨b,0,rfl,?_⟩,λ_ _ h=>by injection h with h;injection h with F i;omega⟩;have n:(ds.flatMap dL).length=ds.length*3:=by simpa using s
 obtain⟨u,v,y⟩:=j ds f g;refine⟨dj i ?_,dj i ?_,dj i ?_⟩;rw[dB,l _ (by omega)];exact u;rw[dB,l _ (by omega)];exact v;rw[dB,l _ (by omega)];exact y
theorem uk:∀(a:List Dr) (k:Nat) (b:k<a.length),(a.flatMap dL)[k*3]? =some (.int .i64 a[k].st)/\(a.flatMap dL)[k*3+1]? =some (.int .i64 a[k].at_)/\(a.flatMap dL)[k*3+2]? =some (.int .i64 a[k].talk)
 |d::r,0,_=>by simp[dL]
 |d::r,k+1,b=>by
  have:=uk r k (by simpa using b);have e:(k+1)*3=k*3+3:=by omega
  simpa[dL,e]using this
theorem yA:∀a:List Dr,(a.flatMap dL).length=a.length*3
 |[]=>rfl
 |d::r=>by have:=yA r;simp[dL,this];omega
def F7{b:List Dr}(h:iv w (some ⟨m,o,none⟩) b)(j:Nat)(u:di)(a:(b.flatMap dL)[j]? =some u):w.cell? ⟨m,o+j,none⟩=some u:=by
 have t:j<b.length*3:=by rw[<-yA];exact(je.1 a).1
 have d:j/3<b.length:=by omega
 obtain⟨f,g,e,i,k,l⟩:=h (j/3) d;obtain⟨rfl,rfl⟩:m=f/\o=g:=by injection e with e;injection e with n p;exact⟨n,p⟩
 obtain⟨q,r,s⟩:=uk b (j/3) d;have c:j%3=0\/j%3=1\/j%3=2:=by omega
 rcases c with c|c|c;have e:j=j/3*3:=by omega
 rw[e]at a⊢;rw[q]at a;cases a;exact i;have e:j=j/3*3+1:=by omega
 rw[e]at a⊢;rw[r]at a;cases a;exact k;have e:j=j/3*3+2:=by omega
 rw[e]at a⊢;rw[s]at a;cases a;exact l
def OO{s:di->dg->Prop}{z:Array Bool}{f e:List Dr}(h:dM m 81 [.int .i64 0,.int .i64 0,.int .i64 0] w x k (f.flatMap dL))(q:m<=w.heap.size)(t:iv w a e)(g:k+e.length<=1000000) (v:∀n l,dM m 81 [.int .i64 0,.int .i64 0,.int .i64 0] l n (k+e.length) ((f++e).flatMap dL)->dP (dw x) w l->s n l):Au V.prog (builtin .append #[22,22] T z #[x,.slice a e.length i]) w s:=by
 rcases e with _|⟨d,r⟩;have A:∃y c,x=.slice y k c/\k<=c:=by obtain⟨_,⟨rfl,rfl⟩|⟨b,c,G,_,rfl,_,_,B,_⟩⟩:=h;exact⟨_,_,rfl,dC _⟩;exact⟨_,_,rfl,B⟩
 obtain⟨y,c,rfl,C⟩:=A;exact Bx OL C (v _ _ (by simpa using h) (dP.refl _ w));obtain⟨b,o,rfl,_⟩:=t 0 (by simp);refine F6 OL h q (news:=(d::r).flatMap dL) (yA _) (by simp) (λj u D=>by rw[iK];exact F7 t j u D) (λu p=>?_) g λn l E F _=>v n l (by simpa using E) F;obtain⟨H,_,p⟩:=tH.1 p;simp[dL]at p;rcases p with rfl|rfl|rfl<;>rfl
def iv.keep{c:List Dr}(h:iv w a c)(k:dP A w t)(d:∀b o,a=some ⟨b,o,none⟩->¬A b):iv t a c:=λi e=>by obtain⟨b,o,rfl,f,g,j⟩:=h i e;have:=d b o rfl;exact⟨b,o,rfl,k.fh f this,k.fh g this,k.fh j this⟩
def nJ.keep{C:Nat->di}(h:nJ m C w)(k:dP A w t)(a:¬A m):nJ m C t:=by obtain⟨b,c,d,e⟩:=h.out;exact⟨b,k.fU c a,d,e⟩
def DN(h:H.Ok)(d:Dr)(a:d∈fa H):(0<=d.st/\d.st<=2)/\(0<=d.at_/\d.at_<=20):=by rcases ft.1 a with rfl|a;simp;exact⟨(h.door d a).1,(h.door d a).2.1⟩
def LO(h:dP (dw (.slice (some ⟨m,o,none⟩) k i)) w t):dP (λx=>x=m) w t:=
 ⟨h.os,h.tape,h.output,h.size,h.drawn,λx a b=>h.block x a λ⟨c,d,e⟩=>b (by injection e with e;exact(dQ Addr.block (dH e)).symm)⟩
def TO(G:Gd)(a:Option Addr)(dc mk ms:Nat):List di:=gL G a dc++(List.replicate 36 (Value.int .i64 0)++[Value.map (some mk),Value.map (some ms),Value.nilFunc,Value.nilFunc])
def I0(G:Gd)(g:Option Addr)(m:Nat)(w:dg)(hd:iv w g G.doors)(W:G.doors.length<=100000):
 Calls V.prog 144 #[gV G g m] w (gh λv t=>Ext w t/\((eF G≠0/\v=.tuple #[.pointer none,.int .i64 (eF G)])\/(eF G=0/\∃c mk l,v=.tuple #[.pointer (some ⟨c,0,none⟩),.int .i64 0]/\oN c mk l G t/\
  w.heap.size<=c/\w.heap.size<=mk/\w.heap.size<=l/\t.heap[mk]? =some (.map #[] 0)/\t.heap[l]? =some (.map #[] 0)))):=by
 refine go V.func144 Tryz.ntmps144 ?_;refine fB λX E F aI hb=>?_;refine eB (vs:=gL G g m) (λj v d=>by rw[dB];exact dj hb (by simpa[gV,Value.cells]using d)) ?_;refine eD (IY G g m X (hd.ext F) W) λw2 H=>?_;refine fV ⟨λh=>⟨_,rfl,F.trans H,.inl ⟨by simpa using h,rfl⟩⟩,λh=>?_⟩;have O:eF G=0:=by simpa using h
 have ok:=jV O;have z:=H.at_ hb;refine eB (vs:=gL G g m) (λj v d=>by rw[dB];exact dj z (by simpa[gV,Value.cells]using d)) ?_;refine Qd λw3 mk M aJ hm=>Qd λw4 l I aK Y=>?_;refine eJ (.agg (TO G g m mk l).toArray) ?_;refine fB λw5 c e5 al hg=>?_;have E5:Ext w w5:=(((F.trans H).trans M).trans I).trans e5;refine eJ (.agg #[.int .i64 0,.int .i64 0,.int .i64 0]) ?_;refine eQ (dL ⟨0,0,0⟩) 81 λw6 pb e6 am hp=>?_;have an:iv w6 g G.doors:=hd.ext (E5.trans e6);refine dl (dj ((M.trans (I.trans (e5.trans e6))).at_ z) rfl) ?_;have ao:nJ c (DL G g m mk l .nilFunc .nilFunc (pd G 0 0)) w5:=by
  refine⟨_,hg,by simp[Value.cells,TO,gL],λj d=>?_⟩;show(TO G g m mk l).toArray[j]? =_;have h0:∀a b,pd G 0 0 a b=0:=λa b=>by simp[pd]
  rw[Cd];unfold TO DL;split;rename_i h7;rw[oQ (by simpa[gL]using h7),ng,fI (by simpa[gL]using h7)];rfl;rename_i h7;rw[qa (by simp[gL];omega)];have hl:(gL G g m).length=7:=rfl;rw[hl];split;rename_i ap;rw[oQ (by simp;omega),List.getElem?_replicate,dr (by omega),h0]
  ·rename_i ap;rw[qa (by simp;omega),List.length_replicate];obtain rfl|rfl|rfl|rfl:j=43\/j=44\/j=45\/j=46:=by omega
   all_goals rfl
 have aq:dM pb 81 [.int .i64 0,.int .i64 0,.int .i64 0] w6 (.slice (some ⟨pb,0,none⟩) 1 1) 1 (([⟨0,0,0⟩]:List Dr).flatMap dL):=
  ⟨rfl,.inr ⟨pb,1,_,dC _,rfl,hp,rfl,dC _,by decide,λj d=>by simp[List.flatMap],λj h1 h2=>by simp[dL]at h1 h2;omega⟩⟩
 have aH:=dG.lt_of_heap hp;refine OO aq (by omega) an (by omega) λv w7 ar k7=>?_;have e7:Ext w5 w7:=e6.dz (LO k7) am;have Z:(fa G).length=1+G.doors.length:=by simp[fa];omega
 obtain⟨pa,pc,rfl,au,av⟩:=ON (ds:=fa G) ar Z.symm;rw[<-Z];have aw:=ao.ext e7;have ax:=(M.trans (I.trans (e5.trans e7))).at_ z;have h6:(fa G).length<=6:=by have:=ok.many;omega
 have lb:E<w2.heap.size:=dG.lt_of_heap z;have lm:mk<w3.heap.size:=dG.lt_of_heap hm;have ls:l<w4.heap.size:=dG.lt_of_heap Y;have lg:c<w5.heap.size:=dG.lt_of_heap hg;have s3:=M.size;have s4:=I.size;have A:c≠mk/\c≠l/\E≠c/\mk≠l:=by omega
 refine dK (eZ (n:=(fa G).length) (λk=>[(1,.pointer (some ⟨E,0,none⟩)),(5,.pointer (some ⟨c,0,none⟩)),(6,.slice pa (fa G).length pc),(26,.slice pa (fa G).length pc),(27,.int .i64 (fa G).length),(28,.int .i64 k)])
  (λi t=>dP (λx=>x=c) w7 t/\nJ c (DL G g m mk l .nilFunc .nilFunc (pd G i 0)) t) ⟨⟨rfl,rfl,rfl,rfl,rfl,rfl,trivial⟩,dP.refl _ _,aw⟩ ?_ ?_ ?_)
 rintro k t S ⟨k',T⟩;exact eg ⟨rfl,rfl,⟨rfl,rfl,rfl,rfl,rfl,rfl,trivial⟩,k',T⟩;rintro i t T ⟨U,P⟩;have aa:∀b o,pa=some ⟨b,o,none⟩->¬(b=c):=λb o h=>by have:=av b o h;omega
 have ac:iv t pa (fa G):=au.keep U aa;obtain⟨b,o,Q,h1,h2,h3⟩:=ac i T;subst Q;have aL:=DN ok _ (fc T)
 refine fl i 3 T (eB (vs:=dL (fa G)[i]) (λj u d=>by
  match j,d with
  |0,d=>cases d;exact h1
  |1,d=>cases d;exact h2
  |2,d=>cases d;exact h3) (fJ λw8 ab e8 ay az=>ee az λw9 k9 ad=>?_))
 have kw:=U.size;have s7:=e7.size;have ae:i<6:=by omega
 have aA:=(P.ext e8).keep k9 (show¬(c=ab) by omega);have aM:=dG.lt_of_heap ad;have e9:Ext t w9:=e8.dz k9 ay
 refine dK (eZ (n:=(fa G).length) (λk=>[(1,.pointer (some ⟨E,0,none⟩)),(5,.pointer (some ⟨c,0,none⟩)),(6,.slice (some ⟨b,o,none⟩) (fa G).length pc),(7,.int .i64 i),(8,.pointer (some ⟨ab,0,none⟩)),(26,.slice (some ⟨b,o,none⟩) (fa G).length pc),(27,.int .i64 (fa G).length),(28,.int .i64 i),
  (33,.slice (some ⟨b,o,none⟩) (fa G).length pc),(34,.int .i64 (fa G).length),(35,.int .i64 k)]) (λk R=>dP (λx=>x=c) w9 R/\nJ c (DL G g m mk l .nilFunc .nilFunc (pd G i k)) R) ⟨⟨rfl,rfl,rfl,rfl,rfl,rfl,rfl,rfl,rfl,rfl,rfl,trivial⟩,dP.refl _ _,aA⟩ ?_ ?_ ?_)
 rintro k R S ⟨J,B⟩;exact eg ⟨rfl,rfl,⟨rfl,rfl,rfl,rfl,rfl,rfl,rfl,rfl,rfl,rfl,rfl,trivial⟩,J,B⟩;rintro k R S ⟨J,B⟩;have aN:=DN ok _ (fc S);have af:k<6:=by omega
 have aB:iv R (some ⟨b,o,none⟩) (fa G):=(ac.ext e9).keep J aa;obtain⟨b2,o2,Q,g1,g2,g3⟩:=aB k S;obtain⟨rfl,rfl⟩:b=b2/\o=o2:=by injection Q with e;injection e with F H;exact⟨F,H⟩
 refine fl k 3 S (eB (vs:=dL (fa G)[k]) (λj u d=>by
  match j,d with
  |0,d=>cases d;exact g1
  |1,d=>cases d;exact g2
  |2,d=>cases d;exact g3) (fJ λaO bb aC aD ag=>ee ag λK aE r=>?_))
 have L:Ext R K:=aC.dz aE aD;have sk:=J.size;have s:K.heap[ab]? =some (.cells (gD (sD 81).toArray 0 (dL (fa G)[i])) 81):=L.at_ (J.fU ad (show¬(ab=c) by omega));have N:=B.ext L;have ah:K.cell? ⟨E,1,none⟩=some (.int .i64 G.corner):=L.cell (J.fh (e9.cell (U.fh (dj ax rfl) A.2.2.1)) A.2.2.1)
 have ai:∀p f,Ext K p->∀n:Int,n=qn G i k->dP (λx=>x=c) p f->nJ c (λj=>if 7+i*6+k<=j/\j<7+i*6+k+1 then([Value.int .i64 n]:List di).getD (j-(7+i*6+k)) undef else DL G g m mk l .nilFunc .nilFunc (pd G i k) j) f->
  dP (λx=>x=c) w9 f/\nJ c (DL G g m mk l .nilFunc .nilFunc (pd G i (k+1))) f:=λp f e n hn C hg=>by
  refine⟨(J.trans ((L.trans e).keep λx=>x=c) (λ_ _ h=>h) λ_ _ h=>h).trans C (λ_ _ h=>h) λ_ _ h=>h,hg.mono λj d=>LN G g m mk l _ _ i k (by omega) (by omega) n hn j d⟩
 have aj:qn G i k=IZ G.corner (fa G)[i] (fa G)[k]:=OM G T S;refine dl (dj s rfl) (dl (dj r rfl) (gA ⟨λh=>?_,λh=>?_⟩));refine dT dO (dI (dj s rfl) (dI (dj r rfl) (gU dO _ (λX e=>HH _ _ X (by omega) (by omega)) (HG i 6 6 ae (pI k 6 af λp e=>LM (N.ext e) (by simp[Value.cells];omega) λf C D=>?_)))));have h:(fa G)[i].st=(fa G)[k].st:=eA h;exact dD ⟨⟨rfl,rfl,rfl,rfl,rfl,rfl,rfl,rfl,rfl,rfl,rfl,trivial⟩,ai p f e _ (by rw[aj];simp[IZ,h]) C D⟩;have h:¬(fa G)[i].st=(fa G)[k].st:=eH h;have hf:0<=zQ (fa G)[i].st (fa G)[k].st/\zQ (fa G)[i].st (fa G)[k].st<=2:=by unfold zQ;omega
 have hc:=ok.corner;have m1:=Int.mul_le_mul hc.2 hf.2 hf.1 (by omega);have m2:=GZ (show 0<=G.corner by omega) hf.1
 refine dT dO (dI (dj s rfl) (dI (dj r rfl) (F2 (dI ah (dI (dj s rfl) (dI (dj r rfl) (gU dO _ (λX e=>HH _ _ X (by omega) (by omega)) (LI (F2 (HG i 6 6 ae (pI k 6 af λp e=>
  LM (N.ext e) (by simp[Value.cells];omega) λf C D=>?_)))))))))))
 exact dD ⟨⟨rfl,rfl,rfl,rfl,rfl,rfl,rfl,rfl,rfl,rfl,rfl,trivial⟩,ai p f e _ (by rw[aj];simp[IZ,h]) C D⟩;rintro R ⟨J,B⟩;refine dD ⟨⟨rfl,rfl,rfl,rfl,rfl,rfl,trivial⟩,U.trans (((e9.keep λx=>x=c).trans J (λ_ _ h=>h) λ_ _ h=>h)) (λ_ _ h=>h) λ_ _ h=>h,B.mono λj d=>?_⟩;simp only[DL];split;rfl;split;congr 1;simp only[pd];generalize (j-7)/6=x;generalize hy:(j-7)%6=y;by_cases hx:x<i\/x=i/\y<(fa G).length;rw[dr hx,dr (by omega)];rw[dp hx];split;rw[DM G (by omega)];rfl;rfl;rintro t ⟨U,P⟩;have ak:nJ c (DL G g m mk l .nilFunc .nilFunc (qn G)) t:=P.mono λj d=>by simp only[DL];split;rfl;split;congr 1;simp only[pd];split;rfl;rw[DM G (by omega)];rfl
 refine eJ (.agg #[Qe 179 E,Qe 180 E]) (LM ak (oS rfl) λw8 k8 aF=>?_);have aG:dP (λx=>x=c) w7 w8:=U.trans k8 (λ_ _ h=>h) λ_ _ h=>h;have q:Ext w4 w8:=(e5.trans e7).dz aG al;refine⟨_,rfl,((F.trans H).trans (M.trans I)).trans q,.inr ⟨O,c,mk,l,rfl,⟨⟨g,m,E,aF.mono λj d=>?_,hd.ext (((F.trans H).trans (M.trans I)).trans q),?_⟩,O,?_,?_,A.2.2.2,A.1,A.2.1⟩,?_,?_,?_,?_,?_⟩⟩;show(if 45<=j/\j<45+2 then([Qe 179 E,Qe 180 E]:List di).getD (j-45) undef else _)=_;split
 ·obtain rfl|rfl:j=45\/j=46:=by omega
  all_goals simp[DL]
 ·simp only[DL];repeat' split
  all_goals first|rfl|omega
 exact(q.trans (Ext.refl _)).cell ((M.trans I).cell (dj z rfl));have:=q.size;omega;have:=q.size;omega;have:=(F.trans H).size;have:=(M.trans I).size;omega;have:=(F.trans H).size;omega;have:=(F.trans H).size;omega;exact q.at_ (I.at_ hm);exact q.at_ Y
def gi(w:dg)(a:Option Addr)(l:List Nat):Prop:=∀k (h:k<l.length),∃b o,a=some ⟨b,o,none⟩/\w.cell? ⟨b,o+k,none⟩=some (.int .i64 l[k])
def gi.ext{w c:dg}{a:Option Addr}{l:List Nat}(h:gi w a l)(e:Ext w c):gi c a l:=λk d=>by obtain⟨b,o,f,g⟩:=h k d;exact⟨b,o,f,e.cell g⟩
def pJ(l:List Nat):List Int:=l.map λn:Nat=>(n:Int)
def gi.ints{w:dg}{a:Option Addr}{l:List Nat}(h:gi w a l):iz w a (pJ l):=λk d=>by
 have c:k<l.length:=by simpa[pJ]using d
 obtain⟨b,o,e,f⟩:=h k c;exact⟨b,o,e,by rw[f];simp[pJ]⟩
section
variable{gp mk ms:Nat}{G:Gd}{w:dg}
def oN.um(h:oN gp mk ms G w):G.Ok:=jV h.ok
def oN.ways(h:oN gp mk ms G w)(i j:Nat)(d:i<6)(e:j<6):w.cell? ⟨gp,7+i*6+j,none⟩=some (.int .i64 (qn G i j)):=by
 obtain⟨f,g,k,a,_⟩:=h.at_;rw[a.cell (7+i*6+j)];simp only[DL];rw[dp (by omega),dr (by omega)];have b:(7+i*6+j-7)/6=i:=by omega
 have c:(7+i*6+j-7)%6=j:=by omega
 rw[b,c]
def oN.c2(h:oN gp mk ms G w):w.cell? ⟨gp,2,none⟩=some (.int .i64 G.knock):=by obtain⟨b,c,d,a,_⟩:=h.at_;exact a.cell 2
def oN.c3(h:oN gp mk ms G w):w.cell? ⟨gp,3,none⟩=some (.int .i64 G.minutes):=by obtain⟨b,c,d,a,_⟩:=h.at_;exact a.cell 3
def oN.c4(h:oN gp mk ms G w):w.cell? ⟨gp,4,none⟩=some (.int .i64 G.days):=by obtain⟨b,c,d,a,_⟩:=h.at_;exact a.cell 4
def oN.c5(h:oN gp mk ms G w):w.cell? ⟨gp,5,none⟩=some (.int .i64 G.tries):=by obtain⟨b,c,d,a,_⟩:=h.at_;exact a.cell 5
def oN.c6(h:oN gp mk ms G w):∃a b,w.cell? ⟨gp,6,none⟩=some (.slice a G.doors.length b)/\iv w a G.doors:=by obtain⟨a,b,e,c,d,_⟩:=h.at_;exact⟨a,b,c.cell 6,d⟩
def oN.VF(h:oN gp mk ms G w):w.cell? ⟨gp,43,none⟩=some (.map (some mk)):=by obtain⟨b,c,d,a,_⟩:=h.at_;exact a.cell 43
def oN.VG(h:oN gp mk ms G w):w.cell? ⟨gp,44,none⟩=some (.map (some ms)):=by obtain⟨b,c,d,a,_⟩:=h.at_;exact a.cell 44
def oN.fn(h:oN gp mk ms G w):∃a,w.cell? ⟨gp,45,none⟩=some (Qe 179 a)/\w.cell? ⟨gp,46,none⟩=some (Qe 180 a)/\w.cell? ⟨a,5,none⟩=some (.int .i64 G.tries):=by obtain⟨d,e,a,b,_,c⟩:=h.at_;exact⟨a,b.cell 45,b.cell 46,c⟩
def Q9(G:Gd)(l:List Nat):Int:=rS (qn G) l
def mv(G:Gd)(l:List Nat):Int:=F3 (qn G) G.knock l
def qj(G:Gd)(l:List Nat):Int:=(l.map λd=>((G.doors[d]?).map (·.talk)).getD 0).sum
def nL(G:Gd)(l:List Nat):Int:=mv G l+qj G l
variable{l:List Nat}{la:Option Addr}{lc:Nat}
def I1(h:oN gp mk ms G w)(b:∀d∈l,d<G.doors.length)(a:l.length<=100000)(c:gi w la l):Calls V.prog 161 #[.pointer (some ⟨gp,0,none⟩),.slice la l.length lc] w (gh λv e=>v=.int .i64 (Q9 G l)/\e=w):=by have:=h.um.many;exact yz gp (qn G) l la lc w h.ways (By h.um) (λd f=>by have:=b d f;omega) a c
def DO(h:oN gp mk ms G w)(b:∀d∈l,d<G.doors.length)(a:l.length<=100000)(c:gi w la l):Calls V.prog 114 #[.pointer (some ⟨gp,0,none⟩),.slice la l.length lc] w (gh λv e=>v=.int .i64 (mv G l)/\Ext w e):=by have:=h.um.many;have:=h.um.knock;exact IW gp (qn G) G.knock l la lc w h.c2 h.ways (By h.um) (λd f=>by have:=b d f;omega) a c (by omega)
def I2(a:G.Ok)(l:List Nat)(b:l.length<=100000):0<=mv G l/\mv G l<=1000000000:=by have d:=yy (By a) l;have c:=a.knock;have e:=Int.mul_le_mul_of_nonneg_left c.2 (Int.natCast_nonneg l.length);have f:=GZ (Int.natCast_nonneg l.length) (show 0<=G.knock by omega);unfold mv F3;omega
def F8(G:Gd)(l:List Nat)(k:Nat)(a:k<l.length)(b:l[k]<G.doors.length):qj G (l.take (k+1))=qj G (l.take k)+G.doors[l[k]].talk:=by unfold qj;rw[jM a,vB,List.sum_append];simp[fI b]
theorem DR(a:G.Ok):∀(l:List Nat),0<=qj G l/\qj G l<=9*l.length
 |[]=>by simp[qj]
 |d::r=>by
  have:=DR a r
  have b:0<=((G.doors[d]?).map (·.talk)).getD 0/\((G.doors[d]?).map (·.talk)).getD 0<=9:=by
   cases h:G.doors[d]? with
   |none=>simp
   |some x=>have:=a.door x (vD h);simp;omega
  have e:qj G (d::r)=((G.doors[d]?).map (·.talk)).getD 0+qj G r:=by simp[qj]
  simp only[e,fq];omega
def Bz(h:oN gp mk ms G w)(j:∀d∈l,d<G.doors.length)(a:l.length<=100000)(m:gi w la l):Calls V.prog 115 #[.pointer (some ⟨gp,0,none⟩),.slice la l.length lc] w (gh λv c=>v=.int .i64 (nL G l)/\Ext w c):=by
 refine go V.func115 Tryz.ntmps115 ?_;have u:=I2 h.um l a;have x:=h.um.many;refine eD (DO h j a m) λp g=>?_;refine dK (eZ (n:=l.length) (λk=>[(0,.pointer (some ⟨gp,0,none⟩)),(11,.slice la l.length lc),(12,.int .i64 l.length),(13,.int .i64 k),(5,.int .i64 (mv G l+qj G (l.take k)))]) (λ_ c=>c=p) ⟨⟨rfl,rfl,rfl,rfl,by show some _=some _;simp[qj],trivial⟩,rfl⟩ ?_ ?_ ?_);rintro k c e rfl;exact eg ⟨rfl,rfl,⟨rfl,rfl,rfl,rfl,rfl,trivial⟩,rfl⟩;rintro k c e rfl;obtain⟨b,o,rfl,q⟩:=(m.ext g) k e;have f:=j _ (fc e);obtain⟨y,z,r,i⟩:=(h.ext g).c6;obtain⟨A,B,rfl,_,_,s⟩:=i _ f;have C:=DR h.um (l.take k);have D:=h.um.door _ (fc f);have t:(l.take k).length<=100000:=by simp;omega
 refine eP k e (dl q (dl r (fl l[k] 3 f (dl s (dD (dD ⟨⟨rfl,rfl,rfl,rfl,?_,trivial⟩,rfl⟩))))));show some _=some _;rw[F8 G l k e f,Int.add_assoc];rintro c rfl;exact⟨_,rfl,by simp[nL],g⟩
def last_at(h:oN gp mk ms G w):Calls V.prog 107 #[.pointer (some ⟨gp,0,none⟩)] w (gh λv a=>v=.int .i64 (2*G.days-1)/\a=w):=LL gp G.days w h.c4 (by have:=h.um.days;omega)
end
def b8(c:BinOp)(a b:Int):Int:=match c with
 | .and=>IntKind.u8.wrap (BitVec.ofInt 8 a&&&BitVec.ofInt 8 b).toNat
 | .or=>IntKind.u8.wrap (BitVec.ofInt 8 a|||BitVec.ofInt 8 b).toNat
 |_=>IntKind.u8.wrap (BitVec.ofInt 8 a&&& ~~~BitVec.ofInt 8 b).toNat
section
variable{w:dg}{k:di->dg->Prop}{t:dn}{x y:dZ}
def Ra(r:Int)(a:b8 .and I J=r)(h:k (.int .u8 r) w):jB V.prog (do eqGuard .and t x y (.int .u8 I) (.int .u8 J);binOp .and t (.int .u8 I) (.int .u8 J)) w k:=⟨_,w,rfl,by subst a;exact h⟩
def OP(r:Int)(a:b8 .andNot I J=r)(h:k (.int .u8 r) w):jB V.prog (do eqGuard .andNot t x y (.int .u8 I) (.int .u8 J);binOp .andNot t (.int .u8 I) (.int .u8 J)) w k:=⟨_,w,rfl,by subst a;exact h⟩
def Rb(a:m<=8)(h:k (.int .u8 (I.fdiv (2^m))) w):jB V.prog (do eqGuard .shr t x y (.int .u8 I) (.int .i64 m);binOp .shr t (.int .u8 I) (.int .i64 m)) w k:=by
 refine⟨_,w,?_,h⟩;show Sem.run V.prog (Op.shift .shr .u8 I .i64 m) w=_;unfold Op.shift;rw[dp (by omega)];have:min (m:Int).toNat IntKind.u8.bits=m:=by simp[IntKind.bits];omega
 rw[this];rfl
def Rc(a:m<=8)(h:k (.int .u8 (IntKind.u8.wrap (I*2^m))) w):jB V.prog (do eqGuard .shl t x y (.int .u8 I) (.int .i64 m);binOp .shl t (.int .u8 I) (.int .i64 m)) w k:=by
 refine⟨_,w,?_,h⟩;show Sem.run V.prog (Op.shift .shl .u8 I .i64 m) w=_;unfold Op.shift;rw[dp (by omega)];have:min (m:Int).toNat IntKind.u8.bits=m:=by simp[IntKind.bits];omega
 rw[this];rfl
end
def LP:∀s:Nat,s<32->∀d:Nat,d<5->b8 .and ((s:Int).fdiv (2^d)) 1=if s.testBit d then 1 else 0:=by decide+kernel
def OQ(s d:Nat)(w:dg)(a:s<32)(b:d<5):Calls V.prog 198 #[.int .u8 s,.int .i64 d] w (gh λv c=>v=.bool (s.testBit d)/\c=w):=by refine go V.func198 Tryz.ntmps198 ?_;refine Rb (by omega) (Ra _ (LP s a d b) (gA ⟨_,rfl,?_,rfl⟩));cases s.testBit d<;>rfl
def xa(s d:Nat)(w:dg)(a:s<32)(b:d<5):Calls V.prog 164 #[.int .u8 s,.int .i64 d] w (gh λv c=>v=.int .u8 (qi s d)/\c=w):=F1 (C8 s d w a b)
def pK(x:Int)(l:List Int):Bool:=decide (0<=tk x l 0)
def mO(l:List Int)(x:Int)(b:Option Addr)(c:Nat)(w:dg)(d:iz w b l)(a:l.length<=100000):Calls V.prog 135 #[.slice b l.length c,.int .i64 x] w (gh λv e=>v=.bool (pK x l)/\e=w):=by refine go V.func135 Tryz.ntmps135 ?_;exact dN (IX l x b c w d a) (uh ⟨_,rfl,rfl,rfl⟩)
def mP(n:Int):List Int->List Int->Int
 |_,[]=>0
 |a,d::r=>if ly d 0 (n-1)then(if pK d a then 4 else mP n (a++[d]) r)else 3
def fx(n:Int)(l:List Int):Int:=mP n [] l
def un(n:Int)(l:List Int)(k:Nat)(a:k<l.length):mP n (l.take k) (l.drop k)=if ly l[k] 0 (n-1)then(if pK l[k] (l.take k)then 4 else mP n (l.take (k+1)) (l.drop (k+1)))else 3:=by rw[qu a,jM a];rfl
def ve{gp mk ms:Nat}{w:dg}(h:oN gp mk ms H w){l:List Int}{lc:Nat}(p:iz w a l)(q:l.length<=100000)(u:l.length<=lc):
 Calls V.prog 108 #[.pointer (some ⟨gp,0,none⟩),.slice a l.length lc] w (gh λv e=>v=.int .i64 (fx H.doors.length l)/\e=w):=by
 have x:=h.um.many;obtain⟨y,z,r,s⟩:=h.c6;refine go V.func108 Tryz.ntmps108 ?_;refine dK (eZ (n:=l.length) (λk=>[(0,.pointer (some ⟨gp,0,none⟩)),(1,.slice a l.length lc),(7,.slice a l.length lc),(8,.int .i64 l.length),(9,.int .i64 k)]) (λk e=>e=w/\fx H.doors.length l=mP H.doors.length (l.take k) (l.drop k)) ⟨⟨rfl,rfl,rfl,rfl,rfl,trivial⟩,rfl,rfl⟩ ?_ ?_ ?_);rintro k e g ⟨rfl,c⟩;exact eg ⟨rfl,rfl,⟨rfl,rfl,rfl,rfl,rfl,trivial⟩,rfl,c⟩;rintro k e g ⟨rfl,c⟩;obtain⟨b,o,i,f⟩:=p k g;rw[un _ l k g]at c;have j:(l.take k).length=k:=by simp;omega
 have d:=mO (l.take k) l[k] a lc e (p.take k) (by omega);rw[j]at d;subst i;refine eP k g (dl f (dl r (dK (gK (dN (fC _ _ _ _) (eC ⟨λh=>?_,λm=>?_⟩))))));simp at h;exact⟨_,rfl,by rw[c];simp[h],rfl⟩;simp at m;refine kC k (by omega) (dN d ⟨λh=>?_,λt=>?_⟩);exact⟨_,rfl,by rw[c];simp[h,m],rfl⟩;rw[m,t]at c;exact dD ⟨⟨rfl,rfl,rfl,rfl,rfl,trivial⟩,rfl,by simpa using c⟩;rintro e ⟨rfl,c⟩;exact⟨_,rfl,by rw[c];simp[mP],rfl⟩
end Go.Proofs.W
variable{M Y:List di}
namespace Go.Proofs.W
open Go.RowKit
def oh(s k:Nat):List Nat:=(List.range k).filter (s.testBit ·)
def fR(s:Nat):List Nat:=oh s 5
def jk(l:List Nat):List di:=l.map λn:Nat=>Value.int .i64 n
def gQ(a:Nat)(w:dg)(v:di)(l:List Nat):Prop:=dM a 3 [.int .i64 0] w v l.length (jk l)
def gQ.row(h:gQ m w x l):∃a c,x=.slice a l.length c/\gi w a l/\l.length<=c:=by obtain⟨j,⟨e,rfl⟩|⟨b,c,n,o,rfl,f,p,g,q,i,r⟩⟩:=h;exact⟨none,0,by rw[e],λk d=>by omega,by omega⟩;refine⟨_,c,rfl,λk d=>⟨b,0,rfl,?_⟩,g⟩;refine dj f ?_;rw[dB,i k (by simp[jk];omega)];simp[jk,fI d]
def uo(s k:Nat):oh s (k+1)=if s.testBit k then oh s k++[k]else oh s k:=by unfold oh;rw[qv,List.filter_append];cases h:s.testBit k<;>simp[h]
def me(s k:Nat):(oh s k).length<=k:=by have:=List.length_filter_le (s.testBit ·) (List.range k);simpa[oh]using this
def Ext.iZ(h:Ext w t)(a:dP (dw x) t e)(d:dM m T M t x k Y)(g:w.heap.size<=m):Ext w e:=
 ⟨a.os.trans h.os,a.tape.trans h.tape,a.output.trans h.output,dS h.size a.size,dS h.drawn a.drawn,λb c=>(a.block b (eh c h.size) λf=>by have:=(d.blk f).1;omega).trans (h.block b c)⟩
def uq(s:Nat)(w:dg)(i:s<32):Calls V.prog 173 #[.int .u8 s] w (gh λv a=>Ext w a/\gQ w.heap.size a v (fR s)):=by refine go V.func173 Tryz.ntmps173 ?_;refine iE (n:=5) (λk v=>[(0,.int .u8 s),(3,v),(5,.int .i64 k)]) (λk v a=>Ext w a/\gQ w.heap.size a v (oh s k)) (.slice none 0 0) ⟨⟨rfl,rfl,rfl,trivial⟩,Ext.refl _,dM.nil _ _ _ _⟩ ?_ ?_ ?_;rintro k v a f ⟨e,b⟩;exact eg ⟨rfl,rfl,⟨rfl,rfl,rfl,trivial⟩,e,b⟩;rintro k v a f ⟨e,b⟩;have g:=me s k;refine dN (OQ s k a i f) ⟨λh=>?_,λh=>?_⟩;refine eQ [Value.int .i64 k] 3 λp q c j l=>iM uj (b.ext c) (dS e.size c.size) l (by omega) λm r d o _=>dD ⟨m,⟨rfl,rfl,rfl,trivial⟩,(e.trans c).iZ o (b.ext c) (dC _),?_⟩;rw[uo,dr h];simpa[gQ,jk]using d;refine dD ⟨v,⟨rfl,rfl,rfl,trivial⟩,e,?_⟩;rw[uo,dp (by rw[h];simp)];exact b;rintro v a ⟨e,b⟩;exact⟨_,rfl,e,b⟩
def setFrom(s:Nat)(l:List Nat):Nat:=l.foldl qi s
def ja(l:List Nat):Nat:=setFrom 0 l
theorem tl:∀(l:List Nat) (s:Nat),s<32->(∀d∈l,d<5)->setFrom s l<32
 |[],s,a,_=>a
 |d::r,s,a,h=>tl r (qi s d) (FJ s a d (h d iV)) λx b=>h x (iF _ b)
def rT(l:List Nat)(e:Option Addr)(g:Nat)(w:dg)(j:gi w e l)(h:∀d∈l,d<5)(i:l.length<=100000):Calls V.prog 122 #[.slice e l.length g] w (gh λv a=>v=.int .u8 (ja l)/\a=w):=by refine go V.func122 Tryz.ntmps122 ?_;refine dK (eZ (n:=l.length) (λk=>[(3,.int .u8 (ja (l.take k))),(6,.slice e l.length g),(7,.int .i64 l.length),(8,.int .i64 k)]) (λ_ a=>a=w) ⟨⟨rfl,rfl,rfl,rfl,trivial⟩,rfl⟩ ?_ ?_ ?_);rintro k a c rfl;exact eg ⟨rfl,rfl,⟨rfl,rfl,rfl,rfl,trivial⟩,rfl⟩;rintro k a c rfl;obtain⟨b,o,rfl,m⟩:=j k c;have f:=h _ (fc c);have p:ja (l.take k)<32:=tl _ 0 (by omega) λd f=>h d (List.mem_of_mem_take f);refine eP k c (dl m (dN (xa _ _ _ p f) (dD ⟨⟨?_,rfl,rfl,rfl,trivial⟩,rfl⟩)));show some _=some _;rw[jM c];simp only[ja,setFrom,xm,pZ,List.foldl_nil];rintro a rfl;exact⟨_,rfl,by simp,rfl⟩
structure Sx where
 tries:Int
 mornings:Int
 evenings:Int
 opened:Bool
 d0:Bool
 d1:Bool
 d2:Bool
 left:Bool
def mw(x:Sx):List di:=[.int .i64 x.tries,.int .i64 x.mornings,.int .i64 x.evenings,.bool x.opened,.bool x.d0,.bool x.d1,.bool x.d2,.bool x.left]
def iq(T:Int)(x:Sx):Bool:=(x.left||x.opened)||(decide (T<=x.tries)&&(decide (T<2)||(decide (0<x.mornings)&&decide (0<x.evenings))))
def xd{gp mk ms:Nat}(h:oN gp mk ms H w)(x:Sx):Calls V.prog 134 #[.pointer (some ⟨gp,0,none⟩),.agg (mw x).toArray] w (gh λv k=>v=.bool (iq H.tries x)/\Ext w k):=by refine go V.func134 Tryz.ntmps134 ?_;refine fB λo p c l d=>?_;obtain⟨i,m,n,j⟩:=(h.ext c).fn;refine dT dO (dI (dj d rfl) ⟨λf=>?_,λf=>?_⟩);exact ki rfl λa e=>⟨_,rfl,by simp[iq,f],c.trans e⟩;refine dI (dj d rfl) ⟨λg=>?_,λg=>?_⟩;exactλa e=>⟨_,rfl,by simp[iq,f,g],c.trans e⟩;refine dI m (dI (dj d rfl) (gU dO _ (λa e=>F4 i _ _ a (e.cell j)) ⟨λb=>?_,λb=>?_⟩));refine dI n (dI (dj d rfl) (dI (dj d rfl) (gU dO _ (λa e=>F5 i _ _ _ a (e.cell j)) λa e=>⟨_,rfl,?_,c.trans e⟩)));have b:H.tries<=x.tries:=eA b;simp[iq,f,g,b];refineλa e=>⟨_,rfl,?_,c.trans e⟩;have b:¬H.tries<=x.tries:=eH b;simp[iq,f,g,b]
section
variable{w:dg}{k:di->dg->Prop}{t:dn}{x y:dZ}
def nM{n:Nat}(b:0<n)(c:m<=1000000000)(h:k (.int .i64 ((m/n:Nat):Int)) w):jB V.prog (do eqGuard .quo t x y (.int .i64 m) (.int .i64 n);binOp .quo t (.int .i64 m) (.int .i64 n)) w k:=by
 refine⟨_,w,?_,h⟩;show Sem.run V.prog (Op.intDiv .quo .i64 m n) w=_;unfold Op.intDiv;rw[dp (by omega)];have a:(m:Int).tdiv n=((m/n:Nat):Int):=by rw[Int.tdiv_eq_ediv_of_nonneg (by omega)];simp
 have d:m/n<=m:=Nat.div_le_self _ _;rw[a];simp only[Sem.run_pure];generalize m/n=q at*;rw[IntWalk.i64_in _ (by omega)]
def yB{n:Nat}(b:0<n)(h:k (.int .i64 ((m%n:Nat):Int)) w):jB V.prog (do eqGuard .rem t x y (.int .i64 m) (.int .i64 n);binOp .rem t (.int .i64 m) (.int .i64 n)) w k:=by
 refine⟨_,w,?_,h⟩;show Sem.run V.prog (Op.intDiv .rem .i64 m n) w=_;unfold Op.intDiv;rw[dp (by omega)];have a:(m:Int).tmod n=((m%n:Nat):Int):=by rw[Int.tmod_eq_emod_of_nonneg (by omega)];simp
 simp only[a,Sem.run_pure]
def xe{t:dn}(n:Nat)(a:i<n)(h:k (.pointer (some ⟨m,o+i,none⟩)) w)(b:ty t=some ⟨2,n,1,n⟩:=by rfl):jB V.prog (Instr.indexAt t (.pointer (some ⟨m,o,none⟩)) (.int .i64 (i:Nat))) w k:=tj i n a h rfl b
def nN{t:dn}{b:Array di}{c:dn}(a:List di)(d:w.heap[m]? =some (.cells b c))(e:∀j v,a[j]? =some v->b[o+j]? =some v)(f:F0 t=some true:=by rfl)(g:Qa t=some a.length:=by rfl):Sem.run V.prog (loadVar t ⟨m,o,none⟩) w=.ok (.agg a.toArray) w:=by
 have h:=run_loadCells_list (P:=V.prog) w ⟨m,o,none⟩ a λj v i=>by rw[iK];exact dj d (e j v i)
 simp only[loadVar,Sem.run_bind,yx f,Bu g,Result.andThen_ok,ei,h,Sem.run_pure]
end
def fo(c:Array di)(a:List di)(h:c.size=a.length):gD c 0 a=a.toArray:=by
 apply Kc;intro j;rw[nK a c 0 j (by omega),dB,Nat.sub_zero];have e:a.toArray[j]? =a[j]? :=by simp
 rw[e];split;rfl;rename_i b;have b:a.length<=j:=Nat.le_of_not_lt λd=>b ⟨gu _,d⟩;rw[G1 b];exact lY (by rw[h];exact b)
def pf(x:Sx)(d:Nat):Bool:=if d=0 then x.d0 else if d=1 then x.d1 else x.d2
def gN(x:Sx)(a:Nat)(b:Bool):Sx:=⟨x.tries+1,if a%2=0 then x.mornings+1 else x.mornings,if a%2=0 then x.evenings else x.evenings+1,x.opened||b,if a/2=0 then true else x.d0,if a/2=1 then true else x.d1,if a/2=2 then true else x.d2,x.left⟩
set_option maxHeartbeats 2000000 in
theorem AC(x:Sx)(shift:Nat)(op:Bool)(w:World)(hs:shift<6)(hb:(0≤x.tries∧x.tries≤1000000)∧(0≤x.mornings∧x.mornings≤1000000)∧0≤x.evenings∧x.evenings≤1000000):
 Calls V.prog 158 #[.agg (mw x).toArray,.int .i64 shift,.bool op] w (gh fun v w'=>v=.agg (mw (gN x shift op)).toArray∧Ext w w'):=by
 refine go V.func158 Tryz.ntmps158 ?_
 refine fB fun w1 xb e1 TP TA=>fJ fun w2 rb e2 WH TH=>?_
 have Hm:=e2.at_ TA
 have ne:¬(rb=xb):=by have:=dG.lt_of_heap TA;omega
 refine dl (dj Hm rfl) (dD (ee Hm fun w3 k3 SS=>?_))
 have VH:=k3.fU TH ne
 refine yB (m:=shift) (n:=2) (by omega) (gA ?_)
 obtain⟨X,hX⟩:∃X,X=gN x shift op:=⟨_,rfl⟩
 rw[←hX]
 obtain rfl|rfl|rfl|rfl|rfl|rfl:shift=0∨shift=1∨shift=2∨shift=3∨shift=4∨shift=5:=by omega
 all_goals
  first
  |refine ki rfl (dl (dj SS rfl) (dD (ee SS fun w4 k4 TQ=>?_)))
  |refine mX rfl (dl (dj SS rfl) (dD (ee SS fun w4 k4 TQ=>?_)))
  have VI:=k4.fU VH ne
  have e4:Ext w w4:=((e1.trans e2).dz k3 TP).dz k4 TP
  refine dl (dj TQ rfl) ⟨fun ho=>?_,fun ho=>?_⟩
  all_goals
   refine ee TQ fun w5 k5 VJ=>?_
   have VK:=k5.fU VI ne
   have e5:=e4.dz k5 TP
   refine nM (n:=2) (by omega) (by omega) (xe 3 (by decide) (ee VJ fun w6 k6 VL=>?_))
   have VM:=k6.fU VK ne
   have e6:=e5.dz k6 TP
   have WI:w6.heap[xb]? =some (.cells (mw X).toArray 166):=VL.trans (by rw[hX];simp[gD,mw,gN,ho,Value.cells])
   refine eB (vs:=mw X) (fun j v hj=>by rw[Nat.zero_add];exact dj WI (by simpa using hj)) (ee VM fun w7 k7 VN=>?_)
   have WJ:w7.heap[rb]? =some (.cells (mw X).toArray 166):=VN.trans (congrArg (fun a=>some (Obj.cells a 166)) (fo (sD 166).toArray (mw X) rfl))
   have hl:Sem.run V.prog (loadVar 166 ⟨rb,0,none⟩) w7=.ok (.agg (mw X).toArray) w7:=nN (mw X) WJ fun j v hj=>by rw[Nat.zero_add];simpa using hj
   have e7:Ext w w7:=e6.dz k7 (Nat.le_trans e1.size WH)
   clear TA Hm SS TQ VJ VL TH VH VI VK VM VN
   refine⟨.agg (mw X).toArray,hl,?_⟩
   exact⟨_,rfl,rfl,e7⟩
def tn(w:dg)(a:Option Addr)(xs:List Sx):Prop:=∀k (h:k<xs.length),∃b o,a=some ⟨b,o,none⟩/\∀j v,(mw xs[k])[j]? =some v->w.cell? ⟨b,o+k*8+j,none⟩=some v
def tn.ext{w c:dg}{xs:List Sx}(h:tn w a xs)(e:Ext w c):tn c a xs:=λk d=>by obtain⟨b,o,f,g⟩:=h k d;exact⟨b,o,f,λj v i=>e.cell (g j v i)⟩
structure lz(wp gp mk ms:Nat)(G:Gd)(xs:List Sx)(before:Int)(w:dg):Prop where
 g:oN gp mk ms G w
 len:xs.length=G.doors.length
 bf:0<=before/\before<=5
 at_:∃sa sc,w.cell? ⟨wp,0,none⟩=some (.pointer (some ⟨gp,0,none⟩))/\w.cell? ⟨wp,1,none⟩=some (.slice sa xs.length sc)/\w.cell? ⟨wp,2,none⟩=some (.int .i64 before)/\tn w sa xs
section
variable{wp gp mk ms:Nat}{G:Gd}{xs:List Sx}{before:Int}{w:dg}
theorem lz.ext{a:dg}(h:lz wp gp mk ms G xs before w)(e:Ext w a):lz wp gp mk ms G xs before a:=by obtain⟨b,c,d,f,i,j⟩:=h.at_;exact⟨h.g.ext e,h.len,h.bf,b,c,e.cell d,e.cell f,e.cell i,j.ext e⟩
def sE(G:Gd)(before a:Int):Int:=if ly a 0 (2*G.days-1)then(if a<before then 5 else 0)else 3
def OR(h:lz wp gp mk ms G xs before w)(a:Int):Calls V.prog 153 #[.pointer (some ⟨wp,0,none⟩),.int .i64 a] w (gh λv d=>v=.int .i64 (sE G before a)/\d=w):=by obtain⟨i,j,e,k,f,l⟩:=h.at_;refine go V.func153 Tryz.ntmps153 ?_;refine dl e (dN (last_at h.g) (dN (fC _ _ _ _) (eC ⟨λb=>?_,λb=>?_⟩)));exact⟨_,rfl,by simp at b;simp[sE,b],rfl⟩;simp at b;refine dl f (eg ⟨λc=>?_,λc=>?_⟩);exact⟨_,rfl,by simp[sE,b,eA c],rfl⟩;exact⟨_,rfl,by simp[sE,b,eH c],rfl⟩
def ri(T:Int)(xs:List Sx)(k:Nat):List Nat:=(List.range k).filter λd=>match xs[d]? with
 |some x=>!iq T x
 |none=>false
def ek(T:Int)(xs:List Sx):List Nat:=ri T xs xs.length
def vU(T:Int)(xs:List Sx)(k:Nat)(a:k<xs.length):ri T xs (k+1)=if iq T xs[k]then ri T xs k else ri T xs k++[k]:=by unfold ri;rw[qv,List.filter_append];cases h:iq T xs[k]<;>simp[h,fI a]
def yC(T:Int)(xs:List Sx)(k:Nat):(ri T xs k).length<=k:=by
 have:=List.length_filter_le (λd=>match xs[d]? with
  |some x=>!iq T x
  |none=>false) (List.range k)
 simpa[ri]using this
def BA(h:lz wp gp mk ms G xs before w):Calls V.prog 119 #[.pointer (some ⟨wp,0,none⟩)] w (gh λv c=>Ext w c/\gQ w.heap.size c v (ek G.tries xs)):=by
 obtain⟨C,D,E,F,S,H⟩:=h.at_;have T:=h.g.um.many;have U:=h.len;refine go V.func119 Tryz.ntmps119 ?_;refine dl F (dK (iE (n:=xs.length) (λk v=>[(0,.pointer (some ⟨wp,0,none⟩)),(3,v),(9,.slice C xs.length D),(10,.int .i64 xs.length),(11,.int .i64 k)]) (λk v c=>Ext w c/\gQ w.heap.size c v (ri G.tries xs k)) (.slice none 0 0) ⟨⟨rfl,rfl,rfl,rfl,rfl,trivial⟩,Ext.refl _,dM.nil _ _ _ _⟩ ?_ ?_ ?_));rintro k v c m ⟨e,f⟩;exact eg ⟨rfl,rfl,⟨rfl,rfl,rfl,rfl,rfl,trivial⟩,e,f⟩;rintro k v c m ⟨e,f⟩;obtain⟨b,o,rfl,I⟩:=(H.ext e) k m;have x:=yC G.tries xs k;refine fl k 8 m (eB (vs:=mw xs[k]) I (fJ λW J K r L=>ee L λy M p=>?_));have i:Ext c y:=K.dz M r;have s:y.heap[J]? =some (.cells (mw xs[k]).toArray 166):=p.trans (dQ (λa=>some (Obj.cells a 166)) (fo (sD 166).toArray (mw xs[k]) rfl));have N:=(h.g.ext e).ext i;clear p;refine dT dO (dI (i.cell (e.cell E)) (dx (.agg (mw xs[k]).toArray) (λz d=>eB (vs:=mw xs[k]) (λj v O=>by rw[dB];exact dj (d.at_ s) (by simpa using O)) ⟨rfl,Ext.refl _⟩) (kZ (.bool (iq G.tries xs[k])) (λz d=>xd (N.ext d) xs[k]) (pH λz d=>⟨λl=>?_,λl=>?_⟩))));have l:iq G.tries xs[k]=false:=by simpa using l
 have A:=(e.trans i).trans d;refine eQ [Value.int .i64 k] 3 λX P q B t=>iM uj (((f.ext i).ext d).ext q) (dS A.size q.size) t (by omega) λQ Y u R _=>dD ⟨Q,⟨rfl,rfl,rfl,rfl,rfl,trivial⟩,(A.trans q).iZ R (((f.ext i).ext d).ext q) (dC _),?_⟩;rw[vU _ _ _ m,l];simpa[gQ,jk]using u;have l:iq G.tries xs[k]=true:=by simpa using l
 refine dD ⟨v,⟨rfl,rfl,rfl,rfl,rfl,trivial⟩,(e.trans i).trans d,?_⟩;rw[vU _ _ _ m,l];exact(f.ext i).ext d;rintro v c ⟨e,f⟩;exact⟨_,rfl,e,f⟩
end
def pL(s:Nat):List di:=[.bool (s.testBit 0),.bool (s.testBit 1),.bool (s.testBit 2),.bool (s.testBit 3),.bool (s.testBit 4)]
def BB(l:List Nat)(d:Nat):Bool:=l.contains d
def LQ(l:List Nat):List di:=[.bool (BB l 0),.bool (BB l 1),.bool (BB l 2),.bool (BB l 3),.bool (BB l 4)]
def I3:∀s:Nat,s<32->∀d:Nat,d<5->BB (fR s) d=s.testBit d:=by decide+kernel
def LR(s:Nat)(d:Nat)(h:d∈fR s):d<5:=by have:=(G3.1 h).1;simpa using this
def I4(s:Nat)(w:dg)(L:s<32):Calls V.prog 174 #[.int .u8 s] w (gh λv e=>v=.agg (pL s).toArray/\Ext w e):=by
 refine go V.func174 Tryz.ntmps174 ?_;refine fJ λw1 y M A N=>fJ λO g P S i=>?_;refine dt (uq s O L) λv T z=>?_;obtain⟨B,z⟩:=z;obtain⟨a,c,rfl,m,_⟩:=z.row;have C:=B.at_ (P.at_ N);have U:¬(y=g):=by have:=dG.lt_of_heap N;omega
 have Q:(fR s).length<=5:=me s 5;have D:∀b o,a=some ⟨b,o,none⟩->O.heap.size<=b:=λb o h=>by obtain⟨_,⟨_,f⟩|⟨b',c',cs,h1,f,_⟩⟩:=z;injection f with f;rw[f]at h;cases h;injection f with f;rw[f]at h;have:=dQ Addr.block (dH h);simp at this;omega
 have W:=dG.lt_of_heap i;refine dK (eZ (n:=(fR s).length) (λk=>[(2,.pointer (some ⟨y,0,none⟩)),(3,.pointer (some ⟨g,0,none⟩)),(7,.slice a (fR s).length c),(8,.int .i64 (fR s).length),(9,.int .i64 k)]) (λk e=>dP (λx=>x=g) T e/\e.heap[g]? =some (.cells (LQ ((fR s).take k)).toArray 217)) ⟨⟨rfl,rfl,rfl,rfl,rfl,trivial⟩,dP.refl _ _,B.at_ i⟩ ?_ ?_ ?_);rintro k e p X;exact eg ⟨rfl,rfl,⟨rfl,rfl,rfl,rfl,rfl,trivial⟩,X⟩
 ·rintro k e p ⟨q,r⟩;obtain⟨b,o,rfl,Y⟩:=m k p;have R:(fR s)[k]<5:=LR s _ (fc p);have E:¬(b=g):=by have:=D b o rfl;omega
  refine eP k p (dl (q.fh Y E) (tj (fR s)[k] 5 R (jj r (by simp[Value.cells,LQ];omega) (λt F G=>dD ⟨⟨rfl,rfl,rfl,rfl,rfl,trivial⟩,q.trans F (λ_ _ h=>h) λ_ _ h=>h,?_⟩) (by simp[Value.cells,Value.oneCell']))));refine G.trans (dQ (λa=>some (Obj.cells a 217)) ?_);rw[jM p];generalize (fR s)[k]=d at R;generalize (fR s).take k=l;have Z:∀j,BB (l++[d]) j=(BB l j||decide (j=d)):=λj=>by simp[BB,List.contains_eq_mem,j8,Bool.decide_or]
  obtain rfl|rfl|rfl|rfl|rfl:d=0\/d=1\/d=2\/d=3\/d=4:=by omega
  all_goals simp[LQ,Z,gD,Value.cells]
 rintro e ⟨q,r⟩;have H:=q.fU C U;rw[qx]at r;have I:LQ (fR s)=pL s:=by simp[LQ,pL,I3 s L]
 rw[I]at r;refine eB (vs:=pL s) (λj v J=>by rw[dB];exact dj r (by simpa using J)) (ee H λt F u=>?_);have K:t.heap[y]? =some (.cells (pL s).toArray 217):=u.trans (dQ (λa=>some (Obj.cells a 217)) (fo (sD 217).toArray (pL s) rfl));have hl:Sem.run V.prog (loadVar 217 ⟨y,0,none⟩) t=.ok (.agg (pL s).toArray) t:=nN (pL s) K λj v J=>by rw[dB];simpa using J
 have e5:Ext w t:=(((M.trans P).trans B).dz q (by have:=M.size;omega)).dz F A;clear u;refine⟨.agg (pL s).toArray,hl,?_⟩;exact⟨_,rfl,rfl,e5⟩
section
variable{w:dg}{k:di->dg->Prop}
def iu(w:dg)(a:Option Addr)(c:List di):Prop:=c=[]\/∃b o,a=some ⟨b,o,none⟩/\∀j u,c[j]? =some u->w.cell? ⟨b,o+j,none⟩=some u
def iu.ext{w c:dg}{d:List di}(h:iu w a d)(e:Ext w c):iu c a d:=by rcases h with h|⟨b,o,f,g⟩;exact .inl h;exact .inr ⟨b,o,f,λj u i=>e.cell (g j u i)⟩
def rj{b:List di}(c:ES T U b){x y:dZ}(h:k (.bool a.isNone) w):jB V.prog (do eqGuard .eql T x y (.slice a m i) (.slice none 0 0);binOp .eql T (.slice a m i) (.slice none 0 0)) w k:=by have d:=Go.Lib.run_eql_slice_nil (P:=V.prog) w T U a m i 0 0 c.1;refine⟨_,w,?_,h⟩;go_simp
def I5{zs:List di}{w:dg}(b:m<=i)(c:w.heap[i]? =some (.cells #[] T)):dM m T zs w (.slice (some ⟨i,0,none⟩) 0 0) 0 []:=
 ⟨by simp,.inr ⟨i,0,_,b,rfl,c,by simp,dC _,by decide,λj a=>by simp at a,λj _ a=>by simp at a⟩⟩
def mQ{e:dn}{zs:List di}{x:Array Bool}(g:ES T e zs){n0 n:Nat}{w:dg}{us:List di}(t:w.heap[n]? =some (.cells #[] e))(y:n0<=n)(p:us.length=m*zs.length)(q:iu w a us)(A:∀u∈us,u.oneCell'=true)(v:m<=1000000) (r:∀l d,dM n0 e zs d l m us->(∀W,Ext W w->W.heap.size<=n0->Ext W d)->k l d):Au V.prog (builtin .append #[T,T] U x #[.slice (some ⟨n,0,none⟩) 0 0,.slice a m i]) w k:=by
 have c:=I5 (zs:=zs) y t;have f:0<zs.length:=by obtain⟨_,G,z,_,_,_,_,_,h⟩:=g;exact h
 have B:=dG.lt_of_heap t;rcases q with rfl|⟨b,o,rfl,q⟩;obtain rfl:m=0:=by rcases n4 m with h|h;exact h;have:=Nat.mul_pos h f;simp at p;omega
 exact Bx g (dC _) (r _ _ c λW h _=>h);rcases n4 m with rfl|s;obtain rfl:us=[]:=by simpa using p
 exact Bx g (dC _) (r _ _ c λW h _=>h);exact F6 g c (by omega) p s (λj u C=>by rw[iK];exact q j u C) A (by omega) λl d D E _=>r l d (by simpa using D) λW h F=>h.iZ E c F
end
def LU:ES 139 166 (sD 166):=⟨by kernel_rfl,Tryz.t166,_,by kernel_rfl,rfl,by kernel_rfl,by kernel_rfl,by decide+kernel,by decide⟩
def xf(f:ej)(e:dn)(d:List di):Prop:=∀(a:Option Addr) (l c:Nat) (b:List di) (w:dg),b.length=l*d.length->(a=none->l=0)->iu w a b->(∀u∈b,u.oneCell'=true)->l<=1000000->Calls V.prog f #[.slice a l c] w (gh λv g=>Ext w g/\dM w.heap.size e d g v l b)
def LV:xf 128 3 [.int .i64 0]:=by
 intro a l c g w e i j k b;refine go V.func128 Tryz.ntmps128 ?_;refine rj uj ⟨λh=>?_,λh=>eQ [] 3 λp q f d m=>mQ uj m d e (j.ext f) k b λr s n o=>⟨_,rfl,o w f (dC _),n⟩⟩;obtain rfl:=i (by simpa using h);obtain rfl:g=[]:=by simpa using e
 exact⟨_,rfl,Ext.refl _,dM.nil _ _ _ _⟩
def Rd:ES 26 29 [.int .i64 0,.slice none 0 0]:=⟨by kernel_rfl,Tryz.t29,_,by kernel_rfl,rfl,by kernel_rfl,by kernel_rfl,by decide+kernel,by decide⟩
def LW:ES 222 154 [.int .u8 0]:=⟨by kernel_rfl,Tryz.t154,_,by kernel_rfl,rfl,by kernel_rfl,by kernel_rfl,by decide+kernel,by decide⟩
def LX:xf 154 166 (sD 166):=by
 intro a l c g w e i j k b;refine go V.func154 Tryz.ntmps154 ?_;refine rj LU ⟨λh=>?_,λh=>eQ [] 166 λp q f d m=>mQ LU m d e (j.ext f) k b λr s n o=>⟨_,rfl,o w f (dC _),n⟩⟩;obtain rfl:=i (by simpa using h);obtain rfl:g=[]:=by simpa using e
 exact⟨_,rfl,Ext.refl _,dM.nil _ _ _ _⟩
def LY:xf 155 29 [.int .i64 0,.slice none 0 0]:=by
 intro a l c g w e i j k b;refine go V.func155 Tryz.ntmps155 ?_;refine rj Rd ⟨λh=>?_,λh=>eQ [] 29 λp q f d m=>mQ Rd m d e (j.ext f) k b λr s n o=>⟨_,rfl,o w f (dC _),n⟩⟩;obtain rfl:=i (by simpa using h);obtain rfl:g=[]:=by simpa using e
 exact⟨_,rfl,Ext.refl _,dM.nil _ _ _ _⟩
def LZ:xf 199 154 [.int .u8 0]:=by
 intro a l c g w e i j k b;refine go V.func199 Tryz.ntmps199 ?_;refine rj LW ⟨λh=>?_,λh=>eQ [] 154 λp q f d m=>mQ LW m d e (j.ext f) k b λr s n o=>⟨_,rfl,o w f (dC _),n⟩⟩;obtain rfl:=i (by simpa using h);obtain rfl:g=[]:=by simpa using e
 exact⟨_,rfl,Ext.refl _,dM.nil _ _ _ _⟩
def gi.cells{w:dg}{a:Option Addr}{l:List Nat}(h:gi w a l):iu w a (jk l):=by
 rcases l with _|⟨x,r⟩;exact .inl rfl;obtain⟨b,o,rfl,_⟩:=h 0 (by simp);refine .inr ⟨b,o,rfl,λj u d=>?_⟩;have c:j<(x::r).length:=by simpa[jk]using(je.1 d).1
 obtain⟨f,g,e,i⟩:=h j c;obtain⟨rfl,rfl⟩:b=f/\o=g:=by injection e with e;injection e with k m;exact⟨k,m⟩
 rw[i];have:(jk (x::r))[j]? =some (.int .i64 ((x::r)[j]:Nat)):=by simp only[jk,sn,fI c];rfl
 rw[this]at d;exact d
def gi.rl(h:gi w none l):l.length=0:=by rcases l with _|⟨x,r⟩;rfl;obtain⟨b,o,e,_⟩:=h 0 (by simp);cases e
def L1(l:List Nat):∀u∈jk l,u.oneCell'=true:=λu a=>by obtain⟨n,_,rfl⟩:=nh.1 a;rfl
def lQ(h:gi w a l)(b:l.length<=1000000):Calls V.prog 128 #[.slice a l.length m] w (gh λv c=>Ext w c/\gQ w.heap.size c v l):=
 LV a l.length m (jk l) w (by simp[jk]) (λe=>by subst e;exact h.rl) h.cells (L1 l) b
def wJ(w:dg)(a:Option Addr)(c:List (List Nat)):Prop:=∀k (h:k<c.length),∃b o d e,a=some ⟨b,o,none⟩/\w.cell? ⟨b,o+k,none⟩=some (.slice d c[k].length e)/\gi w d c[k]/\c[k].length<=e
theorem wJ.ext{c:List (List Nat)}(h:wJ w a c)(e:Ext w t):wJ t a c:=λk d=>by obtain⟨b,o,f,g,i,j,l,m⟩:=h k d;exact⟨b,o,f,g,i,e.cell j,l.ext e,m⟩
def jr(c:Nat)(w:dg)(v:di)(a:List (List Nat)):Prop:=∃b:List di,dM c 27 [.slice none 0 0] w v a.length b/\b.length=a.length/\∀k (h:k<a.length),∃u,b[k]? =some u/\gQ c w u a[k]
theorem jr.ext{a:List (List Nat)}(h:jr m w x a)(e:Ext w t):jr m t x a:=by obtain⟨b,c,d,f⟩:=h;refine⟨b,c.ext e,d,λk g=>?_⟩;obtain⟨u,i,j⟩:=f k g;exact⟨u,i,j.ext e⟩
theorem jr.row{d:List (List Nat)}(h:jr m w x d):∃a c,x=.slice a d.length c/\wJ w a d/\d.length<=c:=by obtain⟨t,⟨v,⟨g,rfl⟩|⟨b,c,y,z,rfl,i,A,j,B,l,C⟩⟩,D,e⟩:=h;exact⟨none,0,by rw[g],λk f=>by omega,by omega⟩;refine⟨_,c,rfl,λk f=>?_,j⟩;obtain⟨u,n,o⟩:=e k f;obtain⟨p,q,rfl,r,s⟩:=o.row;exact⟨b,0,p,q,rfl,dj i (by rw[dB,l k (by omega)];exact n),r,s⟩
def mY{g d:List di}(h:dM m i M w x o g)(l:dM k j Y w y p d)(n:i≠j)(b:Nat)(q:dw x b):¬dw y b:=λf=>by obtain⟨_,_,rfl⟩:=q;obtain⟨_,_,rfl⟩:=f;obtain⟨_,⟨_,e⟩|⟨t,_,u,_,e,r,_⟩⟩:=h;cases e;obtain⟨_,⟨_,c⟩|⟨v,_,s,_,c,a,_⟩⟩:=l;cases c;injection e with e;injection c with c;have e:=dQ Addr.block (dH e);have c:=dQ Addr.block (dH c);simp only at e c;subst e;subst c;rw[r]at a;injection a with a;injection a with _ a;exact n a
def OS{r:di->dg->Prop}{u:Array Bool}{b:List (List Nat)}(h:jr m w x b)(n:m<=w.heap.size)(o:gQ m w y l)(v:w.heap[k]? =some (.cells [y].toArray 27))(c:b.length+1<=1000000) (z:∀g d,jr m d g (b++[l])->(∀W,Ext W w->W.heap.size<=m->Ext W d)->r g d):Au V.prog (builtin .append #[66,66] T u #[x,.slice (some ⟨k,0,none⟩) 1 i]) w r:=by
 obtain⟨A,j,s,B⟩:=h;have e:y.oneCell'=true:=by obtain⟨a,i,rfl,_⟩:=o.row;rfl
 refine iM Q8 j n v c (λg d C p J=>z g d ⟨A++[y],by simpa using C,by simp[s],λq D=>?_⟩ λW E F=>E.iZ p j F) rfl (by simp[ti,e]);rcases fO q b.length with f|G;obtain⟨H,I,t⟩:=B q f;refine⟨H,by rw[oQ (by omega)];exact I,?_⟩;rw[oR f];exact t.keep p (mY t j (by decide));obtain rfl:q=b.length:=by simp at D;omega
 refine⟨y,by rw[qa (by omega)];simp[s],?_⟩;simp only[xn (dC _),ot,qb];exact o.keep p (mY o j (by decide))
def gQ.low(h:gQ m w x l)(f:k<=m):gQ k w x l:=by obtain⟨a,h|⟨b,c,d,g,e⟩⟩:=h;exact⟨a,.inl h⟩;exact⟨a,.inr ⟨b,c,d,by omega,e⟩⟩
def F9(a:List (List Nat))(i:Option Addr)(m:Nat)(w:dg)(q:wJ w i a)(p:a.length<=100000)(r:∀l∈a,l.length<=100000):Calls V.prog 131 #[.slice i a.length m] w (gh λv c=>Ext w c/\jr w.heap.size c v a):=by refine go V.func131 Tryz.ntmps131 ?_;refine dK (iE (n:=a.length) (λk v=>[(3,v),(6,.slice i a.length m),(7,.int .i64 a.length),(8,.int .i64 k)]) (λk v c=>Ext w c/\jr w.heap.size c v (a.take k)) (.slice none 0 0) ⟨⟨rfl,rfl,rfl,rfl,trivial⟩,Ext.refl _,[],dM.nil _ _ _ _,rfl,λk d=>by simp at d⟩ ?_ ?_ ?_);rintro k v c d ⟨e,f⟩;exact eg ⟨rfl,rfl,⟨rfl,rfl,rfl,rfl,trivial⟩,e,f⟩;rintro k v c d ⟨e,f⟩;obtain⟨b,o,C,D,rfl,s,t,_⟩:=(q.ext e) k d;refine eP k d (dl s (dt (lQ t (by have:=r _ (fc d);omega)) λu E g=>?_));obtain⟨j,g⟩:=g;refine eQ [u] 27 (λF G h x y=>OS ((f.ext j).ext h) (by have:=e.size;have:=j.size;have:=h.size;omega) ((g.low e.size).ext h) y (by simp;omega) λz H A B=>dD ⟨z,⟨rfl,rfl,rfl,rfl,trivial⟩,B w ((e.trans j).trans h) (dC _),?_⟩) ?_;rw[jM d];exact A;obtain⟨I,J,rfl,_⟩:=g.row;intro w;kernel_rfl;rintro v c ⟨e,f⟩;rw[qx]at f;exact⟨_,rfl,e,f⟩
def gE{p:Type}(n:Nat){d:Code}{l:L}{Q:QW}(i:Nat->p->L)(J:Nat->p->dg->Prop)(q:p)(u:Sub (i 0 q) l/\J 0 q w)
 (f:∀b s w,b<=n->J b s w->WC V.prog FY m d (λe v x=>match e with
  | .normal=>b<n/\∃o,Sub (i (b+1) o) v/\J (b+1) o x
  |e=>ji k Q e v x) (i b s) w):fE V.prog m (Code.block k (Code.loop d)) l w Q:=by
 refine⟨λa r=>?_⟩;refine wp_block ?_;refine mM (λj a w=>∃b s,b<=n/\j=n-b/\Fr m (i b s) a/\J b s w) n ⟨0,q,gu _,by omega,r.sub u.1,u.2⟩ ?_;rintro j a w ⟨b,s,y,rfl,r,z⟩;refine kH (iJ er _ _ _ a w r (f b s w y z)) ?_;rintro e E F ⟨t,c,h⟩;cases e with
 |normal=>
  obtain⟨A,o,B,C⟩:=h;exact⟨n-(b+1),by omega,b+1,o,by omega,rfl,c.sub B,C⟩
 |exit j=>
  simp only[Exit.then,Exit.inBlock];by_cases g:j=k;subst g;rw[dr rfl];simp only[ji,vE]at h;exact⟨t,c,h⟩;rw[dp g];have:Nat.beq j k=false:=by
   cases D:Nat.beq j k with
   |false=>rfl
   |true=>exact absurd (ii D) g
  simp only[ji,this]at h;exact⟨t,c,h⟩
 |_=>exact⟨t,c,h⟩
def tp(l a:List Int)(n f:Option Addr)(r i:Nat)(w:dg)(x:iz w n l)(p:iz w f a)(s:l.length<=100000):
 Calls V.prog 58 #[.slice n l.length r,.slice f a.length i] w (gh λv m=>v=.bool (decide (l=a))/\Ext w m):=by
 refine go V.func58 Tryz.ntmps58 ?_;refine dK (dK (fV ⟨λh=>?_,λh=>?_⟩));have h:¬l=a:=λe=>by subst e;simp at h
 exact⟨_,rfl,by simp[h],Ext.refl _⟩;have h:l.length=a.length:=by simp at h;omega
 refine gE l.length (λk (_:Unit)=>[(0,.slice n l.length r),(1,.slice f a.length i),(5,.int .i64 k)]) (λk _ m=>Ext w m/\l.take k=a.take k) () ⟨⟨rfl,rfl,rfl,trivial⟩,Ext.refl _,by simp⟩ ?_;rintro k _ m C ⟨e,t⟩;refine dK (eg ⟨λc=>?_,λj=>?_⟩);have c:k<l.length:=by simpa using c
 have d:k<a.length:=by omega
 obtain⟨b,o,rfl,y⟩:=x k c;obtain⟨D,E,rfl,q⟩:=p k d;refine dT dO (nH k c (dI (e.cell y) (nH k d (dI (e.cell q) (Qc λF u=>⟨λg=>?_,λg=>?_⟩)))));have g:¬l[k]=a[k]:=eA g;have:¬l=a:=λe=>by subst e;exact g rfl
 exact⟨_,rfl,by simp[this],e.trans u⟩;have g:l[k]=a[k]:=by simpa using g
 refine dD ⟨c,(),⟨rfl,rfl,rfl,trivial⟩,e.trans u,?_⟩;rw[jM c,jM d,t,g];have j:¬k<l.length:=by simpa using j
 have z:k=l.length:=by omega
 have:l=a:=by have A:l.take k=l:=tJ (by omega);have B:a.take k=a:=tJ (by omega);rw[<-A,<-B,t]
 exact⟨_,rfl,by simp[this],e⟩
def OT:pJ l=pJ f↔l=f:=by
 constructor;intro h;induction l generalizing f with
 |nil=>cases f with
  |nil=>rfl
  |cons x r=>simp[pJ]at h
 |cons x r a=>cases f with
  |nil=>simp[pJ]at h
  |cons y s=>
   simp only[pJ,lA,pY]at h;rw[a h.2,show x=y by omega]
 rintro rfl;rfl
def pM(l b:List Nat)(e a:Option Addr)(g c:Nat)(w:dg)(h:gi w e l)(f:gi w a b)(d:l.length<=100000):
 Calls V.prog 58 #[.slice e l.length g,.slice a b.length c] w (gh λv i=>v=.bool (decide (l=b))/\Ext w i):=by
 have:=tp (pJ l) (pJ b) e a g c w h.ints f.ints (by simpa[pJ]using d);have j:(pJ l).length=l.length:=by simp[pJ]
 have k:(pJ b).length=b.length:=by simp[pJ]
 rw[j,k]at this;simpa only[OT]using this
def DT(l a:List (List Nat))(q i:Option Addr)(y j:Nat)(w:dg)(C:wJ w q l)(r:wJ w i a)(z:l.length<=100000)(s:∀x∈l,x.length<=100000):
 Calls V.prog 71 #[.slice q l.length y,.slice i a.length j] w (gh λv p=>v=.bool (decide (l=a))/\Ext w p):=by
 refine go V.func71 Tryz.ntmps71 ?_;refine dK (dK (fV ⟨λh=>?_,λh=>?_⟩));have h:¬l=a:=λe=>by subst e;simp at h
 exact⟨_,rfl,by simp[h],Ext.refl _⟩;have h:l.length=a.length:=by simp at h;omega
 refine gE l.length (λk (_:Unit)=>[(0,.slice q l.length y),(1,.slice i a.length j),(5,.int .i64 k)]) (λk _ p=>Ext w p/\l.take k=a.take k) () ⟨⟨rfl,rfl,rfl,trivial⟩,Ext.refl _,by simp⟩ ?_;rintro k _ p I ⟨e,A⟩;refine dK (eg ⟨λd=>?_,λm=>?_⟩);have d:k<l.length:=by simpa using d
 have f:k<a.length:=by omega
 obtain⟨b,o,x,c,rfl,D,g,_⟩:=(C.ext e) k d;obtain⟨J,K,E,F,rfl,t,u,_⟩:=(r.ext e) k f;refine dT dO (nH k d (dI D (nH k f (dI t (kZ (.bool (decide (l[k]=a[k]))) (λB n=>pM l[k] a[k] x E c F B (g.ext n) (u.ext n) (s _ (fc d))) (pH λB n=>⟨λg=>?_,λg=>?_⟩))))));have g:¬l[k]=a[k]:=by simpa using g
 have:¬l=a:=λe=>by subst e;exact g rfl
 exact⟨_,rfl,by simp[this],e.trans n⟩;have g:l[k]=a[k]:=by simpa using g
 refine dD ⟨d,(),⟨rfl,rfl,rfl,trivial⟩,e.trans n,?_⟩;rw[jM d,jM f,A,g];have m:¬k<l.length:=by simpa using m
 have:l=a:=by have G:l.take k=l:=tJ (by omega);have H:a.take k=a:=tJ (by omega);rw[<-G,<-H,A]
 exact⟨_,rfl,by simp[this],e⟩
structure wK(w:dg)(gp mk ms:Nat)(G:Gd)(w':dg):Prop where
 g:oN gp mk ms G w'
 lo:w.heap.size<=gp/\w.heap.size<=mk/\w.heap.size<=ms
 km:w'.heap[mk]? =some (.map #[] 0)
 sm:w'.heap[ms]? =some (.map #[] 0)
theorem wK.ext{gp mk ms:Nat}(h:wK w gp mk ms H t)(a:Ext t e):wK w gp mk ms H e:=⟨h.g.ext a,h.lo,a.at_ h.km,a.at_ h.sm⟩
def wK.low{gp mk ms:Nat}(h:wK w gp mk ms H e)(a:Ext t w):wK t gp mk ms H e:=⟨h.g,by have:=a.size;have:=h.lo;omega,h.km,h.sm⟩
def AD{dc:Nat}(h:iv w a H.doors)(b:H.doors.length<=100000):
 Calls V.prog 144 #[gV H a dc] w (gh λv d=>Ext w d/\((eF H≠0/\v=.tuple #[.pointer none,.int .i64 (eF H)])\/(eF H=0/\∃c mk f,v=.tuple #[.pointer (some ⟨c,0,none⟩),.int .i64 0]/\wK w c mk f H d))):=by
 refine(I0 H a dc w h b).mono ?_;rintro e d ⟨v,rfl,i,j⟩;refine⟨v,rfl,i,j.imp id ?_⟩;rintro⟨k,c,mk,f,l,m,n,o,p,q,g⟩;exact⟨k,c,mk,f,l,m,⟨n,o,p⟩,q,g⟩
def fg(c:w.heap[k]? =some (.cells (gL H a m).toArray 24)){b:di->dg->Prop}(h:b (gV H a m) w):jB V.prog (Instr.loadAt 24 (.pointer (some ⟨k,0,none⟩))) w b:=
 eB (vs:=gL H a m) (λj v d=>by rw[dB];exact dj c (by simpa using d)) h
def yD{dc:Nat}(k:iv w a H.doors)(b:H.doors.length<=100000){l:List Int}{la:Option Addr}{lc:Nat}(m:iz w la l)(n:l.length<=100000)(o:l.length<=lc):
 Calls V.prog 113 #[gV H a dc,.slice la l.length lc] w (gh λv i=>Ext w i/\((eF H≠0/\v=.tuple #[.pointer none,.int .i64 (eF H)])\/(eF H=0/\∃d mk f,v=.tuple #[.pointer (some ⟨d,0,none⟩),.int .i64 (fx H.doors.length l)]/\wK w d mk f H i))):=by
 refine go V.func113 Tryz.ntmps113 ?_;refine fB λr s c p q=>fg q (dt (AD (dc:=dc) (k.ext c) b) ?_);rintro v t ⟨h,⟨e,rfl⟩|⟨e,d,mk,f,rfl,j⟩⟩;exact fV (ki (by simpa using e) ⟨_,rfl,c.trans h,.inl ⟨e,rfl⟩⟩);exact fV (mX (by simp) (dN (ve j.g (m.ext (c.trans h)) n o) ⟨_,rfl,c.trans h,.inr ⟨e,d,mk,f,rfl,j.low c⟩⟩))
def mF(G:Gd)(l:List Int):Int:=if eF G=0 then fx G.doors.length l else eF G
def mG(a b:Int):List di:=[.int .i64 a,.int .i64 b]
def oi{l:List Int}(h:fx m l=0):∃a:List Nat,l=pJ a/\(∀d∈a,d<m):=by
 have e:∀(l b:List Int),mP m b l=0->∃a:List Nat,l=pJ a/\∀d∈a,d<m:=by
  intro l;induction l with
  |nil=>intro _ _;exact⟨[],rfl,λd c=>by cases c⟩
  |cons x r f=>
   intro b h;simp only[mP]at h;split at h;rename_i g;split at h;omega;obtain⟨a,i,j⟩:=f _ h;simp[ly]at g;refine⟨x.toNat::a,?_,λd c=>?_⟩;simp only[pJ,lA,pY];exact⟨by omega,i⟩;rcases ft.1 c with rfl|c;omega;exact j d c;omega
 exact e l [] h
def iz.DU(h:iz w a (pJ l)):gi w a l:=λk c=>by obtain⟨b,o,d,e⟩:=h k (by simpa[pJ]using c);exact⟨b,o,d,by rw[e];simp[pJ]⟩
def vf(G:Gd)(l:List Int):di:=if mF G l=0 then .tuple #[.agg (mG (mv G (l.map Int.toNat)) (nL G (l.map Int.toNat))).toArray,.int .i64 0]else .tuple #[.agg (mG 0 0).toArray,.int .i64 (mF G l)]
def I6{dc:Nat}(G:iv w a H.doors)(p:H.doors.length<=100000){l:List Int}{la:Option Addr}{lc:Nat}(C:iz w la l)(x:l.length<=100000)(I:l.length<=lc):
 Calls V.prog 44 #[gV H a dc,.slice la l.length lc] w (gh λv J=>v=vf H l/\Ext w J):=by
 refine go V.func44 Tryz.ntmps44 ?_;refine fB λS T i K L=>fJ λM D m N q=>fg (m.at_ L) (dt (yD (dc:=dc) (G.ext (i.trans m)) p (C.ext (i.trans m)) x I) ?_);have r:∀(n:dg),Ext M n->mF H l≠0->∀k:dg->Prop,(∀d,Ext w d->Sem.run V.prog (loadVar 56 ⟨D,0,none⟩) d=.ok (.agg (mG 0 0).toArray) d->k d)->Dt V.prog (Instr.storeAt 56 (.pointer (some ⟨D,0,none⟩)) (.agg (mG 0 0).toArray)) n k:=λn e b k O=>
  ee (e.at_ q) λd P y=>O d (((i.trans m).trans e).dz P (by have:=i.size;omega)) (nN (mG 0 0) y λj v z=>by rw[dB];show(mG 0 0).toArray[j]? =some v;simpa using z)
 rintro v n ⟨e,⟨o,rfl⟩|⟨o,U,mk,W,rfl,E⟩⟩;have b:mF H l=eF H:=by simp[mF,o]
 refine fV (ki (by simpa using o) (eJ (.agg (mG 0 0).toArray) (r n e (by rw[b];exact o) _ λd f A=>⟨_,A,_,rfl,?_,f⟩)));rw[vf,b,dp o];rfl;have b:mF H l=fx H.doors.length l:=by simp[mF,o]
 refine fV ⟨λh=>?_,λh=>?_⟩;have h:¬fx H.doors.length l=0:=eA h;refine eJ (.agg (mG 0 0).toArray) (r n e (by rw[b];exact h) _ λd f A=>⟨_,A,_,rfl,?_,f⟩);rw[vf,b,dp h];rfl;have h:fx H.doors.length l=0:=by simpa using h
 obtain⟨c,rfl,s⟩:=oi h;have Q:(pJ c).length=c.length:=by simp[pJ]
 have t:=((C.ext (i.trans m)).ext e).DU;have u:(pJ c).map Int.toNat=c:=by simp[pJ,Cc]
 rw[Q]at x⊢;refine eD (DO E.g s x t) λd f=>eD (Bz (E.ext f).g s x (t.ext f)) λX F=>?_;refine eJ (.agg (mG (mv H c) (nL H c)).toArray) (ee (F.at_ (f.at_ (e.at_ q))) λY R B=>⟨_,nN (mG (mv H c) (nL H c)) B λj v z=>by rw[dB];show(mG (mv H c) (nL H c)).toArray[j]? =some v;simpa using z,_,rfl,?_,?_⟩);rw[vf,b,dr h,u];rfl;exact(((i.trans m).trans e).trans (f.trans F)).dz R (by have:=i.size;omega)
def L3:List Dr:=[⟨0,3,5⟩,⟨0,8,2⟩,⟨1,5,4⟩,⟨1,2,6⟩]
def fS:Gd:=⟨2,4,1,40,3,2,L3⟩
def I7{a:List Dr}(h:w.heap[m]? =some (.cells (a.flatMap dL).toArray T)):iv w (some ⟨m,0,none⟩) a:=λk b=>by obtain⟨c,d,e⟩:=uk a k b;exact⟨m,0,rfl,dj h (by rw[dB];simpa using c),dj h (by rw[dB];simpa using d),dj h (by rw[dB];simpa using e)⟩
def L4(w:dg):Calls V.prog 95 #[] w (gh λv k=>Ext w k/\∃b,w.heap.size<=b/\v=gV fS (some ⟨b,0,none⟩) 4/\k.heap[b]? =some (.cells (L3.flatMap dL).toArray 81)):=by
 refine go V.func95 Tryz.ntmps95 ?_;refine fJ λr d l e m=>eJ (.agg (dL ⟨0,3,5⟩).toArray) (eJ (.agg (dL ⟨0,8,2⟩).toArray) (eJ (.agg (dL ⟨1,5,4⟩).toArray) (eJ (.agg (dL ⟨1,2,6⟩).toArray) (eQ (L3.flatMap dL) 81 λs b n t f=>?_))));refine eJ (gV fS (some ⟨b,0,none⟩) 4) (ee (n.at_ m) λg o c=>?_);have h:g.heap[d]? =some (.cells (gL fS (some ⟨b,0,none⟩) 4).toArray 24):=c.trans (dQ (λa=>some (Obj.cells a 24)) (fo (sD 24).toArray (gL fS (some ⟨b,0,none⟩) 4) rfl));have p:Sem.run V.prog (loadVar 24 ⟨d,0,none⟩) g=.ok (gV fS (some ⟨b,0,none⟩) 4) g:=nN (gL fS (some ⟨b,0,none⟩) 4) h λj v q=>by rw[dB];simpa using q
 clear c;have i:¬(b=d):=by have:=dG.lt_of_heap m;omega
 refine⟨gV fS (some ⟨b,0,none⟩) 4,p,?_⟩;exact⟨_,rfl,(l.trans n).dz o e,b,by have:=l.size;omega,rfl,o.fU f i⟩
structure Ty where
 door:Nat
 shift:Nat
 opened:Bool
def tL(t:Ty):List di:=[.int .i64 t.door,.int .i64 t.shift,.bool t.opened]
def L5:List Ty:=[⟨0,0,false⟩,⟨1,0,true⟩,⟨2,1,false⟩]
def I8(w:dg):Calls V.prog 96 #[] w (gh λv c=>Ext w c/\∃b,w.heap.size<=b/\v=.slice (some ⟨b,0,none⟩) 3 3/\c.heap[b]? =some (.cells (L5.flatMap tL).toArray 84)):=by refine go V.func96 Tryz.ntmps96 ?_;exact eJ (.agg (tL ⟨0,0,false⟩).toArray) (eJ (.agg (tL ⟨1,0,true⟩).toArray) (eJ (.agg (tL ⟨2,1,false⟩).toArray) (eQ (L5.flatMap tL) 84 λf b d e a=>⟨_,rfl,d,b,e,rfl,a⟩)))
def BC(b:Int)(a:Option Addr)(l c:Nat)(w:dg):Calls V.prog 97 #[.int .i64 b,.slice a l c] w (gh λv g=>v=.agg #[.int .i64 b,.slice a l c]/\Ext w g):=by
 refine go V.func97 Tryz.ntmps97 ?_;refine fJ λp h i d k=>eJ (.agg ([.int .i64 b,.slice a l c]:List di).toArray) (ee k λf m e=>?_);have n:Sem.run V.prog (loadVar 29 ⟨h,0,none⟩) f=.ok (.agg ([.int .i64 b,.slice a l c]:List di).toArray) f:=nN _ e λj v o=>by rw[dB];show([.int .i64 b,.slice a l c]:List di).toArray[j]? =some v;simpa using o
 exact⟨_,n,_,rfl,rfl,i.dz m d⟩
theorem vg:∀a:List Sx,(a.flatMap mw).length=a.length*8
 |[]=>rfl
 |x::r=>by have:=vg r;simp[mw,this];omega
theorem vh:∀(a:List Sx) (k:Nat) (b:k<a.length) (j:Nat) (v:di),(mw a[k])[j]? =some v->(a.flatMap mw)[k*8+j]? =some v
 |x::r,0,_,j,v,h=>by have c:j<(mw x).length:=(je.1 h).1;simp only[tG,Nat.zero_mul,dB];rw[oQ c];exact h
 |x::r,k+1,b,j,v,h=>by have d:=vh r k (by simpa using b) j v (by simpa using h);have e:(mw x).length=8:=rfl;simp only[tG];rw[qa (by omega),e,show(k+1)*8+j-8=k*8+j by omega];exact d
structure nO(sb:Nat)(xs:List Sx)(w:dg):Prop where
 out:∃cs,w.heap[sb]? =some (.cells cs 166)/\xs.length*8<=cs.size/\∀k (h:k<xs.length) j v,(mw xs[k])[j]? =some v->cs[k*8+j]? =some v
def nO.row{a:List Sx}(h:nO m a w):tn w (some ⟨m,0,none⟩) a:=λk b=>by obtain⟨f,c,g,d⟩:=h.out;exact⟨m,0,rfl,λj v e=>dj c (by rw[dB];exact d k b j v e)⟩
def nO.ext{a:List Sx}(h:nO m a w)(e:Ext w t):nO m a t:=by obtain⟨b,c,d⟩:=h.out;exact⟨b,e.at_ c,d⟩
def nO.keep{a:List Sx}(h:nO m a w)(k:dP A w t)(b:¬A m):nO m a t:=by obtain⟨c,d,e⟩:=h.out;exact⟨c,k.fU d b,e⟩
def L6{b:List Sx}(h:nO m b w)(a o:Nat)(F:a<b.length)(c:k=a*8+o)(n:Sx)(G:o+x.cells.size<=8)
 (r:∀j u,(mw n)[j]? =some u->(if o<=j/\j<o+x.cells.size then x.cells.toList[j-o]? else(mw b[a])[j]?)=some u)
 (s:∀d,dP (λt=>t=m) w d->nO m (b.set a n) d->S d)(v:ti x.cells.toList=true:=by rfl)(y:Qa T=some x.cells.size:=by rfl):Dt V.prog (Instr.storeAt T (.pointer (some ⟨m,k,none⟩)) x) w S:=by
 subst c;obtain⟨z,A,B,p⟩:=h.out;have H:a*8+8<=z.size:=by have:=qy 8 (show a+1<=b.length by omega);omega
 refine jj A (by omega) (λd C l=>s d C ⟨_,l,by rw[og];simpa using B,λi D j u e=>?_⟩) (gG v) y;have E:j<8:=(je.1 e).1;rw[nK _ _ _ _ (by simp;omega)];simp only[Array.length_toList];have f:i<b.length:=by simpa using D
 by_cases g:i=a;subst g;rw[List.getElem_set_self]at e;have:=r j u e;by_cases q:o<=j/\j<o+x.cells.size;rw[dr q]at this;rw[dr (by omega),show i*8+j-(i*8+o)=j-o by omega];exact this;rw[dp q]at this;rw[dp (by omega)];exact p i f j u this;rw[List.getElem_set_ne (by omega)]at e;rw[dp (by rcases Nat.lt_or_gt_of_ne g with h|h;have:=qy 8 (show i+1<=a by omega);omega;have:=qy 8 (show a+1<=i by omega);omega)];exact p i f j u e
def leave1(a:List Sx)(d:Nat):List Sx:=match a[d]? with
 |some x=>a.set d {x with left:=true}
 |none=>a
def jF(a:List Sx)(l:List Nat):List Sx:=l.foldl leave1 a
def Ga(a:List Sx)(d:Nat):(leave1 a d).length=a.length:=by unfold leave1;split<;>simp
theorem pN:∀(l:List Nat) (a:List Sx),(jF a l).length=a.length
 |[],_=>rfl
 |d::r,a=>(pN r (leave1 a d)).trans (Ga a d)
def DV(a:List Sx)(l:List Nat)(k:Nat)(b:k<l.length):jF a (l.take (k+1))=leave1 (jF a (l.take k)) l[k]:=by rw[jM b];simp only[jF,xm,pZ,List.foldl_nil]
def tq(e:Nat)(w:dg)(v:di)(b:List Sx):Prop:=(b=[]/\∃a c,v=.slice a 0 c)\/∃d c,e<=d/\v=.slice (some ⟨d,0,none⟩) b.length c/\nO d b w
def tn.cells{w:dg}{a:Option Addr}{c:List Sx}(h:tn w a c):iu w a (c.flatMap mw):=by
 rcases c with _|⟨x,r⟩;exact .inl rfl;obtain⟨b,o,rfl,_⟩:=h 0 (by simp);refine .inr ⟨b,o,rfl,λj u g=>?_⟩;have m:j<(x::r).length*8:=by rw[<-vg];exact(je.1 g).1
 have i:j/8<(x::r).length:=by omega
 obtain⟨n,p,e,q⟩:=h (j/8) i;obtain⟨rfl,rfl⟩:b=n/\o=p:=by injection e with e;injection e with s t;exact⟨s,t⟩
 have v:j%8<(mw (x::r)[j/8]).length:=by show j%8<8;omega
 have k:=fI v;have d:=vh (x::r) (j/8) i (j%8) _ k;have l:=q (j%8) _ k;have f:j/8*8+j%8=j:=by omega
 rw[f]at d;rw[g]at d;obtain rfl:=dH d;have:o+j/8*8+j%8=o+j:=by omega
 rw[this]at l;exact l
def tn.rl{a:List Sx}(h:tn w none a):a.length=0:=by rcases a with _|⟨x,r⟩;rfl;obtain⟨b,o,e,_⟩:=h 0 (by simp);cases e
def ur{c:List Sx}(h:tn w a c)(d:c.length<=1000000):Calls V.prog 154 #[.slice a c.length m] w (gh λv g=>Ext w g/\tq w.heap.size g v c):=by refine(LX a c.length m (c.flatMap mw) w (vg c) (λe=>by subst e;exact h.rl) h.cells (λu f=>?_) d).mono ?_;obtain⟨x,_,f⟩:=tH.1 f;simp[mw]at f;rcases f with rfl|rfl|rfl|rfl|rfl|rfl|rfl|rfl<;>rfl;rintro e g ⟨v,rfl,i,B,⟨n,rfl⟩|⟨b,o,p,q,rfl,r,s,t,C,y,D⟩⟩;exact⟨_,rfl,i,.inl ⟨nZ n,none,0,rfl⟩⟩;refine⟨_,rfl,i,.inr ⟨b,o,q,rfl,⟨p,r,?_,λk z j v A=>?_⟩⟩⟩;have:(sD 166).length=8:=rfl;rw[this]at s;have:=qy 8 t;omega;have l:=vh c k z j v A;rw[y _ (je.1 l).1];exact l
def Gb{wp gp mk ms:Nat}{p:List Sx}(h:lz wp gp mk ms H p I w)(X:gi w a l)(Y:∀d∈l,d<p.length)(O:l.length<=100000):
 Calls V.prog 171 #[.pointer (some ⟨wp,0,none⟩),.slice a l.length m] w (gh λv r=>Ext w r/\∃z,v=.pointer (some ⟨z,0,none⟩)/\lz z gp mk ms H (jF p l) I r):=by
 obtain⟨Z,sc,h1,P,h3,h4⟩:=h.at_;have aa:p.length<=5:=by have:=h.len;have:=h.g.um.many;omega
 refine go V.func171 Tryz.ntmps171 ?_;refine eB (vs:=[.pointer (some ⟨gp,0,none⟩),.slice Z p.length sc,.int .i64 I]) (λj v f=>?_) (fJ λw1 D e1 A q=>ee q λJ k2 s=>?_);match j,f with
 |0,f=>cases f;exact h1
 |1,f=>cases f;exact P
 |2,f=>cases f;exact h3
 have E:Ext w J:=e1.dz k2 A;refine dl (E.cell P) (dt (ur (h4.ext E) (by omega)) ?_);rintro v w3 ⟨Q,R⟩;have ab:=dG.lt_of_heap s;have i:v.oneCell'=true/\v.cells=#[v]:=by obtain⟨_,S,c,rfl⟩|⟨B,c,_,rfl,_⟩:=R<;>exact⟨rfl,rfl⟩
 refine jj (Q.at_ s) (by rw[i.2];exact oS rfl) (λK T t=>?_) (by rw[i.2];simpa using i.1) (by rw[i.2];rfl);rw[i.2]at t;have L:K.heap[D]? =some (.cells #[.pointer (some ⟨gp,0,none⟩),v,.int .i64 I] 141):=t;clear t s;have e4:Ext w K:=(E.trans Q).dz T A;have M:tq J.heap.size K v p:=by obtain h|⟨B,c,F,g2,C⟩:=R;exact .inl h;exact .inr ⟨B,c,F,g2,C.keep T (by omega)⟩
 refine dK (eZ (n:=l.length) (λk=>[(5,.pointer (some ⟨D,0,none⟩)),(17,.slice a l.length m),(18,.int .i64 l.length),(19,.int .i64 k)]) (λk r=>Ext w r/\r.heap[D]? =some (.cells #[.pointer (some ⟨gp,0,none⟩),v,.int .i64 I] 141)/\tq J.heap.size r v (jF p (l.take k))) ⟨⟨rfl,rfl,rfl,rfl,trivial⟩,e4,L,by simpa[jF]using M⟩ ?_ ?_ ?_);rintro k r x hJ;exact eg ⟨rfl,rfl,⟨rfl,rfl,rfl,rfl,trivial⟩,hJ⟩;rintro k r x ⟨e,q,G⟩;obtain⟨b,o,rfl,hc⟩:=(X.ext e) k x;have U:=Y _ (fc x);obtain⟨N,_⟩|⟨B,c,F,rfl,C⟩:=G;have:=dQ List.length N;rw[pN]at this;simp at this;subst this;simp at U;have y:l[k]<(jF p (l.take k)).length:=by rw[pN];exact U
 refine eP k x (dl hc (dl (dj q rfl) (fl l[k] 8 y (L6 C l[k] 7 y (by omega) {(jF p (l.take k))[l[k]]with left:=true} (by decide) (λj u f=>?_) (λw5 W g5=>dD ⟨⟨rfl,rfl,rfl,rfl,trivial⟩,e.dz W (by have:=E.size;omega),W.fU q (by omega),?_⟩)))));match j,f with
 |0,f=>exact f
 |1,f=>exact f
 |2,f=>exact f
 |3,f=>exact f
 |4,f=>exact f
 |5,f=>exact f
 |6,f=>exact f
 |7,f=>exact f
 rw[DV p l k x];have he:leave1 (jF p (l.take k)) l[k]=(jF p (l.take k)).set l[k] {(jF p (l.take k))[l[k]]with left:=true}:=by unfold leave1;rw[fI y]
 rw[he];exact .inr ⟨B,c,F,by rw[xp],g5⟩;rintro r ⟨e,q,G⟩;rw[qx]at G;refine⟨_,rfl,e,D,rfl,h.g.ext e,by rw[pN];exact h.len,h.bf,?_⟩;obtain⟨N,S,c,rfl⟩|⟨B,c,F,rfl,C⟩:=G;rw[N];exact⟨S,c,dj q rfl,dj q rfl,dj q rfl,λk x=>by simp at x⟩;exact⟨_,c,dj q rfl,dj q rfl,dj q rfl,C.row⟩
def DX(s:Nat)(w:dg):Calls V.prog 167 #[.int .i64 s] w (gh λv a=>v=.bool (decide (s%2=0))/\a=w):=by refine go V.func167 Tryz.ntmps167 ?_;exact yB (m:=s) (n:=2) (by omega) (gA ⟨_,rfl,by congr 1;simp;omega,rfl⟩)
def DY(s:Nat)(w:dg):Calls V.prog 168 #[.int .i64 s] w (gh λv a=>v=.bool (decide (s%2=1))/\a=w):=by refine go V.func168 Tryz.ntmps168 ?_;exact yB (m:=s) (n:=2) (by omega) (gA ⟨_,rfl,by congr 1;simp;omega,rfl⟩)
def Qf(c:di)(p:Nat->Bool):Prop:=∃g first a,c=.func (.func g) first a/\(∀b w,Sem.run V.prog (callFunc g b) w=.ok (.enter g b) w)/\∀(n:Nat) w,Calls V.prog g (first.toList++([Value.int .i64 n]++a.toList)).toArray w (gh λv d=>v=.bool (p n)/\d=w)
def pO(p:Nat->Bool):List Nat->Nat->Int
 |[],_=> -1
 |y::r,i=>if p y then i else pO p r (i+1)
def DZ(p:Nat->Bool)(l:List Nat)(k:Nat)(a:k<l.length):pO p (l.drop k) k=if p l[k]then(k:Int)else pO p (l.drop (k+1)) (k+1):=by rw[qu a];rfl
theorem yE(p:Nat->Bool):∀(l:List Nat) (i:Nat),decide (0<=pO p l i)=l.any p
 |[],_=>rfl
 |y::r,i=>by
  simp only[pO,List.any_cons];by_cases h:p y=true;simp[h];have h:p y=false:=by simpa using h
  simpa[h]using yE p r (i+1)
def zR{p:Nat->Bool}(r:Qf x p)(l:List Nat)(f:Option Addr)(m:Nat)(w:dg)(s:gi w f l)(q:l.length<=100000):Calls V.prog 195 #[.slice f l.length m,x] w (gh λv c=>v=.int .i64 (pO p l 0)/\c=w):=by obtain⟨g,first,i,rfl,j,t⟩:=r;refine go V.func195 Tryz.ntmps195 ?_;refine dK (eZ (n:=l.length) (λk=>[(0,.slice f l.length m),(1,.func (.func g) first i),(7,.int .i64 l.length),(8,.int .i64 k)]) (λk c=>c=w/\pO p l 0=pO p (l.drop k) k) ⟨⟨rfl,rfl,rfl,rfl,trivial⟩,rfl,rfl⟩ ?_ ?_ ?_);rintro k c e ⟨rfl,a⟩;exact eg ⟨rfl,rfl,⟨rfl,rfl,rfl,rfl,trivial⟩,rfl,a⟩;rintro k c e ⟨rfl,a⟩;obtain⟨b,o,rfl,d⟩:=s k e;rw[DZ p l k e]at a;refine eP k e (dl d (dN (t l[k] c) ⟨λh=>?_,λh=>?_⟩ j));rw[dr h]at a;exact⟨_,rfl,by rw[a];rfl,rfl⟩;rw[h]at a;exact dD ⟨⟨rfl,rfl,rfl,rfl,trivial⟩,rfl,a⟩;rintro c ⟨rfl,a⟩;exact⟨_,rfl,by rw[a];simp[pO],rfl⟩
def pg{p:Nat->Bool}(d:Qf x p)(l:List Nat)(b:Option Addr)(c:Nat)(w:dg)(e:gi w b l)(a:l.length<=100000):Calls V.prog 166 #[.slice b l.length c,x] w (gh λv f=>v=.bool (l.any p)/\f=w):=by refine go V.func166 Tryz.ntmps166 ?_;exact dN (zR d l b c w e a) (uh ⟨_,rfl,by rw[<-yE p l 0];rfl,rfl⟩)
end Go.Proofs.W
