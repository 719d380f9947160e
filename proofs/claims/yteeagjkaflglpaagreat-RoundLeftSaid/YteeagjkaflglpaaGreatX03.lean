/- Laws that the proof needs, part 3. Conditions: none. -/
import Derived.Scope
import Derived.RangeFuncRecord
import Derived.RangeFuncLeaves
import Derived.Test.YteeagjkaflglpaaGreatX02
set_option maxRecDepth 100000
set_option maxHeartbeats 8000000
set_option linter.all false
variable{K:cm}
namespace Go.Proofs.W
open Go.RowKit
abbrev L:=List (Nat×ce)
def lk:L->Nat->Option ce
 |[],_=>none
 |p::r,t=>match Nat.beq p.1 t with
  |true=>some p.2
  |false=>lk r t
def nth{a:Type}:List a->Nat->Option a
 |[],_=>none
 |x::_,0=>some x
 |_::r,n+1=>nth r n
def mem:Nat->List Nat->Bool
 |_,[]=>false
 |n,x::r=>match Nat.beq n x with
  |true=>true
  |false=>mem n r
def ev(l:L):dj->Option ce
 | .tmp t=>lk l t
 | .const v=>some v
 | .func f=>some (.func (.func f) #[] #[])
 | .global _=>none
def evs(l:L):List dj->Option (List ce)
 |[]=>some []
 |x::r=>match ev l x with
  |some v=>match evs l r with
   |some a=>some (v::a)
   |none=>none
  |none=>none
def S3(l:L):Option dj->Option (Option ce)
 |none=>some none
 |some x=>match ev l x with
  |some v=>some (some v)
  |none=>none
def ins(N:Nat)(d:Option Nat)(v:ce)(l:L):L:=match d with
 |none=>l
 |some d=>match Nat.blt d N with
  |true=>(d,v)::l
  |false=>l
structure Fr(N:Nat)(l:L)(a:Act):Prop where
 size:a.tmps.size=N
 defers:a.defers=[]
 at_:∀t v,lk l t=some v->a.eval (.tmp t)=v
structure vE(N:Nat)(l:L)(a:Act):Prop where
 size:a.tmps.size=N
 at_:∀t v,lk l t=some v->a.eval (.tmp t)=v
def Fr.b{N:Nat}{l:L}{a:Act}(h:Fr N l a):vE N l a:=⟨h.size,h.at_⟩
theorem vE.eval{N:Nat}{l:L}{a:Act}(h:vE N l a){x:dj}{v:ce}(b:ev l x=some v):a.eval x=v:=by
 cases x with
 |tmp t=>exact h.at_ t v b
 |const c=>exact cE b
 |func f=>exact cE b
 |global g=>cases b
theorem Fr.eval{N:Nat}{l:L}{a:Act}(h:Fr N l a){x:dj}{v:ce}(c:ev l x=some v):a.eval x=v:=h.b.eval c
theorem Fr.put{N:Nat}{l:L}{a:Act}(h:Fr N l a)(d:Option Nat)(v:ce)(f:∀t,d=some t->t<N):Fr N (ins N d v l) (a.put d v):=by
 refine⟨(lZ _ _ _).trans h.size,(tA _ _ _).trans h.defers,λt u b=>?_⟩;cases d with
 |none=>exact h.at_ t u b
 |some d=>
  have e:Nat.blt d N=true:=by simpa[Nat.blt_eq]using f d rfl
  simp only[ins,e]at b;simp only[lk]at b;cases c:Nat.beq d t with
  |true=>
   rw[c]at b;have:d=t:=gE c;subst this;rw[uD _ _ _ (by rw[h.size];exact f d rfl)];exact cE b
  |false=>
   rw[c]at b;have:d≠t:=vH c;rw[pI _ _ _ _ (by simpa using this)];exact h.at_ t u b
def Fr.zk{N:Nat}{l:L}{a:Act}(h:Fr N l a){d:Nat}{v:ce}(e:lk l d=some v):Fr N ((d,v)::l) a:=by
 refine⟨h.size,h.defers,λt u b=>?_⟩;simp only[lk]at b;cases c:Nat.beq d t with
 |true=>
  rw[c]at b;have:d=t:=gE c;subst this;exact cE b▸h.at_ _ _ e
 |false=>rw[c]at b;exact h.at_ t u b
def Sub:L->L->Prop
 |[],_=>True
 |p::r,l=>lk l p.1=some p.2/\Sub r l
theorem Sub.lk{b l:L}(h:Sub b l){t:Nat}{v:ce}(a:lk b t=some v):lk l t=some v:=by
 induction b with
 |nil=>cases a
 |cons p r d=>
  simp only[W.lk]at a;cases c:Nat.beq p.1 t with
  |true=>
   rw[c]at a;have:p.1=t:=gE c;subst this;exact cE a▸h.1
  |false=>rw[c]at a;exact d h.2 a
def Fr.sub{N:Nat}{l b:L}{a:Act}(h:Fr N l a)(c:Sub b l):Fr N b a:=⟨h.size,h.defers,λt v d=>h.at_ t v (c.lk d)⟩
structure iO(P:cf)(s:Sem ce)(w:cd)(k:ce->cd->Prop):Prop where
 out:∃v w',s.run P w=.ok v w'/\k v w'
structure DR(P:cf)(s:Sem Unit)(w:cd)(k:cd->Prop):Prop where
 out:∃w',s.run P w=.ok () w'/\k w'
structure wY(P:cf)(s:Sem Next)(w:cd)(k:ce->cd->Prop):Prop where
 out:∃v w',s.run P w=.ok (.value v) w'/\k v w'
structure P9(P:cf)(f:cm)(args:List ce)(w:cd)(k:ce->cd->Prop)(pan:List PanicEntry->cd->Prop):Prop where
 go:∀xs w,Sem.run P (callFunc f xs) w=.ok (.enter f xs) w
 out:Calls P f args.toArray w λe w'=>match e with
  | .returned v=>k v w'
  | .panicked c=>pan c w'
  | .outgrown=>False
structure BC where
 off:Nat->Nat->Option Nat
structure n5(P:cf)(T:BC):Prop where
 off:∀S i d,T.off S i=some d->∀b o w,Sem.run P (Instr.fieldAt S (.pointer (some ⟨b,o,none⟩)) i) w=.ok (.pointer (some ⟨b,o+d,none⟩)) w
def S4(l:L):List (Nat×dj)->Option (List (Nat×ce))
 |[]=>some []
 |p::r=>match ev l p.2 with
  |some v=>match S4 l r with
   |some a=>some ((p.1,v)::a)
   |none=>none
  |none=>none
def GG(P:cf)(T:BC)(ks:List Nat)(l:L)(w:cd)(o:Oper)(k:ce->cd->Prop)(s:cd->Prop)(pan:List PanicEntry->cd->Prop):Prop:=
 match o.op with
 | .move x=>match ev l x with
  |some v=>k v w
  |none=>False
 | .assign x=>match ev l x with
  |some v=>k v w
  |none=>False
 | .pick (.tmp c) x y=>match lk l c with
  |some (.bool b)=>match mem c ks with
   |true=>(match b with
    |true=>match ev l x with
     |some v=>k v w
     |none=>False
    |false=>match ev l y with
     |some v=>k v w
     |none=>False)
   |false=>(b=true->match ev l x with
    |some v=>k v w
    |none=>False)/\(b=false->match ev l y with
    |some v=>k v w
    |none=>False)
  |_=>False
 | .nilCheck x=>match ev l x with
  |some (.pointer (some p))=>k (.pointer (some p)) w
  |some (.func (.func f) a b)=>k (.func (.func f) a b) w
  |_=>False
 | .fieldAddr S x i=>match ev l x with
  |some (.pointer (some ⟨b,o,none⟩))=>(match T.off S i with
   |some d=>k (.pointer (some ⟨b,o+d,none⟩)) w
   |none=>False)
  |_=>False
 | .extract x i=>match ev l x with
  |some (.tuple h)=>(match nth h.toList i with
   |some v=>k v w
   |none=>False)
  |_=>False
 | .field S x i=>match ev l x with
  |some v=>iO P (Instr.field S v i) w k
  |none=>False
 | .load t x=>match ev l x with
  |some v=>iO P (Instr.loadAt t v) w k
  |none=>False
 | .store t x y=>match ev l x with
  |some v=>(match ev l y with
   |some u=>DR P (Instr.storeAt t v u) w s
   |none=>False)
  |none=>False
 | .alloc t=>iO P (Instr.alloc t true (.tuple #[])) w k
 | .box t x=>match ev l x with
  |some v=>iO P (Instr.box t v) w k
  |none=>False
 | .build t e=>match S4 l e.toList with
  |some h=>iO P (Instr.build t h.toArray) w k
  |none=>False
 | .buildSlice t n e=>match S4 l e.toList with
  |some h=>iO P (Instr.buildSlice t n h.toArray) w k
  |none=>False
 | .binOp b t x y _=>match ev l x with
  |some v=>(match ev l y with
   |some u=>iO P (do eqGuard b t x y v u;binOp b t v u) w k
   |none=>False)
  |none=>False
 | .unOp u _ x=>match ev l x with
  |some v=>iO P (Op.unary u v) w k
  |none=>False
 | .makeFunc q first j=>match evs l first.toList with
  |some A=>(match evs l j.toList with
   |some B=>k (.func q A.toArray B.toArray) w
   |none=>False)
  |none=>False
 | .makeMap t r=>match S3 l r with
  |some v=>iO P (Instr.makeMap t v) w k
  |none=>False
 | .makeSlice t x y=>match ev l x with
  |some v=>(match ev l y with
   |some u=>iO P (Instr.makeSlice t v u) w k
   |none=>False)
  |none=>False
 | .slice t x C D E=>match ev l x with
  |some v=>(match S3 l C with
   |some a=>(match S3 l D with
    |some b=>(match S3 l E with
     |some c=>iO P (Instr.sliceAt t v a b c) w k
     |none=>False)
    |none=>False)
   |none=>False)
  |none=>False
 | .indexAddr t x y=>match ev l x with
  |some v=>(match ev l y with
   |some u=>iO P (Instr.indexAt t v u) w k
   |none=>False)
  |none=>False
 | .index t x y=>match ev l x with
  |some v=>(match ev l y with
   |some u=>iO P (Instr.index t v u) w k
   |none=>False)
  |none=>False
 | .lookup t x y c=>match ev l x with
  |some v=>(match ev l y with
   |some u=>iO P (Instr.lookup t v u c) w k
   |none=>False)
  |none=>False
 | .mapUpdate t m x y=>match ev l m with
  |some z=>(match ev l x with
   |some v=>(match ev l y with
    |some u=>DR P (Instr.mapUpdate t z v u) w s
    |none=>False)
   |none=>False)
  |none=>False
 | .call c=>(match c.callee with
  | .value f=>(match ev l f with
   |some (.func (.func g) first j)=>(match evs l c.args.toList with
    |some h=>P9 P g (first.toList++(h++j.toList)) w k pan
    |none=>False)
   |_=>False)
  | .builtin b=>(match evs l c.args.toList with
   |some h=>wY P (builtin b c.argTypes o.type (c.args.map λ| .const _=>true|_=>false) h.toArray) w k
   |none=>False)
  | .invoke _ _=>False)
 | .convert t u x=>match ev l x with
  |some v=>iO P (convert t u v) w k
  |none=>False
 |_=>False
section
variable{P:cf}{T:BC}{ks:List Nat}{N:Nat}{l:L}{a:Act}{w:cd}{o:Oper}{k:ce->cd->Prop}{s:cd->Prop}{pan:List PanicEntry->cd->Prop}{next:Act->cd->Prop}{Q:Exit->Act->cd->Prop}
theorem x6{a:Type}:∀(l:List a) (i:Nat),nth l i=l[i]?
 |[],_=>rfl
 |_::_,0=>rfl
 |_::r,n+1=>(x6 r n).trans (by simp)
theorem vE.Rw(h:vE N l a):∀{d:List dj} {c:List ce},evs l d=some c->d.map a.eval=c
 |[],c,b=>by simp only[evs,fI]at b;subst b;rfl
 |x::r,c,b=>by simp only[evs]at b;split at b;rename_i v e;split at b;rename_i g f;simp only[fI]at b;subst b;simp[h.eval e,vE.Rw h f];cases b;cases b
theorem vE.Rx(h:vE N l a):∀{d:List (Nat×dj)} {c:List (Nat×ce)},S4 l d=some c->d.map (λp=>(p.1,a.eval p.2))=c
 |[],c,b=>by simp only[S4,fI]at b;subst b;rfl
 |x::r,c,b=>by simp only[S4]at b;split at b;rename_i v e;split at b;rename_i g f;simp only[fI]at b;subst b;simp[h.eval e,vE.Rx h f];cases b;cases b
def vE.I1(h:vE N l a){x:Option dj}{v:Option ce}(b:S3 l x=some v):x.map a.eval=v:=by
 cases x with
 |none=>simp only[S3,fI]at b;subst b;rfl
 |some x=>
  simp only[S3]at b;split at b;rename_i u c;simp only[fI]at b;subst b;simp[h.eval c];cases b
def pd(h:vE N l a){b:Array dj}{c:List ce}(d:evs l b.toList=some c):b.map a.eval=c.toArray:=by have:=h.Rw d;apply Cz;simpa using this
def BD(h:vE N l a){b:Array (Nat×dj)}{c:List (Nat×ce)}(d:S4 l b.toList=some c):b.map (λp=>(p.1,a.eval p.2))=c.toArray:=by have:=h.Rx d;apply Cz;simpa using this
def DT{s:Sem ce}(h:iO P s w k)(c:∀v b,k v b->next (a.put o.dst v) b):o.upon P a next Q ((do let v<-s;pure (Next.value v):Sem Next).run P w):=by obtain⟨v,b,d,e⟩:=h.out;simp only[Sem.run_bind,d,Result.andThen_ok,Sem.run_pure];exact c v b e
def X3{c:Sem Unit}(h:DR P c w s)(d:∀b,s b->next (a.put o.dst undef) b):o.upon P a next Q ((do c;pure Next.skip:Sem Next).run P w):=by obtain⟨b,e,f⟩:=h.out;simp only[Sem.run_bind,e,Result.andThen_ok,Sem.run_pure];exact d b f
def iz(O:n5 P T)(q:vE N l a)(h:GG P T ks l w o k s pan)(A:∀v C,k v C->next (a.put o.dst v) C)(L:∀C,s C->next (a.put o.dst undef) C)(R:∀c C,pan c C->Q (.panic c) a C):o.wp P a w next Q:=by
 unfold Oper.wp;unfold GG at h;split at h;case h_1 x p=>
  split at h;rename_i v j;simp only[execOp,p,q.eval j,Sem.run_pure];exact A _ _ h;exact h.elim
 case h_2 x p=>
  split at h;rename_i v j;simp only[execOp,p,q.eval j,Sem.run_pure];exact A _ _ h;exact h.elim
 case h_3 c x y p=>
  split at h;case h_1 b U=>
   have E:a.eval (.tmp c)=.bool b:=q.eval (x:=.tmp c) U;simp only[execOp,p,E,asBool,pure_bind,Sem.run_pure];split at h;cases b with
   |true=>
    simp only at h;split at h;rename_i v j;simp only[cX,q.eval j];exact A _ _ h;exact h.elim
   |false=>
    simp only at h;split at h;rename_i v j;simp only[iq,eo,q.eval j];exact A _ _ h;exact h.elim
   cases b with
   |true=>
    have h:=h.1 rfl;split at h;rename_i v j;simp only[cX,q.eval j];exact A _ _ h;exact h.elim
   |false=>
    have h:=h.2 rfl;split at h;rename_i v j;simp only[iq,eo,q.eval j];exact A _ _ h;exact h.elim
  case h_2=>exact h.elim
 case h_4 x p=>
  split at h;rename_i ad j;simp only[execOp,p,q.eval j,Sem.run_pure];exact A _ _ h;rename_i f u v j;simp only[execOp,p,q.eval j,Sem.run_pure];exact A _ _ h;exact h.elim
 case h_5 S x i p=>
  split at h;rename_i b G j;split at h;rename_i d V;simp only[execOp,p,q.eval j];exact DT (k:=k) ⟨_,_,O.off S i d V b G w,h⟩ A;exact h.elim;exact h.elim
 case h_6 x i p=>
  split at h;rename_i F j;split at h;rename_i v M;rw[x6]at M;have H:F[i]? =some v:=by simpa using M
  simp only[execOp,p,q.eval j];exact DT (k:=k) ⟨v,w,by simp only[Instr.extract,H,Sem.run_pure],h⟩ A;exact h.elim;exact h.elim
 case h_7 S x i p=>
  split at h;rename_i v j;simp only[execOp,p,q.eval j];exact DT h A;exact h.elim
 case h_8 t x p=>
  split at h;rename_i v j;simp only[execOp,p,q.eval j];exact DT h A;exact h.elim
 case h_9 t x y p=>
  split at h;rename_i v j;split at h;rename_i u B;simp only[execOp,p,q.eval j,q.eval B];exact X3 h L;exact h.elim;exact h.elim
 case h_10 t p=>simp only[execOp,p];exact DT h A
 case h_11 t x p=>
  split at h;rename_i v j;simp only[execOp,p,q.eval j];exact DT h A;exact h.elim
 case h_12 t D p=>
  split at h;rename_i v j;simp only[execOp,p,BD q j];exact DT h A;exact h.elim
 case h_13 t n D p=>
  split at h;rename_i v j;simp only[execOp,p,BD q j];exact DT h A;exact h.elim
 case h_14 b t x y r p=>
  split at h;rename_i v j;split at h;rename_i u B;simp only[execOp,p,q.eval j,q.eval B];exact DT h A;exact h.elim;exact h.elim
 case h_15 u t x p=>
  split at h;rename_i v j;simp only[execOp,p,q.eval j];exact DT h A;exact h.elim
 case h_16 fn first cap p=>
  split at h;rename_i xs W;split at h;rename_i ys X;simp only[execOp,p,pd q W,pd q X];exact DT (k:=k) ⟨_,_,by simp only[Instr.makeFunc,Sem.run_pure],h⟩ A;exact h.elim;exact h.elim
 case h_17 t r p=>
  split at h;rename_i v j;simp only[execOp,p,q.I1 j];exact DT h A;exact h.elim
 case h_18 t x y p=>
  split at h;rename_i v j;split at h;rename_i u B;simp only[execOp,p,q.eval j,q.eval B];exact DT h A;exact h.elim;exact h.elim
 case h_19 t x lo hi mx p=>
  split at h;rename_i v j;split at h;rename_i u B;split at h;rename_i u2 I;split at h;rename_i u3 J;simp only[execOp,p,q.eval j,q.I1 B,q.I1 I,q.I1 J];exact DT h A;exact h.elim;exact h.elim;exact h.elim;exact h.elim
 case h_20 t x y p=>
  split at h;rename_i v j;split at h;rename_i u B;simp only[execOp,p,q.eval j,q.eval B];exact DT h A;exact h.elim;exact h.elim
 case h_21 t x y p=>
  split at h;rename_i v j;split at h;rename_i u B;simp only[execOp,p,q.eval j,q.eval B];exact DT h A;exact h.elim;exact h.elim
 case h_22 t x y c p=>
  split at h;rename_i v j;split at h;rename_i u B;simp only[execOp,p,q.eval j,q.eval B];exact DT h A;exact h.elim;exact h.elim
 case h_23 t m x y p=>
  split at h;rename_i z Y;split at h;rename_i v j;split at h;rename_i u B;simp only[execOp,p,q.eval Y,q.eval j,q.eval B];exact X3 h L;exact h.elim;exact h.elim;exact h.elim
 case h_24 c p=>
  split at h;rename_i f E;split at h;rename_i g first cap hf
  split at h;rename_i F j;have Z:first++F.toArray++cap=(first.toList++(F++cap.toList)).toArray:=by apply Cz;simp
  simp only[execOp,p,resolve,E,Deferred.ofValue,q.eval hf,pd q j,pure_bind,invoke,Z,h.go,Oper.upon_enter];refine h.out.mono λe C K=>?_;cases e with
  |returned v=>exact A v C K
  |panicked ch=>exact R ch C K
  |outgrown=>exact K.elim
  exact h.elim;exact h.elim;rename_i b E;split at h;rename_i F j;obtain⟨v,C,hr,h'⟩:=h.out;simp only[execOp,p,resolve,E,pd q j,pure_bind,invoke];exact Eq.mpr (cM (o.upon P a next Q) hr) (A v C h');exact h.elim;exact h.elim
 case h_25 t u x p=>
  split at h;rename_i v j;simp only[execOp,p,q.eval j];exact DT h A;exact h.elim
 case h_26=>exact h.elim
def BE:List Oper->Nat->Option Nat
 |[],_=>none
 |o::_,0=>o.dst
 |_::r,n+1=>BE r n
def VF(N:Nat)(d:Option Nat)(X:Prop):Prop:=match d with
 |none=>X
 |some d=>match Nat.blt d N with
  |true=>X
  |false=>False
def wd(r:Option Nat):Fence:={Fence.wide with round:=r}
def Ng{r:Option Nat}{n:Nat}{a:Array ce}{w:cd}{R:Ending->cd->Prop}(h:Calls P K a w R):CallsIn (wd r) n P K a w R:=callsIn_wide.2 h
structure Zc(P:cf)(lp:Nat)(args:List ce)(w:cd)(k:ce->cd->Prop)(pan:List PanicEntry->cd->Prop):Prop where
 out:∃f tmps assign body,(Instr.yield lp args.toArray).run P w=.ok (.round lp f tmps assign body) w/\RoundIn Fence.wide 0 P lp f tmps assign body w λe w'=>match e with
  | .returned v=>k v w'
  | .panicked c=>pan c w'
  | .outgrown=>False
def Fo(P:cf)(T:BC)(ks:List Nat)(l:L)(w:cd)(o:Oper)(k:ce->cd->Prop)(s:cd->Prop)(pan:List PanicEntry->cd->Prop):Prop:=
 match o.op with
 | .call c=>(match c.callee with
  | .value f=>(match ev l f with
   |some (.func (.yield a) first _)=>(match evs l c.args.toList with
    |some b=>Zc P a (first.toList++b) w k pan
    |none=>False)
   |_=>GG P T ks l w o k s pan)
  |_=>GG P T ks l w o k s pan)
 |_=>GG P T ks l w o k s pan
theorem zl{r:Option Nat}{n:Nat}{x:Result Next}(h:o.upon P a next Q x):o.uponIn (wd r) n P a next Q x:=by
 have UH:((wd r).depth.isSome=true->1<=n):=λh=>by cases h
 cases x with
 |ok v w'=>
  cases v with
  |value v=>exact h
  |skip=>exact h
  |defer d=>exact h
  |enter f args=>exact⟨UH,(Ng h).mono λe w h=>by cases e<;>exact h⟩
  |row row args=>exact⟨UH,λc cs _=>let⟨v,w',r,s⟩:=h c cs;⟨v,w',r,stepsIn_wide.2 s⟩⟩
  |_=>exact h.elim
 |halt e w'=>
  cases e with
  |panic v=>exact h
  |_=>exact h.elim
def Fp(h:GG P T ks l w o k s pan):∀c,o.op≠ .defer c:=λc e=>by unfold GG at h;rw[e]at h;exact h
def Ht{r:Option Nat}(z:n5 P T)(m:vE N l a)(h:Fo P T ks l w o k s pan)(q:∀v d,k v d->next (a.put o.dst v) d)(A:∀d,s d->next (a.put o.dst undef) d)(t:∀c d,pan c d->Q (.panic c) a d):o.wpIn (wd r) 0 P a w next Q:=by
 have plain:GG P T ks l w o k s pan->o.wpIn (wd r) 0 P a w next Q:=λh=>by refine⟨λ_ _=>trivial,?_⟩;rw[Oper.semAt_eq _ _ _ (Fp h)];exact zl (iz z m h q A t)
 unfold Fo at h;split at h;rename_i c u;split at h;rename_i f B;split at h;rename_i x first cap hf
 split at h;rename_i y C;obtain⟨g,i,b,j,D,E⟩:=h.out;refine⟨λ_ _=>trivial,?_⟩;rw[Oper.semAt_eq _ _ _ (λc e=>by rw[u]at e;cases e)];have F:first++y.toArray=(first.toList++y).toArray:=by apply Cz;simp
 have e:Sem.run P (execOp a.eval o) w=.ok (.round x g i b j) w:=by simp only[execOp,u,resolve,B,Deferred.ofValue,m.eval hf,pd m C,pure_bind,invoke,F,D]
 rw[e]
 have n:RoundIn (wd r) (0-1) P x g i b j w λe d=>match e with
  | .returned v=>k v d
  | .panicked c=>pan c d
  | .outgrown=>False:=E
 refine⟨(λh=>by cases h),n.mono ?_⟩;intro e d p;cases e with
 |returned v=>exact q _ _ p
 |panicked c=>exact t _ _ p
 |outgrown=>exact p.elim
 exact h.elim;exact plain h;exact plain h;exact plain h
structure rp(ds:List Deferred)(N:Nat)(l:L)(a:Act):Prop where
 b:vE N l a
 d:a.defers=ds
def Fr.Zd{N:Nat}{l:L}{a:Act}(h:Fr N l a):rp [] N l a:=⟨h.b,h.defers⟩
def rp.fr{N:Nat}{l:L}{a:Act}(h:rp [] N l a):Fr N l a:=⟨h.b.size,h.d,h.b.at_⟩
theorem vE.put{N:Nat}{l:L}{a:Act}(h:vE N l a)(d:Option Nat)(v:ce)(b:∀t,d=some t->t<N):vE N (ins N d v l) (a.put d v):=by have c:Fr N l ⟨a.tmps,[]⟩:=⟨h.size,rfl,h.at_⟩;have:=c.put d v b;cases d<;>exact⟨this.size,this.at_⟩
theorem vE.zk{N:Nat}{l:L}{a:Act}(h:vE N l a){d:Nat}{v:ce}(b:lk l d=some v):vE N ((d,v)::l) a:=by have c:Fr N l ⟨a.tmps,[]⟩:=⟨h.size,rfl,h.at_⟩;have:=c.zk b;exact⟨this.size,this.at_⟩
theorem rp.put{c:List Deferred}{N:Nat}{l:L}{a:Act}(h:rp c N l a)(d:Option Nat)(v:ce)(e:∀t,d=some t->t<N):rp c N (ins N d v l) (a.put d v):=⟨h.b.put d v e,(tA _ _ _).trans h.d⟩
theorem rp.zk{c:List Deferred}{N:Nat}{l:L}{a:Act}(h:rp c N l a){d:Nat}{v:ce}(e:lk l d=some v):rp c N ((d,v)::l) a:=⟨h.b.zk e,h.d⟩
def rp.sub{c:List Deferred}{N:Nat}{l e:L}{a:Act}(h:rp c N l a)(f:Sub e l):rp c N e a:=⟨⟨h.b.size,λt v g=>h.b.at_ t v (f.lk g)⟩,h.d⟩
def pK(P:cf)(T:BC)(N:Nat)(K:L->cd->Prop)(pan:L->List PanicEntry->cd->Prop)(a:List Oper):List Oper->List Nat->L->cd->Prop
 |[],_,l,w=>K l w
 |o::r,ks,l,w=>VF N o.dst (match o.guard with
  |none=>Fo P T ks l w o (λv c=>pK P T N K pan a r ks (ins N o.dst v l) c) (λc=>pK P T N K pan a r ks (ins N o.dst undef l) c) (pan l)
  |some (g,e)=>match BE a g with
   |none=>False
   |some d=>match lk l d with
    |some (.bool b)=>(match mem d ks with
     |true=>(match b,e with
      |true,true=>Fo P T ks l w o (λv c=>pK P T N K pan a r ks (ins N o.dst v l) c) (λc=>pK P T N K pan a r ks (ins N o.dst undef l) c) (pan l)
      |false,false=>Fo P T ks l w o (λv c=>pK P T N K pan a r ks (ins N o.dst v l) c) (λc=>pK P T N K pan a r ks (ins N o.dst undef l) c) (pan l)
      |_,_=>pK P T N K pan a r ks (ins N o.dst undef l) w)
     |false=>(b=true->match e with
      |true=>Fo P T (d::ks) ((d,.bool true)::l) w o (λv c=>pK P T N K pan a r (d::ks) (ins N o.dst v ((d,.bool true)::l)) c) (λc=>pK P T N K pan a r (d::ks) (ins N o.dst undef ((d,.bool true)::l)) c) (pan ((d,.bool true)::l))
      |false=>pK P T N K pan a r (d::ks) (ins N o.dst undef ((d,.bool true)::l)) w)/\
      (b=false->match e with
       |false=>Fo P T (d::ks) ((d,.bool false)::l) w o (λv c=>pK P T N K pan a r (d::ks) (ins N o.dst v ((d,.bool false)::l)) c) (λc=>pK P T N K pan a r (d::ks) (ins N o.dst undef ((d,.bool false)::l)) c) (pan ((d,.bool false)::l))
       |true=>pK P T N K pan a r (d::ks) (ins N o.dst undef ((d,.bool false)::l)) w))
    |some (.tuple _)=>pK P T N K pan a r ks (ins N o.dst undef l) w
    |_=>False)
def I2{X:Prop}{d:Option Nat}(h:VF N d X):X/\∀t,d=some t->t<N:=by
 cases d with
 |none=>exact⟨h,λ_ e=>by cases e⟩
 |some d=>
  simp only[VF]at h;split at h;rename_i a;exact⟨h,λt e=>by cases e;simpa[Nat.blt_eq]using a⟩;exact h.elim
theorem pf:∀(l:List Oper) (g:Nat),BE l g=(l[g]?).bind (·.dst)
 |[],_=>rfl
 |_::_,0=>rfl
 |_::r,n+1=>(pf r n).trans (by simp)
def wZ{b:Array Oper}{a:Act}{g d:Nat}{e:Array ce}(f:(b[g]?).bind (·.dst)=some d)(c:a.eval (.tmp d)=.tuple e):yielded b a.tmps g=none:=by
 rw[kH]at c;unfold yielded;rw[f];simp only[vI];cases h:a.tmps[d]? with
 |none=>rfl
 |some x=>rw[h]at c;simp at c;subst c;rfl
theorem nu{r0:Option Nat}{ds:List Deferred}(B:n5 P T){K:L->cd->Prop}{pan:L->List PanicEntry->cd->Prop}{e:Array Oper}(C:∀l a w,rp ds N l a->K l w->Q .normal a w)(D:∀l c a w,rp ds N l a->pan l c w->Q (.panic c) a w):∀(r:List Oper) (i:Nat) (ks:List Nat) (l:L) (a:Act) (w:cd),(∀j,r[j]? =e[i+j]?)->rp ds N l a->pK P T N K pan e.toList r ks l w->wpOpsIn (wd r0) 0 P e Q (List.range' i r.length) a w
 |[],i,ks,l,a,w,_,f,h=>C l a w f h
 |o::r,i,ks,l,a,w,H,f,h=>by
  have I:e[i]? =some o:=(H 0).symm;have t:∀j,r[j]? =e[i+1+j]? :=λj=>by have:=H (j+1);simpa[yz,Nat.add_comm 1 j]using this
  obtain⟨h,F⟩:=I2 h
  have p:∀ks l,rp ds N l a->Region.wanted o (yielded e a.tmps)=true->Fo P T ks l w o (λv s=>pK P T N K pan e.toList r ks (ins N o.dst v l) s) (λs=>pK P T N K pan e.toList r ks (ins N o.dst undef l) s) (pan l)->
   wpOpsIn (wd r0) 0 P e Q (List.range' i (o::r).length) a w:=by
   intro ks l f n h;rw[dW,Rc];simp only[wpOpsIn,I,n,cX];refine(Ht B f.b h (λv s u=>?_) (λs u=>?_) λc s u=>D l c a s f u);exact nu B C D r (i+1) ks _ _ s t (f.put o.dst v F) u;exact nu B C D r (i+1) ks _ _ s t (f.put o.dst undef F) u
  have skip:∀ks l,rp ds N l a->Region.wanted o (yielded e a.tmps)=false->pK P T N K pan e.toList r ks (ins N o.dst undef l) w->wpOpsIn (wd r0) 0 P e Q (List.range' i (o::r).length) a w:=by intro ks l f n h;rw[dW,Rc];simp only[wpOpsIn,I,n,iq,eo];refine⟨λ_ _=>trivial,?_⟩;exact nu B C D r (i+1) ks _ _ w t (f.put o.dst undef F) h
  split at h;rename_i E;exact p ks l f (by simp[Region.wanted,E]) h;rename_i g m E;split at h;exact h.elim;rename_i d y;rw[pf]at y;have z:(e[g]?).bind (·.dst)=some d:=by simpa using y
  split at h;rename_i b A;have k:a.eval (.tmp d)=.bool b:=f.b.at_ d _ A;have G:yielded e a.tmps g=some b:=by
   rw[kH]at k;unfold yielded;rw[z];simp only[vI];cases J:a.tmps[d]? with
   |none=>rw[J]at k;simp[undef]at k
   |some x=>rw[J]at k;simp at k;subst k;rfl
  have n:Region.wanted o (yielded e a.tmps)=(b==m):=by simp[Region.wanted,E,G]
  split at h;cases b<;>cases m<;>simp only at h;exact p ks l f (by rw[n];rfl) h;exact skip ks l f (by rw[n];rfl) h;exact skip ks l f (by rw[n];rfl) h;exact p ks l f (by rw[n];rfl) h;cases b with
  |true=>
   have h:=h.1 rfl;have q:=f.zk A;cases m with
   |true=>simp only at h;exact p (d::ks) ((d,.bool true)::l) q (by rw[n];rfl) h
   |false=>exact skip (d::ks) ((d,.bool true)::l) q (by rw[n];rfl) h
  |false=>
   have h:=h.2 rfl;have q:=f.zk A;cases m with
   |true=>exact skip (d::ks) ((d,.bool false)::l) q (by rw[n];rfl) h
   |false=>simp only at h;exact p (d::ks) ((d,.bool false)::l) q (by rw[n];rfl) h
  rename_i M A;have k:a.eval (.tmp d)=.tuple M:=f.b.at_ d _ A;have G:yielded e a.tmps g=none:=wZ z k;exact skip ks l f (by simp[Region.wanted,E,G]) h;exact h.elim
end
abbrev QW:=Exit->L->cd->Prop
def lift(N:Nat)(Q:QW):Exit->Act->cd->Prop:=λe a w=>∃l,Fr N l a/\Q e l w
def Ry(K:L->cd->Prop)(Q:QW):QW
 | .normal,l,w=>K l w
 | .exit i,l,w=>Q (.exit i) l w
 | .goto i,l,w=>Q (.goto i) l w
 | .ret,l,w=>Q .ret l w
 | .panic c,l,w=>Q (.panic c) l w
 | .outgrown,l,w=>Q .outgrown l w
def kJ(a:Nat)(Q:QW):QW
 | .exit i,l,w=>match Nat.beq i a with
  |true=>Q .normal l w
  |false=>Q (.exit i) l w
 | .normal,l,w=>Q .normal l w
 | .goto i,l,w=>Q (.goto i) l w
 | .ret,l,w=>Q .ret l w
 | .panic c,l,w=>Q (.panic c) l w
 | .outgrown,l,w=>Q .outgrown l w
structure kq(P:cf)(N:Nat)(c:Code)(l:L)(w:cd)(Q:QW):Prop where
 out:∀a,Fr N l a->c.wp P (lift N Q) a w
def WC(P:cf)(T:BC)(N:Nat):Code->QW->L->cd->Prop
 | .skip,Q,l,w=>Q .normal l w
 | .label _,Q,l,w=>Q .normal l w
 | .ret,Q,l,w=>Q .ret l w
 | .exit i,Q,l,w=>Q (.exit i) l w
 | .goto i,Q,l,w=>Q (.goto i) l w
 | .region i a d,Q,l,w=>(match d with
  |false=>pK P T N (Q .normal) (λl c w=>Q (.panic c) l w) a.toList a.toList [] l w
  |true=>kq P N (.region i a true) l w Q)
 | .seq x y,Q,l,w=>WC P T N x (Ry (WC P T N y Q) Q) l w
 | .cond c x y,Q,l,w=>(match ev l c with
  |some (.bool b)=>(b=true->WC P T N x Q l w)/\(b=false->WC P T N y Q l w)
  |_=>False)
 | .block i c,Q,l,w=>(match c with
  | .loop h=>kq P N (.block i (.loop h)) l w Q
  | .rangeFunc f e g b=>kq P N (.block i (.rangeFunc f e g b)) l w Q
  |_=>WC P T N c (kJ i Q) l w)
 | .loop c,Q,l,w=>kq P N (.loop c) l w Q
 | .scope c,Q,l,w=>kq P N (.scope c) l w Q
 | .rangeFunc f e g b,Q,l,w=>kq P N (.rangeFunc f e g b) l w Q
 | .refuse _,_,_,_=>False
theorem hZ{P:cf}{T:BC}{N:Nat}(p:n5 P T):∀(c:Code) (Q:QW) (l:L) (a:Act) (w:cd),Fr N l a->WC P T N c Q l w->c.wp P (lift N Q) a w
 | .skip,Q,l,a,w,g,h=>wp_skip ⟨l,g,h⟩
 | .label _,Q,l,a,w,g,h=>wp_label ⟨l,g,h⟩
 | .ret,Q,l,a,w,g,h=>wp_ret ⟨l,g,h⟩
 | .exit i,Q,l,a,w,g,h=>wp_exit ⟨l,g,h⟩
 | .goto i,Q,l,a,w,g,h=>wp_goto ⟨l,g,h⟩
 | .region i r d,Q,l,a,w,g,h=>by
  cases d with
  |true=>exact kq.out h a g
  |false=>
   refine wpIn_wide.1 (wpIn_region (n:=0) ?_);have:=nu (r0:=none) (ds:=[]) p (Q:=lift N Q) (λl a w g s=>⟨l,g.fr,s⟩) (λl c a w g s=>⟨l,g.fr,s⟩) r.toList 0 [] l a w (λj=>by simp) g.Zd h;rw[Array.length_toList,<-List.range_eq_range']at this;exact this
 | .seq x y,Q,l,a,w,g,h=>by
  refine jU (lV (hZ p x _ l a w g h) ?_);rintro e v z ⟨q,k,m⟩;cases e with
  |normal=>exact hZ p y Q q v z k m
  |_=>exact⟨q,k,m⟩
 | .cond c x y,Q,l,a,w,g,h=>by simp only[WC]at h;split at h;rename_i b t;refine wp_cond_split (g.eval t) (λA=>?_) λB=>?_;exact hZ p x Q l a w g (h.1 A);exact hZ p y Q l a w g (h.2 B);exact h.elim
 | .block i c,Q,l,a,w,g,h=>by
  have u:WC P T N c (kJ i Q) l w->(Code.block i c).wp P (lift N Q) a w:=λh=>by
   refine wp_block (lV (hZ p c _ l a w g h) ?_);rintro e v z ⟨q,k,m⟩;cases e with
   |exit j=>
    simp only[Exit.inBlock];simp only[kJ]at m;by_cases o:j=i;subst o;rw[cx rfl];rw[yA]at m;exact⟨q,k,m⟩;rw[cr o];have:Nat.beq j i=false:=by
     cases t:Nat.beq j i with
     |false=>rfl
     |true=>exact absurd (gE t) o
    rw[this]at m;exact⟨q,k,m⟩
   |_=>exact⟨q,k,m⟩
  cases c with
  |loop E=>exact kq.out h a g
  |rangeFunc f C D b=>exact kq.out h a g
  |_=>exact u h
 | .loop c,Q,l,a,w,g,h=>kq.out h a g
 | .scope c,Q,l,a,w,g,h=>kq.out h a g
 | .rangeFunc f C D b,Q,l,a,w,g,h=>kq.out h a g
 | .refuse _,_,_,_,_,_,h=>h.elim
def flat:Code->Bool
 | .region _ _ d=>!d
 | .seq x y=>flat x&&flat y
 | .cond _ x y=>flat x&&flat y
 | .block _ c=>flat c
 | .loop _=>false
 | .scope _=>false
 | .rangeFunc _ _ _ _=>false
 |_=>true
def Nh(b:List Deferred)(N:Nat)(Q:QW):Exit->Act->cd->Prop:=λe a w=>∃l,rp b N l a/\Q e l w
theorem j8{P:cf}{T:BC}{N:Nat}{r:Option Nat}{ds:List Deferred}(p:n5 P T):∀(c:Code) (Q:QW) (l:L) (a:Act) (w:cd),flat c=true->rp ds N l a->WC P T N c Q l w->c.wpIn (wd r) 0 P (Nh ds N Q) a w
 | .skip,Q,l,a,w,_,g,h=>wpIn_skip ⟨l,g,h⟩
 | .label _,Q,l,a,w,_,g,h=>wpIn_label ⟨l,g,h⟩
 | .ret,Q,l,a,w,_,g,h=>wpIn_ret ⟨l,g,h⟩
 | .exit i,Q,l,a,w,_,g,h=>wpIn_exit ⟨l,g,h⟩
 | .goto i,Q,l,a,w,_,g,h=>wpIn_goto ⟨l,g,h⟩
 | .region i s d,Q,l,a,w,k,g,h=>by
  cases d with
  |true=>cases k
  |false=>
   refine wpIn_region ?_;have:=nu (r0:=r) (ds:=ds) p (Q:=Nh ds N Q) (λl a w g t=>⟨l,g,t⟩) (λl c a w g t=>⟨l,g,t⟩) s.toList 0 [] l a w (λj=>by simp) g h;rw[Array.length_toList,<-List.range_eq_range']at this;exact this
 | .seq x y,Q,l,a,w,k,g,h=>by
  simp only[flat,ez]at k;refine wpIn_seq (wpIn_mono (j8 p x _ l a w k.1 g h) ?_);rintro e z A ⟨q,m,n⟩;cases e with
  |normal=>exact j8 p y Q q z A k.2 m n
  |_=>exact⟨q,m,n⟩
 | .cond c x y,Q,l,a,w,k,g,h=>by simp only[flat,ez]at k;simp only[WC]at h;split at h;rename_i b u;refine wpIn_cond_split (g.b.eval u) (λB=>?_) λC=>?_;exact j8 p x Q l a w k.1 g (h.1 B);exact j8 p y Q l a w k.2 g (h.2 C);exact h.elim
 | .block i c,Q,l,a,w,k,g,h=>by
  have v:flat c=true->WC P T N c (kJ i Q) l w->(Code.block i c).wpIn (wd r) 0 P (Nh ds N Q) a w:=λk h=>by
   refine wpIn_block (wpIn_mono (j8 p c _ l a w k g h) ?_);rintro e z A ⟨q,m,n⟩;cases e with
   |exit j=>
    simp only[Exit.inBlock];simp only[kJ]at n;by_cases o:j=i;subst o;rw[cx rfl];rw[yA]at n;exact⟨q,m,n⟩;rw[cr o];have:Nat.beq j i=false:=by
     cases u:Nat.beq j i with
     |false=>rfl
     |true=>exact absurd (gE u) o
    rw[this]at n;exact⟨q,m,n⟩
   |_=>exact⟨q,m,n⟩
  cases c with
  |loop F=>cases k
  |rangeFunc f D E b=>cases k
  |_=>exact v k h
 | .loop c,Q,l,a,w,k,g,h=>by cases k
 | .scope c,Q,l,a,w,k,g,h=>by cases k
 | .rangeFunc f D E b,Q,l,a,w,k,g,h=>by cases k
 | .refuse _,_,_,_,_,_,_,h=>h.elim
def Fq(P:cf):List ResultVar->L->cd->(List ce->Prop)->Prop
 |[],_,_,k=>k []
 | .tmp t::r,l,w,k=>match lk l t with
  |some v=>Fq P r l w λa=>k (v::a)
  |none=>False
 | .cell t b::r,l,w,k=>match lk l t with
  |some (.pointer (some c))=>∃v,Sem.run P (loadVar b c) w=.ok v w/\Fq P r l w λa=>k (v::a)
  |_=>False
def one(a:List ce):ce:=match a with
 |[v]=>v
 |a=>.tuple a.toArray
def QR(P:cf)(b:List ResultVar)(R:Ending->cd->Prop):QW
 | .normal,l,w=>Fq P b l w λa=>R (.returned (one a)) w
 | .ret,l,w=>Fq P b l w λa=>R (.returned (one a)) w
 | .panic c,_,w=>R (.panicked c) w
 |_,_,_=>False
def Kd(a:Array ce):ResultVar->Sem ce
 | .tmp t=>pure (a.getD t undef)
 | .cell x t=>do loadVar t (<-asAddr (a.getD x undef))
theorem zm{P:cf}{N:Nat}{a:Act}{w:cd}:∀(m:List ResultVar) (l:L) (k:List ce->Prop),Fr N l a->Fq P m l w k->∃c,Sem.run P (m.mapM (Kd a.tmps)) w=.ok c w/\k c
 |[],l,k,d,h=>⟨[],by simp[Sem.run_pure],h⟩
 | .tmp t::r,l,k,d,h=>by simp only[Fq]at h;split at h;rename_i v e;obtain⟨c,f,g⟩:=zm r l _ d h;have b:Kd a.tmps (.tmp t)=pure v:=cM pure (d.at_ t v e);refine⟨v::c,?_,g⟩;rw[List.mapM_cons,b];simp only[Sem.run_bind,Sem.run_pure,Result.andThen_ok,f];exact h.elim
 | .cell t i::r,l,k,d,h=>by
  simp only[Fq]at h;split at h;rename_i n e;obtain⟨v,o,h⟩:=h;obtain⟨c,f,g⟩:=zm r l _ d h;have b:a.tmps.getD t undef=.pointer (some n):=d.at_ t _ e;have j:Kd a.tmps (.cell t i)=loadVar i n:=by show(do loadVar i (<-asAddr (a.tmps.getD t undef)))=_;rw[b];rfl
  refine⟨v::c,?_,g⟩;rw[List.mapM_cons,j];simp only[Sem.run_bind,o,Result.andThen_ok,f,Sem.run_pure];exact h.elim
def zn(b:Func)(c:Array ce):results b c=(do let a<-b.results.mapM (Kd c);pure (if h:a.size=1 then a[0]else .tuple a)):=by unfold results;congr 1
def Rz{P:cf}{k:Func}{c:Code}{b:List ce}{w:cd}{R:Ending->cd->Prop}(N:Nat)(h:kq P N c (b.zipIdx.map λp=>(p.2,p.1)) w (QR P k.results.toList R))(a:Act)(z:a.tmps.size=N)(d:a.defers=[])(C:∀i v,b.toArray[i]? =some v->a.eval (.tmp i)=v):c.wp P (bodyPost P k R) a w:=by
 have D:Fr N (b.zipIdx.map λp=>(p.2,p.1)) a:=by
  refine⟨z,d,λt v E=>?_⟩;refine C t v ?_
  have s:∀(m:List ce) (n:Nat),lk ((m.zipIdx n).map λp=>(p.2,p.1)) t=some v->n<=t/\m[t-n]? =some v:=by
   intro m;induction m with
   |nil=>intro n h;cases h
   |cons x r F=>
    intro n h;simp only[List.zipIdx_cons,jP,lk]at h;cases o:Nat.beq n t with
    |true=>
     rw[o]at h;have:n=t:=gE o;subst this;exact⟨cz _,by simpa using h⟩
    |false=>
     rw[o]at h;have G:n≠t:=vH o;obtain⟨B,u⟩:=F (n+1) h;refine⟨by omega,?_⟩;have:t-n=(t-(n+1))+1:=by omega
     rw[this];simpa using u
  have:=(s b 0 E).2;simpa using this
 refine lV (h.out a D) ?_;rintro e A g ⟨H,j,f⟩
 have l:Fq P k.results.toList H g (λq=>R (.returned (one q)) g)->A.defers=[]/\∃v,(results k A.tmps).run P g=.ok v g/\R (.returned v) g:=λf=>by
  obtain⟨q,B,u⟩:=zm _ _ _ j f;refine⟨j.defers,_,?_,u⟩;rw[zn,Sem.run_bind];have I:Sem.run P (k.results.mapM (Kd A.tmps)) g=.ok q.toArray g:=by rw[Iz,Sem.run_map,B];rfl
  rw[I];simp only[Result.andThen_ok,Sem.run_pure];congr 1;rcases q with _|⟨x,_|⟨y,r⟩⟩;rfl;rfl;simp[one]
 cases e with
 |normal=>exact l f
 |ret=>exact l f
 |panic c=>exact⟨j.defers,f⟩
 |exit i=>exact f.elim
 |goto i=>exact f.elim
 |outgrown=>exact f.elim
def RA{P:cf}{a:Func}{c:Code}{args:List ce}{w:cd}{R:Ending->cd->Prop}(N:Nat)
 (d:P.funcs[K]? =some a)(e:a.body=some c)(f:a.ntmps=N)(b:args.length<=N)(h:kq P N c (args.zipIdx.map λp=>(p.2,p.1)) w (QR P a.results.toList R)):Calls P K args.toArray w R:=
 Nc N d e f (Rz N h) (by simpa using b)
def UI{P:cf}{T:BC}(e:n5 P T){b:Func}{c:Code}{args:List ce}{w:cd}{R:Ending->cd->Prop}(N:Nat)
 (f:P.funcs[K]? =some b)(g:b.body=some c)(i:b.ntmps=N)(d:args.length<=N)(h:WC P T N c (QR P b.results.toList R) (args.zipIdx.map λp=>(p.2,p.1)) w):Calls P K args.toArray w R:=
 RA N f g i d ⟨λa j=>hZ e c _ _ a w j h⟩
theorem kq.seq{P:cf}{T:BC}(g:n5 P T){N:Nat}{x y:Code}{l:L}{w:cd}{Q:QW}(h:WC P T N x (Ry (λc d=>kq P N y c d Q) Q) l w):kq P N (.seq x y) l w Q:=⟨λa i=>by
 refine jU (lV (hZ g x _ l a w i h) ?_);rintro e j d ⟨c,b,f⟩;cases e with
 |normal=>exact f.out j b
 |_=>exact⟨c,b,f⟩⟩
def kq.of{P:cf}{T:BC}(b:n5 P T){N:Nat}{c:Code}{l:L}{w:cd}{Q:QW}(h:WC P T N c Q l w):kq P N c l w Q:=⟨λa d=>hZ b c _ l a w d h⟩
def Hu(ops:Array Oper)(o:Oper):List Nat:=o.after.toList.filterMap λe=>if Region.binds .any e then(ops[e.on]?).bind (·.dst)else none
def gR(ops:Array Oper)(o:Oper)(a:Act):ce:=.tuple ((Hu ops o).map λt=>a.eval (.tmp t)).toArray
def C1{ops:Array Oper}{o:Oper}{a b:Act}(h:∀t∈Hu ops o,a.eval (.tmp t)=b.eval (.tmp t)):gR ops o a=gR ops o b:=by unfold gR;rw[List.map_congr_left h]
def Ke{ops:Array Oper}{o:Oper}{a b:Act}(h:gR ops o a=gR ops o b){t:Nat}(c:t∈Hu ops o):a.eval (.tmp t)=b.eval (.tmp t):=by
 unfold gR at h;have d:((Hu ops o).map λt=>a.eval (.tmp t))=(Hu ops o).map λt=>b.eval (.tmp t):=by injection h with h;simpa using cM Array.toList h
 exact List.map_inj_left.1 d t c
def lN(ops:Array Oper)(N m:Nat):Bool:=
 (List.range ops.size).all (λi=>match ops[i]? with
  |some o=>(o.after.all λe=>decide (e.on<i)||!Region.binds .any e)&&(match o.dst with|some d=>decide (d<N)&&(List.range ops.size).all (λj=>decide (j=i)||match ops[j]? with|some a=>a.dst !=some d|none=>true)|none=>true)
  |none=>true)&&((decide (m=ops.size)||(List.range m).all λj=>(List.range (m+1)).any λk=>decide (j<k)&&waits ops k j)&&(decide (m=ops.size)||decide (m+1=ops.size)))
section
variable{P:cf}{ops:Array Oper}{Q:Exit->Act->cd->Prop}{a0:Act}{w0:cd}{N m sp:Nat}{sS:Bool->Nat->ce->cd->Prop}{E E':cd->cd->Prop}{Rch:Bool->cd->Prop}
structure C2(Rch:Bool->cd->Prop)(sp:Nat)(ops:Array Oper)(a0:Act)(N m:Nat)(sS:Bool->Nat->ce->cd->Prop)(L:Array Bool)(a:Act)(w:cd):Prop where
 size:a.tmps.size=N
 defers:a.defers=a0.defers
 keep:∀j,wrote ops j=false->a.eval (.tmp j)=a0.eval (.tmp j)
 val:∀i o d,i<m->L.getD i false=true->ops[i]? =some o->o.dst=some d->sS (L.getD sp false) i (a.eval (.tmp d)) w
 ext:Rch (L.getD sp false) w
 tail:∀i,m<=i->L.getD i false=false
 closed:∀i j,L.getD i false=true->waits ops i j=true->L.getD j false=true
 valn:∀i o,i<m->L.getD i false=true->ops[i]? =some o->o.dst=none->sS (L.getD sp false) i (gR ops o a) w
 fresh:∀j,(∀k o,L.getD k false=true->ops[k]? =some o->o.dst≠some j)->a.eval (.tmp j)=a0.eval (.tmp j)
def Before(ops:Array Oper)(i j:Nat):Prop:=∀k o,ops[k]? =some o->o.dst=some j->waits ops k i=true
def Kf{ops:Array Oper}{i j:Nat}(h:wrote ops j=false):Before ops i j:=λk o a b=>by have:wrote ops j=true:=sE.2 ⟨o,l7 a,by rw[b];simp⟩;rw[this]at h;cases h
def RB(ops:Array Oper)(k i:Nat):Prop:=waits ops k i=true\/∃j,waits ops k j=true/\waits ops j i=true
def mJ(E E':cd->cd->Prop)(Rch:Bool->cd->Prop)(sp:Nat)(P:cf)(ops:Array Oper)(Q:Exit->Act->cd->Prop)(a0:Act)(N:Nat)(sS:Bool->Nat->ce->cd->Prop)(i:Nat)(o:Oper):Prop:=
 ∀b a w,(i=sp\/RB ops sp i->b=false)->a.tmps.size=N->a.defers=a0.defers->(∀j,Before ops i j->a.eval (.tmp j)=a0.eval (.tmp j))->
  (∀j d,(o.after.any λe=>e.on==j&&Region.binds .any e)=true->((ops[j]?).bind (·.dst))=some d->sS b j (a.eval (.tmp d)) w)->Rch b w->
  wpOp P ops Q i (λf c=>∃v,f=a.put o.dst v/\(if i=sp then E' w c else E w c)/\sS (b||decide (i=sp)) i v c/\(o.dst=none->v=gR ops o a)) a w
def rq(Rch:Bool->cd->Prop)(P:cf)(ops:Array Oper)(Q:Exit->Act->cd->Prop)(a0:Act)(N m:Nat)(sS:Bool->Nat->ce->cd->Prop):Prop:=
 ∀b a w,a.tmps.size=N->a.defers=a0.defers->(∀j,wrote ops j=false->a.eval (.tmp j)=a0.eval (.tmp j))->(∀i d,i<m->((ops[i]?).bind (·.dst))=some d->sS b i (a.eval (.tmp d)) w)->(∀i o,i<m->ops[i]? =some o->o.dst=none->sS b i (gR ops o a) w)->Rch b w->
  (m=ops.size->Q .normal a w)/\(m+1=ops.size->wpOp P ops Q m (λc e=>Q .normal c e) a w)
structure RD(E E':cd->cd->Prop)(Rch:Bool->cd->Prop)(sS:Bool->Nat->ce->cd->Prop):Prop where
 v:∀b i v w w',sS b i v w->E w w'->sS b i v w'
 x:∀i v w w',sS false i v w->E' w w'->sS true i v w'
 r:∀b w w',Rch b w->E w w'->Rch b w'
 rx:∀w w',Rch false w->E' w w'->Rch true w'
def C2.next(U:lN ops N m=true)(M:RD E E' Rch sS){L:Array Bool}{a:Act}{w:cd}(f:C2 Rch sp ops a0 N m sS L a w)(hL:L.size=ops.size){i:Nat}{o:Oper}(y:ops[i]? =some o)(hm:i<m)
 {v:ce}{F:cd}(q:if i=sp then E' w F else E w F)(V:sS (L.getD sp false||decide (i=sp)) i v F)(O:o.dst=none->v=gR ops o a)(z:L.getD i false=false)(A:∀j,waits ops i j=true->L.getD j false=true):C2 Rch sp ops a0 N m sS (L.setIfInBounds i true) (a.put o.dst v) F:=by
 have G:(L.setIfInBounds i true).getD sp false=(L.getD sp false||decide (i=sp)):=by rw[hH _ _ _ (by have:=(eP.1 y).1;omega)];by_cases e:i=sp;simp[e];simp[e]
 have last:∀k u,sS (L.getD sp false) k u w->sS (L.getD sp false||decide (i=sp)) k u F:=λk u h=>by by_cases e:i=sp;subst e;rw[cx rfl]at q;rw[z]at h⊢;simpa using M.x _ _ _ _ h q;rw[cr e]at q;simpa[e]using M.v _ _ _ _ _ h q
 have W:i<ops.size:=(eP.1 y).1;simp only[lN,ez]at U;have g:=jF.1 U.1 i (eJ.2 W);rw[y]at g;simp only[ez]at g;refine⟨by rw[lZ,f.size],by rw[tA,f.defers],λj p=>?_,λk B d l c b s=>?_,?_,λk l=>?_,λk j l p=>?_,λk B l c b s=>?_,λj p=>?_⟩;rw[pI,f.keep j p];intro e;have:wrote ops j=true:=sE.2 ⟨o,l7 y,by rw[e];simp⟩;rw[this]at p;cases p;rw[G];rw[hH _ _ _ (by omega)]at c;by_cases e:i=k;subst e;rw[y]at b;obtain rfl:=cE b;rw[s,uD];exact V;have n:=g.2;rw[s]at n;simp only[ez,jk]at n;rw[f.size];exact n.1;rw[cr e]at c;have P:k<ops.size:=(eP.1 b).1;rw[pI];exact last _ _ (f.val k B d l c b s);intro Q;have n:=g.2;rw[Q]at n;simp only[ez,jk]at n;have H:=jF.1 n.2 k (eJ.2 P);rw[b]at H;simp[s,fO e]at H;rw[G];have I:=f.ext;by_cases e:i=sp;subst e;rw[cx rfl]at q;rw[z]at I⊢;simpa using M.rx _ _ I q;rw[cr e]at q;simpa[e]using M.r _ _ _ I q;rw[hH _ _ _ (by omega),cr (by omega)];exact f.tail k l;rw[hH _ _ _ (by omega)]at l⊢;split;rfl;by_cases e:i=k;subst e;exact A j p;rw[cr e]at l;exact f.closed k j l p;rw[G];rw[hH _ _ _ (by omega)]at c;by_cases e:i=k;subst e;rw[y]at b;obtain rfl:=cE b;have X:gR ops o (a.put o.dst v)=gR ops o a:=by rw[s];rfl
 rw[X,<-O s];exact V;rw[cr e]at c;have C:gR ops B (a.put o.dst v)=gR ops B a:=by
  refine C1 λt Y=>?_;obtain⟨x,I,D⟩:=List.mem_filterMap.1 Y;split at D;rename_i G;refine pI _ _ _ _ λQ=>?_;have Z:waits ops k x.on=true:=by unfold waits;rw[b];exact sE.2 ⟨x,by simpa using I,by simp[G]⟩
  have J:=f.closed k x.on c Z;have R:i≠x.on:=λh=>by rw[<-h,z]at J;cases J
  obtain⟨o2,K,S⟩:=ti.1 D;have T:x.on<ops.size:=(eP.1 K).1;have n:=g.2;rw[Q]at n;simp only[ez,jk]at n;have H:=jF.1 n.2 x.on (eJ.2 T);rw[K]at H;simp[S,fO R]at H;cases D
 rw[C];exact last _ _ (f.valn k B l c b s);rw[pI _ _ _ _ λe=>p i o (by rw[hH _ _ _ (by omega),cx rfl]) y e];refine f.fresh j λk B l b=>p k B ?_ b;rw[hH _ _ _ (by omega)];split;rfl;exact l
def xL{id:Nat}(hm:P.follows .mixedOrders=true)(U:lN ops N m=true)(hV:RD E E' Rch sS)(h0:Rch false w0.drew)(hN:a0.tmps.size=N) (hs:∀i o,i<m->ops[i]? =some o->mJ E E' Rch sp P ops Q a0 N sS i o)(h1:rq Rch P ops Q a0 N m sS):(Code.region id ops true).wp P Q a0 w0:=by
 refine wp_region_any hm ?_;have V:m=ops.size\/m+1=ops.size:=by simp only[lN,ez,L4,jk]at U;exact U.2.2
 have an:m<=ops.size:=by omega
 have M:m+1=ops.size->∀j,j<m->∃k,j<k/\k<=m/\waits ops k j=true:=λao j f=>by have h:=U;simp only[lN,ez]at h;rcases L4 _ _▸h.2.1 with h|h;have:=cY h;omega;have W:=jF.1 h j (eJ.2 f);obtain⟨k,hk,H⟩:=List.any_eq_true.1 W;simp only[ez,jk]at H;have:=eJ.1 hk;exact⟨k,H.1,by omega,H.2⟩
 have z:∀(i:Nat) (o:Oper),ops[i]? =some o->∀e∈o.after,Region.binds .any e=true->e.on<i:=λi o r e I hb=>by have q:i<ops.size:=(eP.1 r).1;have X:=U;simp only[lN,ez]at X;have O:=jF.1 X.1 i (eJ.2 q);rw[r]at O;simp only[ez]at O;have:=DU.1 O.1 e I;simpa[hb]using this
 have A:∀L:Array Bool,L.size=ops.size->Region.ready .any ops L=[]->∀i,i<ops.size->L.getD i false=true:=by
  intro L Y hr i;induction i using Nat.strongRecOn with
  |_ i ih=>
   intro q;refine L5 λaf=>?_;have r:ops[i]? =some ops[i]:=ji q;have t:i∈Region.ready .any ops L:=by
    unfold Region.ready;refine ug.2 ⟨eJ.2 q,?_⟩;simp only[ez,yu];refine⟨?_,?_⟩;have:L.getD i false=false:=by simpa using af
    have B:i<L.size:=by omega
    simp[B]at this⊢;exact this;rw[r];simp only[iX,kC];refine DU.2 λe I=>?_;cases ag:Region.binds .any e with
    |false=>simp
    |true=>
     have Z:=z i _ r e I ag;rw[ih e.on Z (by omega)];simp
   rw[hr]at t;cases t
 have ah:∀(p:Nat) (L:Array Bool) (a:Act) (w:cd),L.size=ops.size->C2 Rch sp ops a0 N m sS L a w->((List.range ops.size).countP λi=>!L.getD i false)<=p->wpAny P .any ops Q p L a w:=by
  intro p;induction p with
  |zero=>
   intro L a w Y g hc
   have n:∀i,i<ops.size->L.getD i false=true:=λi q=>by
    have h0:(List.range ops.size).countP (λi=>!L.getD i false)=0:=by omega
    have:=List.countP_eq_zero.1 h0 i (eJ.2 q);simpa using this
   refine⟨?_,?_⟩;unfold Region.ready;refine Rb.2 λi q=>?_;have h:=n i (eJ.1 q);have B:i<L.size:=by have:=eJ.1 q;omega
   simp[B]at h⊢;intro W;rw[h]at W;cases W;have R:m=ops.size:=by rcases V with h|h;exact h;have H:=n m (by omega);rw[g.tail m (cz _)]at H;cases H
   exact(h1 _ a w g.size g.defers g.keep (λi d q s=>by obtain⟨o,r,s⟩:=ti.1 s;exact g.val i o d q (n i (by omega)) r s) (λi o q r s=>g.valn i o q (n i (by omega)) r s) g.ext).1 R
  |succ p ih=>
   intro L a w Y g hc;refine⟨λhr=>?_,λi q=>?_⟩;have n:=A L Y hr;have R:m=ops.size:=by rcases V with h|h;exact h;have H:=n m (by omega);rw[g.tail m (cz _)]at H;cases H
   exact(h1 _ a w g.size g.defers g.keep (λi d q s=>by obtain⟨o,r,s⟩:=ti.1 s;exact g.val i o d q (n i (by omega)) r s) (λi o q r s=>g.valn i o q (n i (by omega)) r s) g.ext).1 R
   unfold Region.ready at q;obtain⟨J,C⟩:=ug.1 q;have J:=eJ.1 J;simp only[ez,yu]at C;have r:ops[i]? =some ops[i]:=ji J;rw[r]at C;simp only[iX,kC]at C;have b:L.getD i false=false:=by
    have h:=C.1;have B:i<L.size:=by omega
    simp[B]at h⊢;exact h
   have u:∀j,(ops[i].after.any λe=>e.on==j&&Region.binds .any e)=true->L.getD j false=true:=λj f=>by obtain⟨e,I,f⟩:=sE.1 f;simp only[ez,qM]at f;have h:=DU.1 C.2 e I;rw[f.2]at h;rw[<-f.1];simpa using h
   have aa:(List.range ops.size).countP (λj=>!(L.setIfInBounds i true).getD j false)<=p:=by
    have Z:(List.range ops.size).countP (λj=>!(L.setIfInBounds i true).getD j false)<(List.range ops.size).countP (λj=>!L.getD j false):=by
     have t:=eJ.2 J;generalize List.range ops.size=l at t;have S:∀l:List Nat,l.countP (λj=>!(L.setIfInBounds i true).getD j false)<=l.countP (λj=>!L.getD j false):=λl=>List.countP_mono_left λx _ hx=>by rw[hH _ _ _ (by omega)]at hx;split at hx;cases hx;exact hx
     induction l with
     |nil=>cases t
     |cons x l ai=>
      rcases eQ.1 t with rfl|D;rw[List.countP_cons_of_neg (by rw[hH _ _ _ (by omega)];simp),List.countP_cons_of_pos (by rw[b];rfl)];exact Nat.lt_succ_of_le (S l);have W:=ai D;rw[List.countP_cons,List.countP_cons];have H:(if(!(L.setIfInBounds i true).getD x false)=true then 1 else 0)<=(if(!L.getD x false)=true then 1 else 0):=by rw[hH _ _ _ (by omega)];split;simp;exact cz _
      omega
    omega
   rcases eA i m with D|D
   have aj:=hs i ops[i] D r (L.getD sp false) a w (λe=>by
    rcases e with e|e;rw[<-e];exact b;cases ab:L.getD sp false with
    |false=>rfl
    |true=>
     rcases e with e|⟨j,e1,e2⟩;rw[g.closed sp i ab e]at b;cases b;rw[g.closed j i (g.closed sp j ab e1) e2]at b;cases b) g.size g.defers (λj f=>g.fresh j λk o hk r e=>by
    have:=g.closed k i hk (f k o r e);rw[b]at this;cases this) (λj d f s=>by
    obtain⟨o',F,s⟩:=ti.1 s;have ap:j<i:=by obtain⟨e,I,f⟩:=sE.1 f;simp only[ez,qM]at f;rw[<-f.1];exact z i _ r e I f.2
    exact g.val j o' d (by omega) (u j f) F s) g.ext
   refine wpOp_mono (λa' w' h=>?_) aj;obtain⟨v,rfl,I,hv,ak⟩:=h;exact ih _ _ _ (by simp[Y]) (g.next U hV Y r D I hv ak b λj f=>u j (by unfold waits at f;rw[r]at f;exact f)) aa;have G:m+1=ops.size:=by omega
   obtain rfl:i=m:=by omega
   have y:∀c j,j+c=i->0<c->L.getD j false=true:=by
    intro c;induction c using Nat.strongRecOn with
    |_ c al=>
     intro j f aq;obtain⟨k,ar,au,K⟩:=M G j (by omega);rcases eA k i with am|am;exact g.closed k j (al (i-k) (by omega) k (by omega) (by omega)) K;obtain rfl:k=i:=by omega
     refine u j ?_;unfold waits at K;rw[r]at K;exact K
   have ac:=(h1 _ a w g.size g.defers g.keep (λj d f s=>by obtain⟨o',F,s⟩:=ti.1 s;exact g.val j o' d f (y (i-j) j (by omega) (by omega)) F s) (λj o' f F s=>g.valn j o' f (y (i-j) j (by omega) (by omega)) F s) g.ext).2 G;refine wpOp_mono (λa' w' h=>?_) ac;have n:∀j,j<ops.size->(L.setIfInBounds i true).getD j false=true:=λj f=>by rw[hH _ _ _ (by omega)];split;rfl;exact y (i-j) j (by omega) (by omega)
   have ad:Region.ready .any ops (L.setIfInBounds i true)=[]:=by
    unfold Region.ready;refine Rb.2 λj f=>?_;have h:=n j (eJ.1 f);have ae:j<(L.setIfInBounds i true).size:=by have:=eJ.1 f;simp;omega
    rw[yq,ji ae]at h;rw[yq,ji ae];simp only[kC]at h⊢;rw[h];simp
   cases p with
   |zero=>exact⟨ad,h⟩
   |succ p=>exact⟨λ_=>h,λj f=>by rw[ad]at f;cases f⟩
 refine ah _ _ _ _ (by simp) ⟨hN,rfl,λ_ _=>rfl,λi o d _ T _ _=>?_,?_,λi _=>?_,λi j q _=>?_,λi o _ T _ _=>?_,λ_ _=>rfl⟩ ?_;simp[yq,ue]at T;split at T<;>simp at T;have:(Array.replicate ops.size false).getD sp false=false:=by simp only[yq,ue];split<;>rfl
 rw[this];exact h0;simp only[yq,ue];split<;>rfl;simp[yq,ue]at q;split at q<;>simp at q;simp[yq,ue]at T;split at T<;>simp at T;exact cJ List.countP_le_length (by simp)
end
end Go.Proofs.W
variable{x y z:ce}{D E:Bool}
namespace Go.Proofs.W
open Go.RowKit
abbrev fW:=ce->cd->Prop
def zo{a:Type}(f:a->Bool):List a->Bool
 |[]=>false
 |x::r=>match f x with
  |true=>true
  |false=>zo f r
def RE:Option Nat->Nat->Bool
 |some d,t=>Nat.beq d t
 |none,_=>false
def TX(a:List Oper)(t:Nat):Bool:=zo (λo=>RE o.dst t) a
def xM(a:List Oper)(o:Oper)(t:Nat):Bool:=match TX a t with
 |false=>true
 |true=>zo (λe=>match Region.binds .any e with
  |true=>RE (BE a e.on) t
  |false=>false) o.after.toList
def rd:dj->List Nat
 | .tmp t=>[t]
 |_=>[]
def VG:List dj->List Nat
 |[]=>[]
 |x::r=>rd x++VG r
def WB:List (Nat×dj)->List Nat
 |[]=>[]
 |x::r=>rd x.2++WB r
def VH:Option dj->List Nat
 |none=>[]
 |some x=>rd x
def Qa:Op->List Nat
 | .move x=>rd x
 | .assign x=>rd x
 | .nilCheck x=>rd x
 | .fieldAddr _ x _=>rd x
 | .extract x _=>rd x
 | .field _ x _=>rd x
 | .load _ x=>rd x
 | .box _ x=>rd x
 | .unOp _ _ x=>rd x
 | .convert _ _ x=>rd x
 | .pick c x y=>rd c++(rd x++rd y)
 | .store _ x y=>rd x++rd y
 | .binOp _ _ x y _=>rd x++rd y
 | .makeSlice _ x y=>rd x++rd y
 | .indexAddr _ x y=>rd x++rd y
 | .index _ x y=>rd x++rd y
 | .lookup _ x y _=>rd x++rd y
 | .mapUpdate _ m x y=>rd m++(rd x++rd y)
 | .build _ d=>WB d.toList
 | .buildSlice _ _ d=>WB d.toList
 | .makeFunc _ a b=>VG a.toList++VG b.toList
 | .makeMap _ r=>VH r
 | .slice _ x a b c=>rd x++(VH a++(VH b++VH c))
 | .call c=>(match c.callee with
  | .value f=>rd f
  |_=>[])++VG c.args.toList
 |_=>[]
def Qb(a:List Oper)(o:Oper):List Nat:=match o.guard with
 |none=>[]
 |some (g,_)=>match BE a g with
  |some d=>[d]
  |none=>[]
def rr(c:Nat->Bool)(l:L):List Nat->L
 |[]=>[]
 |t::r=>match c t with
  |true=>(match lk l t with
   |some v=>(t,v)::rr c l r
   |none=>rr c l r)
  |false=>rr c l r
def mc(c:Nat->Bool):List (Nat×fW)->List (Nat×fW)
 |[]=>[]
 |p::r=>match c p.1 with
  |true=>p::mc c r
  |false=>mc c r
def zp(a:List Oper)(o:Oper):List Nat:=Qa o.op++Qb a o
def xN:List (Nat×fW)->cd->(L->Prop)->Prop
 |[],_,f=>f []
 |p::r,w,f=>∀v,p.2 v w->xN r w λl=>f ((p.1,v)::l)
def Fs(l:L):List Nat->Option (List ce)
 |[]=>some []
 |t::r=>match lk l t with
  |some v=>(match Fs l r with
   |some a=>some (v::a)
   |none=>none)
  |none=>none
abbrev A4:=List Nat×(List ce->cd->Prop)
def zq:List A4->L->cd->Prop->Prop
 |[],_,_,X=>X
 |p::r,l,w,X=>match Fs l p.1 with
  |some a=>p.2 a w->zq r l w X
  |none=>zq r l w X
inductive zr (E E':cd->cd->Prop) (w:cd) (f:cd->(ce->cd->Prop)->Prop) (kx:ce->Prop) (kr:fW->Prop) (kp:fW->Prop) (lb:Bool) (kl:fW->Prop) (ea:Bool):Prop
 |exact(v:ce) (h:∀w1,E' w w1->f w1 λu w2=>u=v/\E w1 w2) (k:kx v)
 |rel (R:fW) (st:∀v a b,R v a->E' a b->R v b) (h:∀w1,E' w w1->f w1 λu w2=>R u w2/\E w1 w2) (k:kr R)
 |Kg (R:fW) (st:∀v a b,R v a->E a b->R v b) (h:∀w1,E' w w1->f w1 λu w2=>R u w2/\E w1 w2) (k:kp R)
 |late (hb:lb=true) (R:fW) (st:∀v a b,R v a->E a b->R v b) (h:∀w1,E' w w1->f w1 λu w2=>R u w2/\E w1 w2) (k:kl R)
 |early (he:ea=true) (R:fW) (st:∀v a b,R v a->E a b->R v b) (h:∀w1,E w w1->f w1 λu w2=>R u w2/\E w1 w2) (k:kp R)
 |C3 (he:ea=true) (v:ce) (h:∀w1,E w w1->f w1 λu w2=>u=v/\E w1 w2) (k:kx v)
inductive WE (E1 E2 Es:cd->cd->Prop) (w:cd) (f:cd->(List ce->cd->Prop)->Prop) (kj:(List ce->cd->Prop)->Prop):Prop
 |xd (J:List ce->cd->Prop) (st:∀vs a b,J vs a->Es a b->J vs b) (h:∀w1,E1 w w1->f w1 λvs w2=>J vs w2/\E2 w1 w2) (k:kj J)
def Ft:List (Nat×fW)->List Nat
 |[]=>[]
 |p::r=>p.1::Ft r
def Kh:L->List ce
 |[]=>[]
 |p::r=>p.2::Kh r
def Ni(T:BC)(e:List Nat)(l:L):Op->Option ce
 | .move x=>ev l x
 | .assign x=>ev l x
 | .pick (.tmp c) x y=>match lk l c with
  |some (.bool b)=>(match mem c e with
   |true=>(match b with
    |true=>ev l x
    |false=>ev l y)
   |false=>none)
  |_=>none
 | .nilCheck x=>match ev l x with
  |some (.pointer (some f))=>some (.pointer (some f))
  |_=>none
 | .fieldAddr S x i=>match ev l x with
  |some (.pointer (some ⟨b,o,none⟩))=>(match T.off S i with
   |some d=>some (.pointer (some ⟨b,o+d,none⟩))
   |none=>none)
  |_=>none
 | .extract x i=>match ev l x with
  |some (.tuple g)=>nth g.toList i
  |_=>none
 | .makeFunc h first a=>match evs l first.toList with
  |some j=>(match evs l a.toList with
   |some k=>some (.func h j.toArray k.toArray)
   |none=>none)
  |none=>none
 |_=>none
def Fu{P:cf}{T:BC}{j:List Nat}{l:L}{w:cd}{o:Oper}{k:ce->cd->Prop}{s:cd->Prop}{pan:List PanicEntry->cd->Prop}(h:Ni T j l o.op=some x)(e:k x w):GG P T j l w o k s pan:=by
 unfold GG;unfold Ni at h;split at h;case h_1 f a=>simp only[a,h];exact e
 case h_2 f a=>simp only[a,h];exact e
 case h_3 c f y a=>
  simp only[a];split at h;rename_i b m;try simp only[m]
  split at h;rename_i n;try simp only[n]
  cases b with
  |true=>simp only at h⊢;simp only[h];exact e
  |false=>simp only at h⊢;simp only[h];exact e
  cases h
  cases h
 case h_4 f a=>
  simp only[a];split at h;rename_i u g;obtain rfl:=cE h;simp only[g];exact e;cases h
 case h_5 S f i a=>
  simp only[a];split at h;rename_i b p g;split at h;rename_i d q;obtain rfl:=cE h;(try simp only[g,q]);exact e;cases h;cases h
 case h_6 f i a=>
  simp only[a];split at h;rename_i v g;simp only[g,h];exact e;cases h
 case h_7 z first cap a=>
  simp only[a];split at h;rename_i A r;split at h;rename_i B t;obtain rfl:=cE h;(try simp only[r,t]);exact e;cases h;cases h
 case h_8=>cases h
def Hv(o:Oper)(r:List Oper):Bool:=match r,o.dst,o.guard with
 |[],none,none=>true
 |_,_,_=>false
def Qc{a:Type}(f:a->Bool):List a->Bool
 |[]=>true
 |x::r=>match f x with
  |true=>Qc f r
  |false=>false
def early0(a:List Oper)(i t:Nat):Bool:=match TX a t with
 |false=>false
 |true=>Qc (λo=>match RE o.dst t with
  |true=>zo (λe=>match Region.binds .any e with
   |true=>Nat.beq e.on i
   |false=>false) o.after.toList
  |false=>true) a
def pL(c e:Nat->Bool)(l a:L):List Nat->L
 |[]=>[]
 |t::r=>match c t with
  |true=>(match lk l t with
   |some v=>(t,v)::pL c e l a r
   |none=>pL c e l a r)
  |false=>(match e t with
   |true=>(match lk a t with
    |some v=>(t,v)::pL c e l a r
    |none=>pL c e l a r)
   |false=>pL c e l a r)
def Qd(a:List Oper)(i:Nat)(o:Oper)(l b:L):L:=pL (xM a o) (early0 a i) l b (zp a o)
def A5(d:Option Nat)(R:fW)(a:List (Nat×fW)):List (Nat×fW):=match d with
 |some d=>(d,R)::a
 |none=>a
def Nj(a:List Oper)(sp i:Nat):Bool:=match nth a sp with
 |some o=>zo (λe=>match Region.binds .any e with
  |true=>Nat.beq e.on i
  |false=>false) o.after.toList
 |none=>false
def ry(a:List Oper)(sp i:Nat):Bool:=match nth a sp with
 |some o=>zo (λe=>match Region.binds .any e with
  |true=>(match Nat.beq e.on i with
   |true=>true
   |false=>Nj a e.on i)
  |false=>false) o.after.toList
 |none=>false
def S5(b:Bool):List (Nat×fW)->List (Nat×fW)->List (Nat×fW)
 |[],a=>a
 |p::r,a=>match b with
  |true=>p::(r++a)
  |false=>a
def Nk{a b:List (Nat×fW)}{p:Nat×fW}(h:p∈S5 D a b):p∈b\/(D=true/\p∈a):=by
 cases a with
 |nil=>exact .inl h
 |cons q r=>
  cases D with
  |false=>exact .inl h
  |true=>
   rcases eQ.1 h with rfl|h;exact .inr ⟨rfl,eR⟩;rcases gl.1 h with h|h;exact .inr ⟨rfl,eI _ h⟩;exact .inl h
def Fv(P:Program)(T:BC)(N:Nat)(pn:List PanicEntry->World->Prop)(E E':World->World->Prop)(a:List Oper)(w:World)(i:Nat)(e:L)(o:Oper)(f:List Nat)(l:L)(b c:List (Nat×fW))(j g:Bool)(d:L->List (Nat×fW)->List (Nat×fW)->Bool->Prop):Prop:=
 match Ni T f (Qd a i o l e) o.op with
 |some v=>d (ins N o.dst v l) b c false
 |none=>zr E E' w (λh k=>xN (S5 g (mc (xM a o) c) (mc (xM a o) b)) h λm=>GG P T f (m++Qd a i o l e) h o k (λ_=>False) pn)
  (λv=>d (ins N o.dst v l) b c false) (λR=>d l (A5 o.dst R b) c false) (λR=>d l b (A5 o.dst R c) false) j (λR=>d l (A5 o.dst R b) c true) g
def UJ(P:cf)(T:BC)(E E':cd->cd->Prop)(a:List Oper)(w:cd)(o:Oper)(e:List Nat)(l:L)(b:List (Nat×fW))(f:A4->Prop):Prop:=
 WE E' E E' w (λc g=>xN (mc (xM a o) b) c λd=>GG P T e (d++rr (xM a o) l (zp a o)) c o (λ_ _=>False) (λh=>g (Kh d) h) λ_ _=>False)
  (λJ=>f (Ft (mc (xM a o) b),J))
def runT(P:cf)(T:BC)(E E':cd->cd->Prop)(a:List Oper)(w:cd)(o:Oper)(f:List Nat)(l:L)(b c:List (Nat×fW))(g:A4->Prop):Prop:=
 WE E E' E w (λd h=>xN (mc (xM a o) c++mc (xM a o) b) d λe=>GG P T f (e++rr (xM a o) l (zp a o)) d o (λ_ _=>False) (λi=>h (Kh e) i) λ_ _=>False)
  (λJ=>g (Ft (mc (xM a o) c++mc (xM a o) b),J))
inductive Ze (E E':cd->cd->Prop) (w:cd) (f:cd->(ce->cd->Prop)->Prop) (kr:fW->Prop):Prop
 |spec (R:fW) (st:∀v a b,R v a->E a b->R v b) (h:∀w1,E w w1->f w1 λu w2=>R u w2/\E' w1 w2) (k:kr R)
def UK(P:cf)(T:BC)(pn:List PanicEntry->cd->Prop)(E E':cd->cd->Prop)(a:List Oper)(w:cd)(o:Oper)(c:List Nat)(l:L)(d e:List (Nat×fW))(f:fW->Prop):Prop:=
 Ze E E' w (λb g=>xN (mc (xM a o) e++mc (xM a o) d) b λh=>GG P T c (h++rr (xM a o) l (zp a o)) b o g (λ_=>False) pn) f
def zt:List (Nat×fW)->List (Nat×fW)->List (Nat×fW)
 |[],a=>a
 |p::r,a=>(p.1,λ_ _=>True)::zt r a
def uE(a:List Nat)(o:Oper):Bool:=match o.dst with
 |some _=>zo (λe=>match Region.binds .any e with
  |true=>mem e.on a
  |false=>false) o.after.toList
 |none=>false
def Hw(b:Bool)(i:Nat)(a:List Nat):List Nat:=match b with
 |true=>i::a
 |false=>a
def I3(o:Oper):Bool:=match o.dst,o.guard with
 |none,none=>(match o.op with
  | .store _ _ _=>true
  | .mapUpdate _ _ _ _=>true
  |_=>false)
 |_,_=>false
def DW(P:cf)(T:BC)(N:Nat)(pn:List PanicEntry->cd->Prop)(E E':cd->cd->Prop)(sp:Nat)(a:List Oper)(w:cd)(j:L)(K:L->cd->Prop):Nat->List Oper->List Nat->L->List (Nat×fW)->List (Nat×fW)->List A4->List Nat->Prop
 |_,[],_,l,h,n,q,k=>∀s,E' w s->xN h s λm=>zq q m s (K (m++l) s)
 |i,o::r,c,l,h,n,q,k=>match Hv o r with
  |true=>∀s,E' w s->xN h s λm=>zq q m s (GG P T [] (m++l) s o (λ_ _=>False) (λv=>K (m++l) v) λ_ _=>False)
  |false=>match I3 o with
  |true=>(match Nat.beq i sp with
   |true=>runT P T E E' a w o c l h n λp=>DW P T N pn E E' sp a w j K (i+1) r c l (zt n h) [] (p::q) k
   |false=>UJ P T E E' a w o c l h λp=>DW P T N pn E E' sp a w j K (i+1) r c l h n (p::q) k)
  |false=>VF N o.dst (match o.guard with
   |none=>(match Nat.beq i sp with
    |true=>UK P T pn E E' a w o c l h n λR=>DW P T N pn E E' sp a w j K (i+1) r c l (A5 o.dst R (zt n h)) [] q (match o.dst with
     |some _=>[i]
     |none=>[])
    |false=>Fv P T N pn E E' a w i j o c l h n (uE k o) (ry a sp i) λm e f t=>DW P T N pn E E' sp a w j K (i+1) r c m e f q (Hw t i k))
   |some (g,u)=>(match BE a g with
    |none=>False
    |some d=>match xM a o d with
     |false=>False
     |true=>match lk l d with
      |some (.bool b)=>(match mem d c with
       |true=>(match b,u with
        |true,true=>Fv P T N pn E E' a w i j o c l h n (uE k o) (ry a sp i) λm e f t=>DW P T N pn E E' sp a w j K (i+1) r c m e f q (Hw t i k)
        |false,false=>Fv P T N pn E E' a w i j o c l h n (uE k o) (ry a sp i) λm e f t=>DW P T N pn E E' sp a w j K (i+1) r c m e f q (Hw t i k)
        |_,_=>DW P T N pn E E' sp a w j K (i+1) r c (ins N o.dst undef l) h n q k)
       |false=>(match u with
        |true=>(b=true->Fv P T N pn E E' a w i j o (d::c) ((d,.bool true)::l) h n (uE k o) (ry a sp i) λm e f t=>DW P T N pn E E' sp a w j K (i+1) r (d::c) m e f q (Hw t i k))/\
         (b=false->DW P T N pn E E' sp a w j K (i+1) r (d::c) (ins N o.dst undef ((d,.bool false)::l)) h n q k)
        |false=>(b=true->DW P T N pn E E' sp a w j K (i+1) r (d::c) (ins N o.dst undef ((d,.bool true)::l)) h n q k)/\
         (b=false->Fv P T N pn E E' a w i j o (d::c) ((d,.bool false)::l) h n (uE k o) (ry a sp i) λm e f t=>DW P T N pn E E' sp a w j K (i+1) r (d::c) m e f q (Hw t i k))))
      |some (.tuple _)=>DW P T N pn E E' sp a w j K (i+1) r c (ins N o.dst undef l) h n q k
      |_=>False))
def xe(a:List Oper):L->L
 |[]=>[]
 |p::r=>match TX a p.1 with
  |true=>xe a r
  |false=>p::xe a r
def sV:List Oper->Nat
 |[]=>0
 |o::r=>match Hv o r with
  |true=>0
  |false=>sV r+1
section
variable{P:cf}{T:BC}{N m sp:Nat}{pn:List PanicEntry->cd->Prop}{E E':cd->cd->Prop}{ops:Array Oper}{w0:cd}{a0:Act}{K:L->cd->Prop}{Q:Exit->Act->cd->Prop}
theorem lO{a:Type}{f:a->Bool}:∀{l:List a},zo f l=true->∃x∈l,f x=true
 |x::r,h=>by simp only[zo]at h;split at h;rename_i b;exact⟨x,eR,b⟩;obtain⟨y,c,d⟩:=lO h;exact⟨y,eI _ c,d⟩
theorem I4{a:Type}{f:a->Bool}:∀{l:List a} {x:a},x∈l->f x=true->zo f l=true
 |y::r,x,h,b=>by simp only[zo];rcases eQ.1 h with rfl|h;rw[b];split;rfl;exact I4 h b
def yd{d:Option Nat}{t:Nat}:RE d t=true↔d=some t:=by
 cases d with
 |none=>simp[RE]
 |some d=>
  simp only[RE,fI];exact⟨gE,λh=>by rw[h];exact yA t⟩
def si{ops:Array Oper}{t:Nat}:TX ops.toList t=wrote ops t:=by
 cases h:TX ops.toList t with
 |true=>
  obtain⟨o,a,b⟩:=lO h;exact(sE.2 ⟨o,by simpa using a,by simpa using yd.1 b⟩).symm
 |false=>
  cases b:wrote ops t with
  |false=>rfl
  |true=>
   obtain⟨o,a,c⟩:=sE.1 b;have:=I4 (f:=λo=>RE o.dst t) (by simpa using a:o∈ops.toList) (yd.2 (by simpa using c));unfold TX at h;rw[h]at this;cases this
def Ki(e:lN ops N m=true){i j t:Nat}{o f:Oper}(g:ops[i]? =some o)(c:ops[j]? =some f)(h:o.dst=some t)(k:f.dst=some t):i=j:=by have l:i<ops.size:=(eP.1 g).1;have n:j<ops.size:=(eP.1 c).1;simp only[lN,ez]at e;have a:=jF.1 e.1 i (eJ.2 l);rw[g]at a;simp only[ez]at a;have d:=a.2;rw[h]at d;simp only[ez,jk]at d;have b:=jF.1 d.2 j (eJ.2 n);rw[c]at b;simp only[k,L4,jk]at b;rcases b with b|b;exact b.symm;simp at b
structure Cons(ops:Array Oper)(a0:Act)(i:Nat)(S:Nat->Bool->fW)(l:L)(rs ps:List (Nat×fW))(js:List A4):Prop where
 l:∀t v,lk l t=some v->(wrote ops t=false/\a0.eval (.tmp t)=v)\/∃j o,j<i/\ops[j]? =some o/\o.dst=some t/\∀b u w,S j b u w->u=v
 r:∀p∈rs,∃j o,j<i/\ops[j]? =some o/\o.dst=some p.1/\∀b u w,S j b u w->p.2 u w
 p:∀p∈ps,∃j o,j<i/\ops[j]? =some o/\o.dst=some p.1/\∀u w,S j false u w->p.2 u w
 j:∀p∈js,∃j o,j<i/\ops[j]? =some o/\o.dst=none/\∀b a w,S j b (gR ops o a) w->p.2 (p.1.map λt=>a.eval (.tmp t)) w
structure At(ops:Array Oper)(a0:Act)(N i:Nat)(S:Nat->Bool->fW)(b:Bool)(D:Nat->Prop)(a:Act)(w:cd):Prop where
 size:a.tmps.size=N
 defers:a.defers=a0.defers
 keep:∀j,Before ops i j->a.eval (.tmp j)=a0.eval (.tmp j)
 val:∀j d,D j->((ops[j]?).bind (·.dst))=some d->S j b (a.eval (.tmp d)) w
def nw(I:lN ops N m=true){i:Nat}{S n:Nat->Bool->fW}{l:L}{J:List A4}{C E:List (Nat×fW)}(q:Cons ops a0 i S l C E J)(s:∀j,j<i->n j=S j){o:Oper}{a:Act}{w:cd}
 (F:At ops a0 N i n D (λj=>(o.after.any λe=>e.on==j&&Region.binds .any e)=true) a w){t:Nat}(u:xM ops.toList o t=true):(∀v,lk l t=some v->a.eval (.tmp t)=v)/\(∀p∈C,p.1=t->p.2 (a.eval (.tmp t)) w)/\(D=false->∀p∈E,p.1=t->p.2 (a.eval (.tmp t)) w):=by
 have g:wrote ops t=true->∀j f,ops[j]? =some f->f.dst=some t->n j D (a.eval (.tmp t)) w:=λx j f b c=>by
  unfold xM at u;rw[si,x]at u;obtain⟨e,K,y⟩:=lO u;split at y;rename_i M;have G:=yd.1 y;rw[pf]at G;have H:(ops[e.on]?).bind (·.dst)=some t:=by simpa using G
  obtain⟨P,z,A⟩:=ti.1 H;obtain rfl:=Ki I z b A c;exact F.val _ _ (sE.2 ⟨e,by simpa using K,by simp[M]⟩) H;cases y
 have d:∀{j:Nat} {f:Oper},ops[j]? =some f->f.dst=some t->wrote ops t=true:=λb c=>sE.2 ⟨_,l7 b,by simp[c]⟩;refine⟨λv O=>?_,?_,?_⟩;rcases q.l t v O with⟨x,h⟩|⟨j,f,k,b,c,h⟩;rw[F.keep t (Kf x)];exact h;have:=g (d b c) j f b c;rw[s j k]at this;exact h _ _ _ this;rintro p B rfl;obtain⟨j,f,k,b,c,h⟩:=q.r p B;have:=g (d b c) j f b c;rw[s j k]at this;exact h _ _ _ this;rintro rfl p B rfl;obtain⟨j,f,k,b,c,h⟩:=q.p p B;have:=g (d b c) j f b c;rw[s j k]at this;exact h _ _ this
theorem rz{c:Nat->Bool}{l:L}{a:Act}(h:∀t,c t=true->∀v,lk l t=some v->a.eval (.tmp t)=v):∀(d:List Nat) (t:Nat) (v:ce),lk (rr c l d) t=some v->a.eval (.tmp t)=v
 |[],t,v,b=>by cases b
 |x::r,t,v,b=>by simp only[rr]at b;split at b;rename_i e;split at b;rename_i u f;simp only[lk]at b;split at b;rename_i g;obtain rfl:=gE g;obtain rfl:=cE b;exact h x e _ f;exact rz h r t v b;exact rz h r t v b;exact rz h r t v b
theorem zu{a:Act}{w:cd}:∀{d:List (Nat×fW)} {f:L->Prop},xN d w f->(∀p∈d,p.2 (a.eval (.tmp p.1)) w)->∃c,f c/\∀t v,lk c t=some v->a.eval (.tmp t)=v
 |[],f,h,_=>⟨[],h,λt v b=>by cases b⟩
 |p::r,f,h,e=>by obtain⟨c,g,i⟩:=zu (h _ (e p eR)) λq j=>e q (eI _ j);refine⟨_,g,λt v b=>?_⟩;simp only[lk]at b;split at b;rename_i k;obtain rfl:=gE k;exact cE b;exact i t v b
def C4{l a:L}{t:Nat}(h:lk (a++l) t=some x):lk a t=some x\/lk l t=some x:=by
 induction a with
 |nil=>exact .inr h
 |cons p r b=>
  simp only[qn,lk]at h⊢;split at h;exact .inl h;exact b h
theorem fa{c:Nat->Bool}:∀{a:List (Nat×fW)} {p:Nat×fW},p∈mc c a->p∈a/\c p.1=true
 |q::r,p,h=>by simp only[mc]at h;split at h;rename_i b;rcases eQ.1 h with rfl|h;exact⟨eR,b⟩;exact⟨eI _ (fa h).1,(fa h).2⟩;exact⟨eI _ (fa h).1,(fa h).2⟩
def oE(o:Oper)(j:Nat):Prop:=(o.after.any λe=>e.on==j&&Region.binds .any e)=true
theorem Cons.ins{i:Nat}{S s:Nat->Bool->fW}{l:L}{A:List A4}{B C:List (Nat×fW)}(v:Cons ops a0 i S l B C A)(y:∀j,j<i->s j=S j){o:Oper}(E:ops[i]? =some o)(F:∀d,o.dst=some d->∀b u w,s i b u w->u=x):Cons ops a0 (i+1) s (W.ins N o.dst x l) B C A:=by
 have e:∀t u,lk l t=some u->(wrote ops t=false/\a0.eval (.tmp t)=u)\/∃j o,j<i+1/\ops[j]? =some o/\o.dst=some t/\∀b D w,s j b D w->D=u:=λt u h=>by rcases v.l t u h with h|⟨j,f,g,k,m,n⟩;exact .inl h;exact .inr ⟨j,f,by omega,k,m,by rw[y j g];exact n⟩
 refine⟨λt u c=>?_,λp q=>?_,λp q=>?_,λp q=>?_⟩;cases z:o.dst with
 |none=>rw[z]at c;exact e t u c
 |some d=>
  rw[z]at c;simp only[W.ins]at c;split at c;simp only[lk]at c;split at c;rename_i G;obtain rfl:=gE G;obtain rfl:=cE c;exact .inr ⟨i,o,by omega,E,z,F _ z⟩;exact e t u c;exact e t u c
 obtain⟨j,f,g,k,m,n⟩:=v.r p q;exact⟨j,f,by omega,k,m,by rw[y j g];exact n⟩;obtain⟨j,f,g,k,m,n⟩:=v.p p q;exact⟨j,f,by omega,k,m,by rw[y j g];exact n⟩;obtain⟨j,f,g,k,m,n⟩:=v.j p q;exact⟨j,f,by omega,k,m,λb a w h=>n b a w (by rw[<-y j g];exact h)⟩
def Cons.zk{i:Nat}{S:Nat->Bool->fW}{l:L}{c:List A4}{e f:List (Nat×fW)}(a:Cons ops a0 i S l e f c){d:Nat}(g:lk l d=some x):Cons ops a0 i S ((d,x)::l) e f c:=by refine⟨λt u b=>?_,a.r,a.p,a.j⟩;simp only[lk]at b;split at b;rename_i h;obtain rfl:=gE h;obtain rfl:=cE b;exact a.l _ _ g;exact a.l t u b
theorem Cons.A5{i:Nat}{S q:Nat->Bool->fW}{l:L}{z:List A4}{y A:List (Nat×fW)}(s:Cons ops a0 i S l y A z)(v:∀j,j<i->q j=S j){o:Oper}(B:ops[i]? =some o){R:fW}(C:∀d,o.dst=some d->∀b u w,q i b u w->R u w):Cons ops a0 (i+1) q l (W.A5 o.dst R y) A z:=by
 have n:∀p∈y,∃j o,j<i+1/\ops[j]? =some o/\o.dst=some p.1/\∀b u w,q j b u w->p.2 u w:=λp c=>by obtain⟨j,e,f,g,k,m⟩:=s.r p c;exact⟨j,e,by omega,g,k,by rw[v j f];exact m⟩
 refine⟨λt u h=>?_,λp c=>?_,λp c=>?_,λp c=>?_⟩;rcases s.l t u h with h|⟨j,e,f,g,k,m⟩;exact .inl h;exact .inr ⟨j,e,by omega,g,k,by rw[v j f];exact m⟩;cases x:o.dst with
 |none=>rw[x]at c;exact n p c
 |some d=>
  rw[x]at c;rcases eQ.1 c with rfl|c;exact⟨i,o,by omega,B,x,C _ x⟩;exact n p c
 obtain⟨j,e,f,g,k,m⟩:=s.p p c;exact⟨j,e,by omega,g,k,by rw[v j f];exact m⟩;obtain⟨j,e,f,g,k,m⟩:=s.j p c;exact⟨j,e,by omega,g,k,λb a w h=>m b a w (by rw[<-v j f];exact h)⟩
def Cons.WF{i:Nat}{S q:Nat->Bool->fW}{l:L}{v x:List (Nat×fW)}{y:List A4}(m:Cons ops a0 i S l v x y)(n:∀j,j<i->q j=S j){o:Oper}(z:ops[i]? =some o)(A:o.dst=none){s:A4}(B:∀b a w,q i b (gR ops o a) w->s.2 (s.1.map λt=>a.eval (.tmp t)) w):Cons ops a0 (i+1) q l v x (s::y):=by refine⟨λt u h=>?_,λp c=>?_,λp c=>?_,λp c=>?_⟩;rcases m.l t u h with h|⟨j,d,e,f,g,k⟩;exact .inl h;exact .inr ⟨j,d,by omega,f,g,by rw[n j e];exact k⟩;obtain⟨j,d,e,f,g,k⟩:=m.r p c;exact⟨j,d,by omega,f,g,by rw[n j e];exact k⟩;obtain⟨j,d,e,f,g,k⟩:=m.p p c;exact⟨j,d,by omega,f,g,by rw[n j e];exact k⟩;rcases eQ.1 c with rfl|c;exact⟨i,o,by omega,z,A,B⟩;obtain⟨j,d,e,f,g,k⟩:=m.j p c;exact⟨j,d,by omega,f,g,λb a w h=>k b a w (by rw[<-n j e];exact h)⟩
theorem BG:∀{b a:List (Nat×fW)} {p:Nat×fW},p∈zt b a->p∈a\/∃q∈b,p=(q.1,λ_ _=>True)
 |[],a,p,h=>.inl h
 |q::r,a,p,h=>by rcases eQ.1 h with rfl|h;exact .inr ⟨q,eR,rfl⟩;rcases BG h with h|⟨x,c,d⟩;exact .inl h;exact .inr ⟨x,eI _ c,d⟩
def Cons.X4{i:Nat}{S:Nat->Bool->fW}{l:L}{c d:List (Nat×fW)}{e:List A4}(a:Cons ops a0 i S l c d e):Cons ops a0 i S l (zt d c) [] e:=by refine⟨a.l,λp b=>?_,(λp b=>by cases b),a.j⟩;rcases BG b with h|⟨q,f,rfl⟩;exact a.r p h;obtain⟨j,o,g,k,m,_⟩:=a.p q f;exact⟨j,o,g,k,m,λ_ _ _ _=>trivial⟩
def Cons.UL{i:Nat}{S q:Nat->Bool->fW}{l:L}{z y:List (Nat×fW)}{A:List A4}(s:Cons ops a0 i S l z y A)(v:∀j,j<i->q j=S j){o:Oper}(B:ops[i]? =some o){R:fW}(C:∀d,o.dst=some d->q i false=R):Cons ops a0 (i+1) q l z (W.A5 o.dst R y) A:=by
 have n:∀p∈y,∃j o,j<i+1/\ops[j]? =some o/\o.dst=some p.1/\∀u w,q j false u w->p.2 u w:=λp c=>by obtain⟨j,e,f,g,k,m⟩:=s.p p c;exact⟨j,e,by omega,g,k,by rw[v j f];exact m⟩
 refine⟨λt u h=>?_,λp c=>?_,λp c=>?_,λp c=>?_⟩;rcases s.l t u h with h|⟨j,e,f,g,k,m⟩;exact .inl h;exact .inr ⟨j,e,by omega,g,k,by rw[v j f];exact m⟩;obtain⟨j,e,f,g,k,m⟩:=s.r p c;exact⟨j,e,by omega,g,k,by rw[v j f];exact m⟩;cases x:o.dst with
 |none=>rw[x]at c;exact n p c
 |some d=>
  rw[x]at c;rcases eQ.1 c with rfl|c;exact⟨i,o,by omega,B,x,λu w h=>by rw[C _ x]at h;exact h⟩;exact n p c
 obtain⟨j,e,f,g,k,m⟩:=s.j p c;exact⟨j,e,by omega,g,k,λb a w h=>m b a w (by rw[<-v j f];exact h)⟩
structure Told(E E':cd->cd->Prop)(R:Bool->fW):Prop where
 e:∀b v w w',R b v w->E w w'->R b v w'
 x:∀v w w',R false v w->E' w w'->R true v w'
theorem I5{b:Type}{f:b->Bool}:∀{l:List b},Qc f l=true->∀x∈l,f x=true
 |y::r,h,x,a=>by simp only[Qc]at h;split at h;rename_i c;rcases eQ.1 a with rfl|a;exact c;exact I5 h x a;cases h
def Kj{i t:Nat}(h:early0 ops.toList i t=true):Before ops i t:=λk o b c=>by unfold early0 at h;split at h;cases h;have:=I5 h o (by simpa using l7 b);rw[c,show RE (some t) t=true from yA t]at this;obtain⟨e,d,a⟩:=lO this;split at a;rename_i f;unfold waits;rw[b];exact sE.2 ⟨e,by simpa using d,by simp[gE a,f]⟩;cases a
theorem BH{c e:Nat->Bool}{l i:L}{a:Act}(h:∀t,c t=true->∀v,lk l t=some v->a.eval (.tmp t)=v)(k:∀t,e t=true->∀v,lk i t=some v->a.eval (.tmp t)=v):∀(m:List Nat) (t:Nat) (v:ce),lk (pL c e l i m) t=some v->a.eval (.tmp t)=v
 |[],t,v,b=>by cases b
 |x::r,t,v,b=>by
  have g:=BH h k r t v;have d:∀u,a.eval (.tmp x)=u->lk ((x,u)::pL c e l i r) t=some v->a.eval (.tmp t)=v:=λu f h=>by simp only[lk]at h;split at h;rename_i n;obtain rfl:=gE n;obtain rfl:=cE h;exact f;exact g h
  simp only[pL]at b;split at b;rename_i j;split at b;rename_i u f;exact d u (h x j u f) b;exact g b;split at b;rename_i j;split at b;rename_i u f;exact d u (k x j u f) b;exact g b;exact g b
def Nl(O:n5 P T)(A:∀c a w,a.tmps.size=N->a.defers=a0.defers->pn c w->Q (.panic c) a w)(hE:fw E)(ad:∀a b,E a b->E' a b)(hB:lN ops N m=true){i:Nat}{S:Nat->Bool->fW}{l:L}{rs ps:List (Nat×fW)}{js:List A4}{ks:List Nat}{o:Oper}{ea:Bool}{l0:L}(ae:∀t v,lk l0 t=some v->a0.eval (.tmp t)=v){go:L->List (Nat×fW)->List (Nat×fW)->Bool->Prop}(J:Cons ops a0 i S l rs ps js)(U:ops[i]? =some o) (h:Fv P T N pn E E' ops.toList w0 i l0 o ks l rs ps D ea go):∃R:Bool->fW,Told E E' R/\
  (∀(g:Nat->Bool->fW) (b:Bool),(D=true->b=true)->(∀j,j<i->g j=S j)->∀a w,At ops a0 N i g b (oE o) a w->(ea=true->b=false/\E w0 w)->E' w0 w->o.wp P a w (λa' y=>∃v,a'=a.put o.dst v/\E w y/\R b v y) Q)/\
  ∃l' Y Z aa,go l' Y Z aa/\(aa=true->D=true/\∀u w,¬R false u w)/\∀g:Nat->Bool->fW,(∀j,j<i->g j=S j)->(∀d,o.dst=some d->g i=R)->Cons ops a0 (i+1) g l' Y Z js:=by
 have frame:∀(g:Nat->Bool->fW) (b:Bool),(∀j,j<i->g j=S j)->∀a w,At ops a0 N i g b (oE o) a w->∀x:L,(∀t v,lk x t=some v->a.eval (.tmp t)=v)->vE N (x++Qd ops.toList i o l l0) a:=λg b n a w q x ab=>by refine⟨q.size,λt v ht=>?_⟩;rcases C4 ht with h|h;exact ab t v h;exact BH (λt hc v hv=>(nw hB J n q hc).1 v hv) (λt hc v hv=>(q.keep t (Kj hc)).trans (ae t v hv)) _ t v h
 have z:∀(g:Nat->Bool->fW) (b:Bool),(∀j,j<i->g j=S j)->∀a w,At ops a0 N i g b (oE o) a w->(ea=true->b=false)->∀f:L->Prop,xN (S5 ea (mc (xM ops.toList o) ps) (mc (xM ops.toList o) rs)) w f->∃x,f x/\vE N (x++Qd ops.toList i o l l0) a:=λg b n a w q r f hf=>by
  obtain⟨x,B,C⟩:=zu (a:=a) hf λp V=>by rcases Nk V with V|⟨H,V⟩;exact(nw hB J n q (fa V).2).2.1 p (fa V).1 rfl;exact(nw hB J n q (fa V).2).2.2 (r H) p (fa V).1 rfl
  exact⟨x,B,frame g b n a w q x C⟩
 unfold Fv at h;split at h;rename_i v hv;refine⟨λ_ u _=>u=v,⟨λ_ _ _ _ h _=>h,λ_ _ _ h _=>h⟩,λg b _ n a w q r H=>?_,_,_,_,_,h,(λh=>by cases h),λg n F=>J.ins n U λd G b u w K=>by rw[F d G]at K;exact K⟩;refine iz O (frame g b n a w q [] λt v ht=>by cases ht) (Fu (k:=λu w2=>u=v/\w2=w) (s:=λ_=>False) (pan:=λ_ _=>False) hv ⟨rfl,rfl⟩) ?_ (λ_ h=>h.elim) λ_ _ h=>h.elim;rintro u y ⟨rfl,rfl⟩;exact⟨u,rfl,hE.refl _,rfl⟩;cases h with
 |exact v h k=>
  refine⟨λ_ u _=>u=v,⟨λ_ _ _ _ h _=>h,λ_ _ _ h _=>h⟩,λg b _ n a w q r H=>?_,_,_,_,_,k,(λh=>by cases h),λg n F=>J.ins n U λd G b u w K=>by rw[F d G]at K;exact K⟩;obtain⟨x,B,I⟩:=z g b n a w q (λe=>(r e).1) _ (h w H);refine iz O I B ?_ (λ_ h=>h.elim) λc y h=>A c a y q.size q.defers h;rintro u y ⟨rfl,C⟩;exact⟨u,rfl,C,rfl⟩
 |rel R M h k=>
  refine⟨λ_=>R,⟨λ_ _ _ _ h e=>M _ _ _ h (ad _ _ e),λ_ _ _ h e=>M _ _ _ h e⟩,λg b _ n a w q r H=>?_,_,_,_,_,k,(λh=>by cases h),λg n F=>J.A5 n U λd G b u w h=>by rw[F d G]at h;exact h⟩;obtain⟨x,B,I⟩:=z g b n a w q (λe=>(r e).1) _ (h w H);refine iz O I B ?_ (λ_ h=>h.elim) λc y h=>A c a y q.size q.defers h;rintro u y ⟨C,W⟩;exact⟨u,rfl,W,C⟩
 |Kg R M h k=>
  refine⟨λb u w=>b=true\/R u w,⟨λ_ _ _ _ h e=>h.imp id λh=>M _ _ _ h e,λ_ _ _ _ _=>.inl rfl⟩,λg b _ n a w q r H=>?_,_,_,_,_,k,(λh=>by cases h),λg n F=>J.UL n U λd G=>by rw[F d G];funext u w;simp⟩;obtain⟨x,B,I⟩:=z g b n a w q (λe=>(r e).1) _ (h w H);refine iz O I B ?_ (λ_ h=>h.elim) λc y h=>A c a y q.size q.defers h;rintro u y ⟨C,W⟩;exact⟨u,rfl,W,.inr C⟩
 |late ac R M h k=>
  refine⟨λb u w=>b=true/\R u w,⟨λ_ _ _ _ h e=>⟨h.1,M _ _ _ h.2 e⟩,λ_ _ _ h _=>by cases h.1⟩,λg b hb n a w q r H=>?_,_,_,_,_,k,λ_=>⟨ac,λu w h=>by cases h.1⟩,λg n F=>J.A5 n U λd G b u w h=>by rw[F d G]at h;exact h.2⟩;obtain⟨x,B,I⟩:=z g b n a w q (λe=>(r e).1) _ (h w H);refine iz O I B ?_ (λ_ h=>h.elim) λc y h=>A c a y q.size q.defers h;rintro u y ⟨C,W⟩;exact⟨u,rfl,W,hb ac,C⟩
 |early X R M h k=>
  refine⟨λb u w=>b=true\/R u w,⟨λ_ _ _ _ h e=>h.imp id λh=>M _ _ _ h e,λ_ _ _ _ _=>.inl rfl⟩,λg b _ n a w q r H=>?_,_,_,_,_,k,(λh=>by cases h),λg n F=>J.UL n U λd G=>by rw[F d G];funext u w;simp⟩;obtain⟨x,B,I⟩:=z g b n a w q (λe=>(r e).1) _ (h w (r X).2);refine iz O I B ?_ (λ_ h=>h.elim) λc y h=>A c a y q.size q.defers h;rintro u y ⟨C,W⟩;exact⟨u,rfl,W,.inr C⟩
 |C3 X v h k=>
  refine⟨λ_ u _=>u=v,⟨λ_ _ _ _ h _=>h,λ_ _ _ h _=>h⟩,λg b _ n a w q r H=>?_,_,_,_,_,k,(λh=>by cases h),λg n F=>J.ins n U λd G b u w K=>by rw[F d G]at K;exact K⟩;obtain⟨x,B,I⟩:=z g b n a w q (λe=>(r e).1) _ (h w (r X).2);refine iz O I B ?_ (λ_ h=>h.elim) λc y h=>A c a y q.size q.defers h;rintro u y ⟨rfl,C⟩;exact⟨u,rfl,C,rfl⟩
theorem vV{a:Act}{w:cd}{e:L}{X:Prop}(f:∀t v,lk e t=some v->a.eval (.tmp t)=v):∀{k:List A4},zq k e w X->(∀p∈k,p.2 (p.1.map λt=>a.eval (.tmp t)) w)->X
 |[],h,_=>h
 |p::r,h,g=>by
  have b:∀(d:List Nat) (c:List ce),Fs e d=some c->(d.map λt=>a.eval (.tmp t))=c:=by
   intro d;induction d with
   |nil=>intro c h;simp only[Fs,fI]at h;subst h;rfl
   |cons t r l=>
    intro c h;simp only[Fs]at h;split at h;rename_i v m;split at h;rename_i n o;simp only[fI]at h;subst h;simp[f t v m,l n o];cases h;cases h
  simp only[zq]at h;split at h;rename_i c i;exact vV f (h (b _ _ i▸g p eR)) λq j=>g q (eI _ j);exact vV f h λq j=>g q (eI _ j)
theorem vW{a:Act}{w:cd}:∀{d:List (Nat×fW)} {f:L->Prop},xN d w f->(∀p∈d,p.2 (a.eval (.tmp p.1)) w)->∃c,f c/\(∀t v,lk c t=some v->a.eval (.tmp t)=v)/\Kh c=(Ft d).map λt=>a.eval (.tmp t)
 |[],f,h,_=>⟨[],h,(λt v b=>by cases b),rfl⟩
 |p::r,f,h,e=>by obtain⟨c,g,i,j⟩:=vW (h _ (e p eR)) λq k=>e q (eI _ k);refine⟨_,g,λt v b=>?_,by simp[Kh,Ft,j]⟩;simp only[lk]at b;split at b;rename_i l;obtain rfl:=gE l;exact cE b;exact i t v b
theorem Fw:∀{a:List (Nat×fW)} {t:Nat},t∈Ft a->∃p∈a,p.1=t
 |p::r,t,h=>by rcases eQ.1 h with rfl|h;exact⟨p,eR,rfl⟩;obtain⟨q,b,c⟩:=Fw h;exact⟨q,eI _ b,c⟩
def I6{o:Oper}{t:Nat}(d:wrote ops t=true)(a:xM ops.toList o t=true):t∈Hu ops o:=by
 unfold xM at a;rw[si,d]at a;obtain⟨e,f,b⟩:=lO a;split at b;rename_i g;have c:=yd.1 b;rw[pf]at c;have h:(ops[e.on]?).bind (·.dst)=some t:=by simpa using c
 exact List.mem_filterMap.2 ⟨e,f,by rw[cx g];exact h⟩;cases b
def BI(hT:n5 P T)(G:lN ops N m=true){E1 E2 H:cd->cd->Prop}(ab:∀a b,E a b->E' a b){i:Nat}{S:Nat->Bool->fW}{l:L}{I K:List (Nat×fW)}{js:List A4}{ks:List Nat}{o:Oper}(y:Bool)(M:∀a b,E a b->H a b)(O:y=false->∀a b,E' a b->H a b){C:List (Nat×fW)}(hq:∀p∈C,(p∈I\/(y=true/\p∈K))/\xM ops.toList o p.1=true){go:A4->Prop}(x:Cons ops a0 i S l I K js)(ho:ops[i]? =some o)(f:o.dst=none)
 (h:WE E1 E2 H w0 (λw1 κ=>xN C w1 λl'=>GG P T ks (l'++rr (xM ops.toList o) l (zp ops.toList o)) w1 o (λ_ _=>False) (λw2=>κ (Kh l') w2) λ_ _=>False) (λJ=>go (Ft C,J))):∃R:Bool->fW,Told E E' R/\
  (∀(g:Nat->Bool->fW) (b U:Bool),(y=true->b=false/\U=true)->(∀j,j<i->g j=S j)->∀a w,At ops a0 N i g b (oE o) a w->E1 w0 w->o.wp P a w (λa' V=>∃v,a'=a.put o.dst v/\E2 w V/\R U v V/\v=gR ops o a) Q)/\
  ∃p,go p/\∀g:Nat->Bool->fW,(∀j,j<i->g j=S j)->g i=R->Cons ops a0 (i+1) g l I K (p::js):=by
 obtain⟨J,st,h,k⟩:=h;let D:=Ft C;have W:∀t∈D,t∈Hu ops o:=λt z=>by obtain⟨p,X,rfl⟩:=Fw z;obtain⟨d,e⟩:=hq p X;rcases d with d|⟨_,d⟩;obtain⟨j,o',hj,q,s,_⟩:=x.r p d;exact I6 (sE.2 ⟨_,l7 q,by simp[s]⟩) e;obtain⟨j,o',hj,q,s,_⟩:=x.p p d;exact I6 (sE.2 ⟨_,l7 q,by simp[s]⟩) e
 refine⟨λb v w=>(y=true->b=true)/\∃a:Act,v=gR ops o a/\J (D.map λt=>a.eval (.tmp t)) w,⟨λ_ v a b ⟨h0,c,u,n⟩ A=>⟨h0,c,u,st _ _ _ n (M _ _ A)⟩,λv a b ⟨h0,c,u,n⟩ A=>⟨λ_=>rfl,c,u,st _ _ _ n (O (by cases y<;>simp_all) _ _ A)⟩⟩,λg b U hb B a w F A=>?_,_,k,λg B hi=>x.WF B ho f λb a w hs=>?_⟩;obtain⟨Y,u,n,h3⟩:=vW (a:=a) (h w A) λp X=>by obtain⟨d,e⟩:=hq p X;rcases d with d|⟨Z,d⟩;exact(nw G x B F e).2.1 p d rfl;exact(nw G x B F e).2.2 (hb Z).1 p d rfl
 have hF:vE N (Y++rr (xM ops.toList o) l (zp ops.toList o)) a:=by refine⟨F.size,λt v z=>?_⟩;rcases C4 z with h|h;exact n t v h;exact rz (λt hc v hv=>(nw G x B F hc).1 v hv) _ t v h
 refine iz hT hF u (λ_ _ h=>h.elim) (λV hw=>?_) λ_ _ h=>h.elim;obtain⟨hJ,aa⟩:=hw;rw[h3]at hJ;exact⟨_,by rw[f];rfl,aa,⟨λZ=>(hb Z).2,a,rfl,hJ⟩,rfl⟩;rw[hi]at hs;obtain⟨_,b,u,n⟩:=hs;have:(D.map λt=>b.eval (.tmp t))=D.map λt=>a.eval (.tmp t):=List.map_congr_left λt z=>(Ke u (W t z)).symm;rw[this]at n;exact n
def Nm(B:n5 P T)(n:∀c a w,a.tmps.size=N->a.defers=a0.defers->pn c w->Q (.panic c) a w)(q:lN ops N m=true){i:Nat}{S:Nat->Bool->fW}{l:L}{y z:List (Nat×fW)}{C:List A4}{D:List Nat}{o:Oper}{A:fW->Prop}(r:Cons ops a0 i S l y z C)(U:ops[i]? =some o) (h:UK P T pn E E' ops.toList w0 o D l y z A):∃R:fW,(∀v a b,R v a->E a b->R v b)/\A R/\
  (∀s:Nat->Bool->fW,(∀j,j<i->s j=S j)->∀a w,At ops a0 N i s false (oE o) a w->E w0 w->o.wp P a w (λF f=>∃v,F=a.put o.dst v/\E' w f/\R v f) Q):=by
 obtain⟨R,G,h,k⟩:=h;refine⟨R,G,k,λs u a w e H=>?_⟩;obtain⟨x,I,J,V⟩:=vW (a:=a) (h w H) λp d=>by rcases gl.1 d with d|d;exact(nw q r u e (fa d).2).2.2 rfl p (fa d).1 rfl;exact(nw q r u e (fa d).2).2.1 p (fa d).1 rfl
 have K:vE N (x++rr (xM ops.toList o) l (zp ops.toList o)) a:=by refine⟨e.size,λt v M=>?_⟩;rcases C4 M with h|h;exact J t v h;exact rz (λt O v g=>(nw q r u e O).1 v g) _ t v h
 refine iz B K I (λv f g=>?_) (λ_ h=>h.elim) λc f h=>n c a f e.size e.defers h;exact⟨v,rfl,g.2,g.1⟩
def Hx{a:Act}{g d:Nat}(e:(ops[g]?).bind (·.dst)=some d)(b:a.eval (.tmp d)=.bool D):yielded ops a.tmps g=some D:=by
 rw[kH]at b;unfold yielded;rw[e];simp only[vI];cases c:a.tmps[d]? with
 |none=>rw[c]at b;simp[undef]at b
 |some x=>rw[c]at b;simp at b;subst b;rfl
def Nn(ops:Array Oper)(i:Nat)(S:Nat->Bool->fW)(a:List Nat):Prop:=∀j∈a,∃o d,j<i/\ops[j]? =some o/\o.dst=some d/\∀u w,¬S j false u w
def Nn.next{ops:Array Oper}{i:Nat}{S a:Nat->Bool->fW}{b:List Nat}(h:Nn ops i S b)(c:∀j,j<i->a j=S j):Nn ops (i+1) a b:=λj e=>by obtain⟨o,d,f,g,k,l⟩:=h j e;exact⟨o,d,by omega,g,k,by rw[c j f];exact l⟩
theorem mem_iff{n:Nat}:∀{l:List Nat},mem n l=true->n∈l
 |x::r,h=>by simp only[mem]at h;split at h;rename_i a;rw[gE a];exact eR;exact eI _ (mem_iff h)
def S6{l0:L}(aL:∀t v,lk l0 t=some v->a0.eval (.tmp t)=v)(hT:n5 P T)(aB:∀c a w,a.tmps.size=N->a.defers=a0.defers->pn c w->Q (.panic c) a w)(hE:fw E)(ae:∀a b,E a b->E' a b)(hB:lN ops N m=true)(hK:∀l a w,rp a0.defers N l a->K l w->Q .normal a w):∀(r:List Oper) (i:Nat) (A:List Nat) (l:L) (M Z:List (Nat×fW)) (I:List A4) (lt:List Nat) (S:Nat->Bool->fW),(∀j,r[j]? =ops[i+j]?)->i+sV r=m->Cons ops a0 i S l M Z I->(∀j,Told E E' (S j))->Nn ops i S lt->DW P T N pn E E' sp ops.toList w0 l0 K i r A l M Z I lt->
  ∃f:Nat->Bool->fW,(∀j,j<i->f j=S j)/\(∀j,Told E E' (f j))/\(∀j o,i<=j->j<m->ops[j]? =some o->mJ E E' (λb w=>(b=true\/E w0 w)/\E' w0 w) sp P ops Q a0 N (λb j=>f j b) j o)/\rq (λb w=>(b=true\/E w0 w)/\E' w0 w) P ops Q a0 N m (λb j=>f j b):=by
 have aC:∀(b:Bool) (i:Nat) (S:Nat->Bool->fW) (l:L) (M Z:List (Nat×fW)) (I:List A4),i=m->Cons ops a0 i S l M Z I->∀a w,a.tmps.size=N->a.defers=a0.defers->(∀j,wrote ops j=false->a.eval (.tmp j)=a0.eval (.tmp j))->
  (∀i d,i<m->((ops[i]?).bind (·.dst))=some d->S i b (a.eval (.tmp d)) w)->(∀i o,i<m->ops[i]? =some o->o.dst=none->S i b (gR ops o a) w)->∀X:L->Prop,(xN M w λl'=>zq I l' w (X l'))->∃l',X l'/\rp a0.defers N (l'++l) a:=by
  rintro b i S l M Z I rfl B a w hz y hk hv ag X hf;obtain⟨l',h1,h2⟩:=zu (a:=a) hf λp hp=>by obtain⟨j,o,J,H,y,h⟩:=B.r p hp;exact h _ _ _ (hv j p.1 J (by rw[H];exact y))
  refine⟨l',vV h2 h1 (λp hp=>?_),⟨hz,λt v ht=>?_⟩,y⟩;obtain⟨j,o,J,H,y,h⟩:=B.j p hp;exact h _ _ _ (ag j o J H y);rcases C4 ht with h|h;exact h2 t v h;rcases B.l t v h with⟨hw,h⟩|⟨j,o,J,H,y,h⟩;rw[hk t hw];exact h;exact h _ _ _ (hv j t J (by rw[H];exact y))
 intro r;induction r with
 |nil=>
  intro i A l M Z I lt S hr hi B an G h;have ao:i=m:=by simpa[sV]using hi
  refine⟨S,λ_ _=>rfl,an,λj o h1 h2=>by omega,λb a w hz y hk hv ag he=>?_⟩;have aT:ops.size<=m:=by have:=hr 0;simp only[List.getElem?_nil,mT]at this;have:=Array.getElem?_eq_none_iff.1 this.symm;omega
  refine⟨λ_=>?_,λh=>by omega⟩;obtain⟨l',h1,hF⟩:=aC b i S l M Z I ao B a w hz y hk hv ag _ (h w he.2);exact hK _ a w hF h1
 |cons o r ih=>
  intro i A l M Z I lt S hr hi B an G h;have H:ops[i]? =some o:=(hr 0).symm;have aU:i<ops.size:=(eP.1 H).1;have aM:∀j,r[j]? =ops[i+1+j]? :=λj=>by have:=hr (j+1);simpa[yz,Nat.add_comm 1 j]using this
  unfold DW at h;split at h;rename_i ht;have ao:i=m:=by simpa[sV,ht]using hi
  refine⟨S,λ_ _=>rfl,an,λj o h1 h2=>by omega,λb a w hz y hk hv ag he=>⟨λh=>by omega,λ_=>?_⟩⟩;obtain⟨l',h1,hF⟩:=aC b i S l M Z I ao B a w hz y hk hv ag _ (h w he.2);have aD:o.dst=none/\o.guard=none:=by unfold Hv at ht;split at ht;rename_i h1 h2;exact⟨h1,h2⟩;cases ht
  unfold wpOp;rw[<-ao,H];simp only[Region.wanted,aD.2,cX];refine .inl (iz hT hF.b h1 (λ_ _ h=>h.elim) (λO h'=>?_) λ_ _ h=>h.elim);rw[aD.1];exact hK _ a O hF h';rename_i ht;have aN:i+1+sV r=m:=by simp only[sV,ht]at hi;omega
  have aa:∀(R:Bool->fW) (ax:List Nat) (l':L) (ab ac:List (Nat×fW)) (ap:List A4) (aq:List Nat),Told E E' R->(∀f:Nat->Bool->fW,(∀j,j<i->f j=S j)->f i=R->Cons ops a0 (i+1) f l' ab ac ap)->(∀f:Nat->Bool->fW,(∀j,j<i->f j=S j)->f i=R->Nn ops (i+1) f aq)->DW P T N pn E E' sp ops.toList w0 l0 K (i+1) r ax l' ab ac ap aq->
   (∀f:Nat->Bool->fW,(∀j,j<i->f j=S j)->f i=R->mJ E E' (λb w=>(b=true\/E w0 w)/\E' w0 w) sp P ops Q a0 N (λb j=>f j b) i o)->
   ∃f:Nat->Bool->fW,(∀j,j<i->f j=S j)/\(∀j,Told E E' (f j))/\(∀j o,i<=j->j<m->ops[j]? =some o->mJ E E' (λb w=>(b=true\/E w0 w)/\E' w0 w) sp P ops Q a0 N (λb j=>f j b) j o)/\rq (λb w=>(b=true\/E w0 w)/\E' w0 w) P ops Q a0 N m (λb j=>f j b):=by
   intro R ax l' ab ac ap aq hR af aE h' n;let S1:Nat->Bool->fW:=λj=>if j=i then R else S j
   have ay:∀j,j<i->S1 j=S j:=λj J=>by simp only[S1];rw[cr (by omega)]
   have ah:S1 i=R:=by show(if i=i then _ else _)=_;rw[cx rfl]
   obtain⟨f,h1,h2,h3,h4⟩:=ih (i+1) ax l' ab ac ap aq S1 aM aN (af S1 ay ah) (λj=>by simp only[S1];split;exact hR;exact an j) (aE S1 ay ah) h';have z:∀j,j<i->f j=S j:=λj J=>(h1 j (by omega)).trans (ay j J);refine⟨f,z,h2,λj o' J aO az=>?_,h4⟩;rcases Nat.eq_or_lt_of_le J with rfl|J;rw[H]at az;obtain rfl:=cE az;exact n f z ((h1 i (by omega)).trans ah);exact h3 j o' J aO az
  split at h;rename_i ai;have ar:o.dst=none/\o.guard=none:=by unfold I3 at ai;split at ai;rename_i h1 h2;exact⟨h1,h2⟩;cases ai
  split at h;rename_i s;have s:=gE s;unfold runT at h;obtain⟨R,hR,n,p,h',af⟩:=BI (E:=E) (Q:=Q) (go:=λp=>DW P T N pn E E' sp ops.toList w0 l0 K (i+1) r A l (zt Z M) [] (p::I) lt) hT hB ae true (λ_ _ h=>h) (λh=>by cases h) (λp hp=>(gl.1 hp).elim (λh=>⟨.inr ⟨rfl,(fa h).1⟩,(fa h).2⟩) λh=>⟨.inl (fa h).1,(fa h).2⟩) B H ar.1 h;refine aa R A l (zt Z M) [] (p::I) lt hR (λf q hi=>(af f q hi).X4) (λf q _=>G.next q) h' λf z U b a w hb hz V hk hv he=>?_;obtain rfl:=hb (.inl s);have hs:=n f false true (λ_=>⟨rfl,rfl⟩) z a w ⟨hz,V,hk,hv⟩ (he.1.resolve_left (by simp));unfold wpOp;rw[H];simp only[Region.wanted,ar.2,cX];refine .inl ?_;simp only[cx s];rw[U];refine Oper.wp_mono (λa' O hx=>?_) hs;obtain⟨v,q1,q2,q3,q4⟩:=hx;exact⟨v,q1,q2,by simpa[s]using q3,λ_=>q4⟩;rename_i s;have s:=vH s;unfold UJ at h;obtain⟨R,hR,n,p,h',af⟩:=BI (E:=E) (Q:=Q) (go:=λp=>DW P T N pn E E' sp ops.toList w0 l0 K (i+1) r A l M Z (p::I) lt) hT hB ae false ae (λ_ _ _ h=>h) (λp hp=>⟨.inl (fa hp).1,(fa hp).2⟩) B H ar.1 h;refine aa R A l M Z (p::I) lt hR af (λf q _=>G.next q) h' λf z U b a w hb hz V hk hv he=>?_;have hs:=n f b b (λh=>by cases h) z a w ⟨hz,V,hk,hv⟩ he.2;unfold wpOp;rw[H];simp only[Region.wanted,ar.2,cX];refine .inl ?_;simp only[cr s];rw[U];refine Oper.wp_mono (λa' O hx=>?_) hs;obtain⟨v,q1,q2,q3,q4⟩:=hx;exact⟨v,q1,q2,by simpa[s]using q3,λ_=>q4⟩;rename_i aS;obtain⟨h,y⟩:=I2 h
  have aj:∀(A:List Nat) (l:L),Cons ops a0 i S l M Z I->(∀(f:Nat->Bool->fW) (b:Bool),(∀j,j<i->f j=S j)->∀a w,At ops a0 N i f b (oE o) a w->Region.wanted o (yielded ops a.tmps)=true)->Fv P T N pn E E' ops.toList w0 i l0 o A l M Z (uE lt o) (ry ops.toList sp i) (λl' ab ac lb=>DW P T N pn E E' sp ops.toList w0 l0 K (i+1) r A l' ab ac I (Hw lb i lt))->
   ∃f:Nat->Bool->fW,(∀j,j<i->f j=S j)/\(∀j,Told E E' (f j))/\(∀j o,i<=j->j<m->ops[j]? =some o->mJ E E' (λb w=>(b=true\/E w0 w)/\E' w0 w) sp P ops Q a0 N (λb j=>f j b) j o)/\rq (λb w=>(b=true\/E w0 w)/\E' w0 w) P ops Q a0 N m (λb j=>f j b):=by
   intro A l B hw h;obtain⟨R,hR,n,l',ab,ac,aF,h',aG,af⟩:=Nl (Q:=Q) hT aB hE ae hB aL B H h;let R1:Bool->fW:=λb v w=>o.dst=none\/R b v w;have aH:∀d,o.dst=some d->R1=R:=λd y=>by funext b v w;simp only[R1,y];simp
   refine aa R1 A l' ab ac I (Hw aF i lt) ⟨λb v w O h e=>h.imp id λh=>hR.e b v w O h e,λv w O h e=>h.imp id λh=>hR.x v w O h e⟩ (λf q hi=>af f q λd y=>hi.trans (aH d y)) (λf q hi=>by
    cases aF with
    |false=>exact G.next q
    |true=>
     obtain⟨h1,h2⟩:=aG rfl;intro j J;rcases eQ.1 J with rfl|J;cases y:o.dst with
     |none=>unfold uE at h1;rw[y]at h1;cases h1
     |some d=>exact⟨o,d,Nat.lt_succ_self _,H,y,by rw[hi,aH d y];exact h2⟩
     exact G.next q j J) h' λf z U b a w hb hz V hk hv he=>?_
   have F:At ops a0 N i f b (oE o) a w:=⟨hz,V,hk,hv⟩
   have aP:uE lt o=true->b=true:=λau=>by
    unfold uE at au;split at au;obtain⟨e,ak,D⟩:=lO au;split at D;rename_i al;obtain⟨o2,d2,g1,g2,g3,g4⟩:=G _ (mem_iff D);have av:=hv e.on d2 (sE.2 ⟨e,by simpa using ak,by simp[al]⟩) (by rw[g2];exact g3);cases b with
    |true=>rfl
    |false=>
     simp only[z _ g1]at av;exact absurd av (g4 _ _)
    cases D
    cases au
   have aQ:ry ops.toList sp i=true->b=false/\E w0 w:=λC=>by
    skip
    have aR:∀{k j:Nat},Nj ops.toList k j=true->waits ops k j=true:=λ{k j} C=>by
     unfold Nj at C;unfold waits;rw[x6]at C;have hg:ops.toList[k]? =ops[k]? :=by simp
     rw[hg]at C;split at C;rename_i o2 aA;obtain⟨e,ak,D⟩:=lO C;rw[aA];split at D;rename_i al;exact sE.2 ⟨e,by simpa using ak,by simp[gE D,al]⟩;cases D;cases C
    have hw:RB ops sp i:=by
     unfold ry at C;rw[x6]at C;have hg:ops.toList[sp]? =ops[sp]? :=by simp
     rw[hg]at C;split at C;rename_i o2 aA;obtain⟨e,ak,D⟩:=lO C;split at D;rename_i al;have aI:waits ops sp e.on=true:=by unfold waits;rw[aA];exact sE.2 ⟨e,by simpa using ak,by simp[al]⟩
     split at D;rename_i hx;rw[<-gE hx];exact .inl aI;exact .inr ⟨e.on,aI,aR D⟩;cases D;cases C
    exact⟨hb (.inr hw),he.1.resolve_left (by rw[hb (.inr hw)];simp)⟩
   have hs:=n f b aP z a w F aQ he.2;unfold wpOp;rw[H];simp only[hw f b z a w F,cX];refine .inl ?_;rw[U];refine Oper.wp_mono (λa' O hx=>?_) hs;obtain⟨v,q1,q2,q3⟩:=hx;have q5:if i=sp then E' w O else E w O:=by split;exact ae _ _ q2;exact q2
   have q6:R1 (b||decide (i=sp)) v O:=by by_cases e:i=sp;rw[hb (.inl e)]at q3;have:=hR.x v O O q3 (ae _ _ (hE.refl O));simpa[e,hb (.inl e)]using(Or.inr this:R1 true v O);simpa[e]using(Or.inr q3:R1 b v O)
   cases ad:o.dst with
   |none=>exact⟨gR ops o a,by rw[q1,ad];rfl,q5,.inl ad,λ_=>rfl⟩
   |some d=>exact⟨v,by rw[q1,ad],q5,q6,λh=>by cases h⟩
  have skip:∀(A:List Nat) (l:L),Cons ops a0 i S l M Z I->(∀(f:Nat->Bool->fW) (b:Bool),(∀j,j<i->f j=S j)->∀a w,At ops a0 N i f b (oE o) a w->Region.wanted o (yielded ops a.tmps)=false)->DW P T N pn E E' sp ops.toList w0 l0 K (i+1) r A (W.ins N o.dst undef l) M Z I lt->
   ∃f:Nat->Bool->fW,(∀j,j<i->f j=S j)/\(∀j,Told E E' (f j))/\(∀j o,i<=j->j<m->ops[j]? =some o->mJ E E' (λb w=>(b=true\/E w0 w)/\E' w0 w) sp P ops Q a0 N (λb j=>f j b) j o)/\rq (λb w=>(b=true\/E w0 w)/\E' w0 w) P ops Q a0 N m (λb j=>f j b):=by
   intro A l B hw h';let R1:Bool->fW:=λ_ u _=>o.dst=none\/u=undef;refine aa R1 A _ M Z I lt ⟨λ_ _ _ _ h _=>h,λ_ _ _ h _=>h⟩ (λf q hi=>B.ins q H λd y b u w hu=>by rw[hi]at hu;rcases hu with hu|hu;rw[y]at hu;cases hu;exact hu) (λf q _=>G.next q) h' λf z U b a w hb hz V hk hv he=>?_;have F:At ops a0 N i f b (oE o) a w:=⟨hz,V,hk,hv⟩;unfold wpOp;rw[H];simp only[hw f b z a w F,iq,eo];rw[U];have q5:if i=sp then E' w w else E w w:=by split;exact ae _ _ (hE.refl w);exact hE.refl w
   cases ad:o.dst with
   |none=>exact⟨gR ops o a,rfl,q5,.inl ad,λ_=>rfl⟩
   |some d=>exact⟨undef,rfl,q5,.inr rfl,λh=>by cases h⟩
  split at h;rename_i hg;split at h;rename_i s;have s:=gE s;obtain⟨R,hR,h',n⟩:=Nm (Q:=Q) hT aB hB B H h
  refine aa (λb v w=>o.dst=none\/(b=true/\R v w)) A l _ [] I _ ⟨λb v w O h e=>h.imp (λh=>h) λh=>⟨h.1,hR _ _ _ h.2 e⟩,λv w O h _=>h.imp (λh=>h) λh=>by cases h.1⟩ (λf q hi=>B.X4.A5 q H λd y b u w hu=>by
   rw[hi]at hu;rcases hu with hu|hu;rw[y]at hu;cases hu;exact hu.2) (λf q hi=>by
   intro j J;cases y:o.dst with
   |none=>rw[y]at J;cases J
   |some d=>
    rw[y]at J;obtain rfl:=fD.1 J;exact⟨o,d,Nat.lt_succ_self _,H,y,λu w hx=>by rw[hi]at hx;rcases hx with hx|hx;rw[y]at hx;cases hx;cases hx.1⟩) h' λf z U b a w hb hz V hk hv he=>?_
  obtain rfl:=hb (.inl s);have hs:=n f z a w ⟨hz,V,hk,hv⟩ (he.1.resolve_left (by simp));unfold wpOp;rw[H];simp only[Region.wanted,hg,cX];refine .inl ?_;simp only[cx s];rw[U];refine Oper.wp_mono (λa' O hx=>?_) hs;obtain⟨v,q1,q2,q3⟩:=hx;cases ad:o.dst with
  |none=>exact⟨gR ops o a,by rw[q1,ad];rfl,q2,.inl rfl,λ_=>rfl⟩
  |some d=>exact⟨v,by rw[q1,ad],q2,.inr ⟨by simp[s],q3⟩,λh=>by cases h⟩
  exact aj A l B (λ_ _ _ _ _ _=>by simp[Region.wanted,hg]) h;rename_i g am hg;split at h;exact h.elim;rename_i d aJ;rw[pf]at aJ;have aK:(ops[g]?).bind (·.dst)=some d:=by simpa using aJ
  split at h;exact h.elim;rename_i aw;split at h;rename_i b hb;have hw:∀(f:Nat->Bool->fW) (Y:Bool),(∀j,j<i->f j=S j)->∀a w,At ops a0 N i f Y (oE o) a w->Region.wanted o (yielded ops a.tmps)=(b==am):=λf Y q a w F=>by have:=(nw hB B q F aw).1 _ hb;simp[Region.wanted,hg,Hx aK this]
  split at h;cases b<;>cases am<;>simp only at h;exact aj A l B (λf Y q a w F=>by rw[hw f Y q a w F];rfl) h;exact skip A l B (λf Y q a w F=>by rw[hw f Y q a w F];rfl) h;exact skip A l B (λf Y q a w F=>by rw[hw f Y q a w F];rfl) h;exact aj A l B (λf Y q a w F=>by rw[hw f Y q a w F];rfl) h;cases am<;>simp only at h<;>cases b;exact aj (d::A) ((d,.bool false)::l) (B.zk hb) (λf Y q a w F=>by rw[hw f Y q a w F];rfl) (h.2 rfl);exact skip (d::A) ((d,.bool true)::l) (B.zk hb) (λf Y q a w F=>by rw[hw f Y q a w F];rfl) (h.1 rfl);exact skip (d::A) ((d,.bool false)::l) (B.zk hb) (λf Y q a w F=>by rw[hw f Y q a w F];rfl) (h.2 rfl);exact aj (d::A) ((d,.bool true)::l) (B.zk hb) (λf Y q a w F=>by rw[hw f Y q a w F];rfl) (h.1 rfl);rename_i vs hb;exact skip A l B (λf Y q a w F=>by have:=wZ aK ((nw hB B q F aw).1 _ hb);simp[Region.wanted,hg,this]) h;exact h.elim
def Fx(F:n5 P T)(q:∀c a w,a.tmps.size=N->a.defers=a0.defers->pn c w->Q (.panic c) a w)(s:fw E)(f:fw E')(g:∀a b,E a b->E' a b)(G:P.follows .mixedOrders=true){l:L}{H:Nat}(A:lN ops N m=true)(u:sV ops.toList=m)(y:vE N l a0)(I:∀l a w,rp a0.defers N l a->K l w->Q .normal a w) (h:DW P T N pn E E' sp ops.toList w0 l K 0 ops.toList [] (xe ops.toList l) [] [] [] []):(Code.region H ops true).wp P Q a0 w0:=by
 have drop:∀(l:L),∀t v,lk (xe ops.toList l) t=some v->wrote ops t=false/\lk l t=some v:=by
  intro l;induction l with
  |nil=>intro t v h;cases h
  |cons p r B=>
   intro t v h;simp only[xe]at h;split at h;rename_i d;obtain⟨C,n⟩:=B t v h;refine⟨C,?_⟩;simp only[lk];split;rename_i z;obtain rfl:=gE z;rw[si,C]at d;cases d;exact n;rename_i d;simp only[lk]at h⊢;split at h;rename_i z;obtain rfl:=gE z;rw[si]at d;exact⟨d,h⟩;exact B t v h
 obtain⟨U,_,n,J,M⟩:=S6 (Q:=Q) (a0:=a0) (sp:=sp) y.at_ F q s g A I ops.toList 0 [] _ [] [] [] [] (λ_ _ _ _=>True) (λj=>by simp) (by simpa using u)
  ⟨λt v D=>.inl ⟨(drop l t v D).1,y.at_ t v (drop l t v D).2⟩,(λp d=>by cases d),(λp d=>by cases d),λp d=>by cases d⟩ (λ_=>⟨λ_ _ _ _ _ _=>trivial,λ_ _ _ _ _=>trivial⟩) (λj O=>by cases O) h
 refine xL (E:=E) (E':=E') (sp:=sp) (Rch:=λb w=>(b=true\/E w0 w)/\E' w0 w) G A ⟨λb i v w k=>(n i).e b v w k,λi v w k=>(n i).x v w k,λb w k h e=>⟨h.1.imp (λh=>h) λh=>s.trans _ _ _ h e,f.trans _ _ _ h.2 (g _ _ e)⟩,λw k h e=>⟨.inl rfl,f.trans _ _ _ h.2 e⟩⟩ ⟨.inr (s.drew _),f.drew _⟩ y.size (λi o R S=>J i o (fN _) R S) M
end
end Go.Proofs.W
variable{m k i j o p s d:Nat}{a:Option Go.Addr}{h:Go.Addr}
namespace Go.Proofs.W
open Go.RowKit
def UM:List (Nat×List Nat):=[(24,[0,1,2,3,4,5,6]),(29,[0,1]),(56,[0,1]),(81,[0,1,2]),(84,[0,1,2]),(101,[0,1,2,3]),(121,[0,1,2]),(125,[0,1,2,3,4]),(141,[0,1,2]),(166,[0,1,2,3,4,7]),(173,[0,1,2,3,4]),(184,[0,1]),(186,[0,7,43,44,45]),(199,[0,1,2,3]),(207,[0,1,2,3]),(220,[0,1]),(245,[0,1,2,8]),(247,[0,1])]
def Qe:List (Nat×List Nat)->Nat->Nat->Option Nat
 |[],_,_=>none
 |p::r,S,i=>match Nat.beq p.1 S with
  |true=>nth p.2 i
  |false=>Qe r S i
def Hy:BC:=⟨Qe UM⟩
noncomputable def I7(p:Nat×List Nat):Bool:=match Tryz.prog.underlying p.1 with
 |some (.struct a)=>(List.range p.2.length).all λi=>match nth p.2 i,a[i]? with
  |some d,some f=>f.offset==d&&(match Tryz.prog.info? f.type with
   |some x=>x.size !=0
   |none=>false)
  |_,_=>false
 |_=>false
def WG:UM.all I7=true:=by kernel_rfl
theorem Fy:∀(l:List (Nat×List Nat)) (S i d:Nat),Qe l S i=some d->∃p∈l,p.1=S/\nth p.2 i=some d
 |p::r,S,i,d,h=>by simp only[Qe]at h;split at h;rename_i a;exact⟨p,eR,gE a,h⟩;obtain⟨q,b,c⟩:=Fy r S i d h;exact⟨q,eI _ b,c⟩
theorem No{a:Type}:∀{l:List a} {i:Nat} {d:a},nth l i=some d->i<l.length
 |_::_,0,_,_=>Nat.succ_pos _
 |_::r,n+1,_,h=>Nat.succ_lt_succ (No (l:=r) h)
def fZ{t:cg}{d:TypeDesc}(h:Tryz.prog.underlying t=some d)(w:cd):Sem.run V.prog (underlying t) w=.ok d w:=by rw[V.vJ];unfold underlying;rw[Sem.run_bind,run_program,Result.andThen_ok,h,Sem.run_pure]
def Fz{t:cg}{x:TypeInfo}(h:Tryz.prog.info? t=some x)(w:cd):Sem.run V.prog (typeInfo t) w=.ok x w:=by rw[V.D5];unfold typeInfo;rw[Sem.run_bind,run_program,Result.andThen_ok,h,Sem.run_pure]
def Hz{t:cg}{x:TypeInfo}(h:Tryz.prog.info? t=some x)(w:cd):Sem.run V.prog (sizeOf t) w=.ok x.size w:=by unfold sizeOf;rw[Sem.run_bind,Fz h,Result.andThen_ok,Sem.run_pure]
def Np{t:cg}{x:TypeInfo}{z:ce}(h:Tryz.prog.info? t=some x)(a:x.zero=some z)(w:cd):Sem.run V.prog (zeroValue t) w=.ok z w:=by unfold zeroValue;rw[Sem.run_bind,Fz h,Result.andThen_ok,a,Sem.run_pure]
def jG:n5 V.prog Hy:=⟨λS i d h b o w=>by
 obtain⟨p,l,rfl,k⟩:=Fy _ _ _ _ h;have c:=jF.1 WG p l;unfold I7 at c;split at c;rename_i r m;have a:=jF.1 c i (eJ.2 (No k));rw[k]at a;split at a;rename_i s f e n;obtain rfl:=cE e;simp only[ez,qM]at a;obtain⟨rfl,g⟩:=a;split at g;rename_i x q;have j:x.size≠0:=by simpa using g
 unfold Instr.fieldAt;rw[Sem.run_bind,fZ m,Result.andThen_ok];simp only[n,Instr.sureAddr,pure_bind,fieldPlace,Sem.run_bind,Hz q,Result.andThen_ok,cr j,Sem.run_pure];simp[Addr.add];cases g;cases a;cases c⟩
structure TI where
 kd:Nat
 sz:Nat
 es:Nat
 ln:Nat
def X6:List (Nat×TI):=[(3,⟨0,1,0,0⟩),(4,⟨0,1,0,0⟩),(22,⟨3,1,3,0⟩),(24,⟨1,7,0,0⟩),(25,⟨3,1,3,0⟩),(26,⟨3,1,2,0⟩),(27,⟨3,1,1,0⟩),(29,⟨1,2,0,0⟩),(31,⟨0,1,0,0⟩),(38,⟨0,1,0,0⟩),(43,⟨3,1,7,0⟩),(44,⟨3,1,1,0⟩),(45,⟨3,1,1,0⟩),(56,⟨1,2,0,0⟩),(60,⟨0,1,0,0⟩),(64,⟨3,1,1,0⟩),(66,⟨3,1,1,0⟩),(81,⟨1,3,0,0⟩),(84,⟨1,3,0,0⟩),(95,⟨3,1,4,0⟩),(101,⟨1,4,0,0⟩),(112,⟨0,1,0,0⟩),(117,⟨3,1,1,0⟩),(119,⟨0,1,0,0⟩),(121,⟨1,3,0,0⟩),(125,⟨1,5,0,0⟩),(133,⟨0,1,0,0⟩),(138,⟨0,1,0,0⟩),(139,⟨3,1,8,0⟩),(141,⟨1,3,0,0⟩),(154,⟨0,1,0,0⟩),(164,⟨2,3,1,3⟩),(166,⟨1,8,0,0⟩),(173,⟨1,5,0,0⟩),(178,⟨2,6,1,6⟩),(179,⟨2,36,6,6⟩),(180,⟨0,1,0,0⟩),(181,⟨0,1,0,0⟩),(182,⟨0,1,0,0⟩),(184,⟨1,2,0,0⟩),(186,⟨1,47,0,0⟩),(199,⟨1,4,0,0⟩),(200,⟨0,1,0,0⟩),(204,⟨2,6,1,6⟩),(205,⟨2,32,1,32⟩),(207,⟨1,35,0,0⟩),(209,⟨0,1,0,0⟩),(217,⟨2,5,1,5⟩),(220,⟨1,2,0,0⟩),(222,⟨3,1,1,0⟩),(225,⟨3,1,1,0⟩),(243,⟨0,1,0,0⟩),(245,⟨1,12,0,0⟩),(247,⟨1,5,0,0⟩),(248,⟨3,1,4,0⟩)]
def VI:List (Nat×TI)->Nat->Option TI
 |[],_=>none
 |p::r,S=>match Nat.beq p.1 S with
  |true=>some p.2
  |false=>VI r S
def ty(t:Nat):Option TI:=VI X6 t
noncomputable def zv(t n:Nat):Bool:=match Tryz.prog.info? t with
 |some x=>x.size==n
 |none=>false
noncomputable def TY(p:Nat×TI):Bool:=zv p.1 p.2.sz&&(match Tryz.prog.underlying p.1 with
 |some (.struct _)=>p.2.kd==1
 |some (.array n e)=>p.2.kd==2&&p.2.ln==n&&zv e p.2.es
 |some (.slice e)=>p.2.kd==3&&zv e p.2.es
 |some _=>p.2.kd==0
 |none=>false)
def WH:X6.all TY=true:=by kernel_rfl
theorem I8:∀(l:List (Nat×TI)) (S:Nat) (d:TI),VI l S=some d->(S,d)∈l
 |p::r,S,d,h=>by simp only[VI]at h;split at h;rename_i a;obtain rfl:=gE a;obtain rfl:=cE h;exact eR;exact eI _ (I8 r S d h)
def I9{t:Nat}{x:TI}(h:ty t=some x):TY (t,x)=true:=jF.1 WH _ (I8 _ _ _ h)
def lq{t n:Nat}(h:zv t n=true)(w:cd):Sem.run V.prog (sizeOf t) w=.ok n w:=by unfold zv at h;split at h;rename_i x a;rw[Hz a,qM.1 h];cases h
def Qf{t:Nat}{x:TI}(h:ty t=some x)(w:cd):Sem.run V.prog (sizeOf t) w=.ok x.sz w:=by have:=I9 h;simp only[TY,ez]at this;exact lq this.1 w
def S7{t:Nat}{x:TI}(h:ty t=some x)(w:cd):Sem.run V.prog (isAgg t) w=.ok (x.kd==1||x.kd==2) w:=by
 have:=I9 h;simp only[TY,ez]at this;have a:=this.2;unfold isAgg;cases b:Tryz.prog.underlying t with
 |none=>rw[b]at a;cases a
 |some d=>
  rw[b]at a;rw[Sem.run_bind,fZ b,Result.andThen_ok];cases d<;>simp only[ez,qM]at a<;>simp[a]
def rA{t:Nat}{x:TI}(h:ty t=some x)(c:x.kd=3):∃e,Tryz.prog.underlying t=some (.slice e)/\zv e x.es=true:=by
 have:=I9 h;simp only[TY,ez]at this;have a:=this.2;cases b:Tryz.prog.underlying t with
 |none=>rw[b]at a;cases a
 |some d=>
  rw[b]at a;cases d<;>simp only[ez,qM]at a<;>first|(exfalso;omega)|skip
  exact⟨_,rfl,a.2⟩
def FA{t:Nat}{x:TI}(h:ty t=some x)(c:x.kd=2):∃e,Tryz.prog.underlying t=some (.array x.ln e)/\zv e x.es=true:=by
 have:=I9 h;simp only[TY,ez]at this;have a:=this.2;cases b:Tryz.prog.underlying t with
 |none=>rw[b]at a;cases a
 |some d=>
  rw[b]at a;cases d<;>simp only[ez,qM]at a<;>first|(exfalso;omega)|skip
  exact⟨_,by rw[a.1.2],a.2⟩
def zL:List (Nat×List ce):=[(3,[.int .i64 0]),(24,[.int .i64 0,.int .i64 0,.int .i64 0,.int .i64 0,.int .i64 0,.int .i64 0,.slice none 0 0]),(27,[.slice none 0 0]),(29,[.int .i64 0,.slice none 0 0]),(31,[.nilFunc]),(56,[.int .i64 0,.int .i64 0]),(66,[.slice none 0 0]),(81,[.int .i64 0,.int .i64 0,.int .i64 0]),(84,[.int .i64 0,.int .i64 0,.bool false]),(101,[.int .i64 0,.int .i64 0,.bool false,.bool false]),(125,[.bool false,.int .i64 0,.int .i64 0,.slice none 0 0,.slice none 0 0]),(141,[.pointer none,.slice none 0 0,.int .i64 0]),(166,[.int .i64 0,.int .i64 0,.int .i64 0,.bool false,.bool false,.bool false,.bool false,.bool false]),(173,[.bool false,.int .i64 0,.int .i64 0,.int .i64 0,.int .i64 0]),(178,[.int .i64 0,.int .i64 0,.int .i64 0,.int .i64 0,.int .i64 0,.int .i64 0]),(186,[.int .i64 0,.int .i64 0,.int .i64 0,.int .i64 0,.int .i64 0,.int .i64 0,.slice none 0 0,.int .i64 0,.int .i64 0,.int .i64 0,.int .i64 0,.int .i64 0,.int .i64 0,.int .i64 0,.int .i64 0,.int .i64 0,.int .i64 0,.int .i64 0,.int .i64 0,.int .i64 0,.int .i64 0,.int .i64 0,.int .i64 0,.int .i64 0,.int .i64 0,.int .i64 0,.int .i64 0,.int .i64 0,.int .i64 0,.int .i64 0,.int .i64 0,.int .i64 0,.int .i64 0,.int .i64 0,.int .i64 0,.int .i64 0,.int .i64 0,.int .i64 0,.int .i64 0,.int .i64 0,.int .i64 0,.int .i64 0,.int .i64 0,.map none,.map none,.nilFunc,.nilFunc]),(199,[.slice none 0 0,.int .i64 0,.int .i64 0,.bool false]),(204,[.int .u8 0,.int .u8 0,.int .u8 0,.int .u8 0,.int .u8 0,.int .u8 0]),(209,[.nilFunc]),(217,[.bool false,.bool false,.bool false,.bool false,.bool false]),(220,[.slice none 0 0,.bool false]),(225,[.slice none 0 0]),(247,[.int .i64 0,.slice none 0 0,.int .i64 0,.int .i64 0,.bool false])]
def zG:List (Nat×List ce)->Nat->Option (List ce)
 |[],_=>none
 |p::r,S=>match Nat.beq p.1 S with
  |true=>some p.2
  |false=>zG r S
def zc(t:Nat):Option (List ce):=zG zL t
noncomputable def VJ(t:Nat):Option ce:=(Tryz.prog.info? t).bind (·.zero)
def Zf:(zL.map λp=>(VJ p.1).map (·.cells.toList))=zL.map λp=>some p.2:=by kernel_rfl
theorem RF:∀(l:List (Nat×List ce)),(l.map λp=>(VJ p.1).map (·.cells.toList))=(l.map λp=>some p.2)->∀t a,zG l t=some a->(VJ t).map (·.cells.toList)=some a
 |p::r,h,t,a,b=>by simp only[jP,qm]at h;simp only[zG]at b;split at b;rename_i c;obtain rfl:=gE c;obtain rfl:=cE b;exact h.1;exact RF r h.2 t a b
def S8{t:Nat}{b:List ce}(h:zc t=some b):∃z,z.cells=b.toArray/\∀w,Sem.run V.prog (zeroValue t) w=.ok z w:=by
 have a:=RF _ Zf t b h;unfold VJ at a;cases c:Tryz.prog.info? t with
 |none=>rw[c]at a;cases a
 |some x=>
  rw[c]at a;simp only[vI]at a;cases d:x.zero with
  |none=>rw[d]at a;cases a
  |some z=>
   rw[d]at a;refine⟨z,?_,λw=>Np c d w⟩;have:=cE a;rw[<-this]
section
variable{w:cd}{k:ce->cd->Prop}{s:cd->Prop}
def Qg(a b:Nat):(a==b)=Nat.beq a b:=by
 cases h:Nat.beq a b with
 |true=>simpa using gE h
 |false=>simpa using vH h
def HB(t:Nat):Option Bool:=match ty t with
 |some x=>match Nat.beq x.kd 1 with
  |true=>some true
  |false=>some (Nat.beq x.kd 2)
 |none=>none
def zw{t:Nat}{b:Bool}(h:HB t=some b)(w:cd):Sem.run V.prog (isAgg t) w=.ok b w:=by
 unfold HB at h;split at h;rename_i x c;rw[S7 c];split at h;rename_i a;obtain rfl:=cE h;have:x.kd=1:=gE a;simp[this];rename_i a;obtain rfl:=cE h;have:x.kd≠1:=vH a;have e:(x.kd==1)=false:=by simpa using this
 rw[e,Bool.false_or,Qg];cases h
def RG(t:Nat):Option Nat:=match ty t with
 |some x=>some x.sz
 |none=>none
def C5{t n:Nat}(h:RG t=some n)(w:cd):Sem.run V.prog (sizeOf t) w=.ok n w:=by unfold RG at h;split at h;rename_i x a;obtain rfl:=cE h;exact Qf a w;cases h
def cu{t:cg}{v:ce}(c:w.cell? h=some v)(a:k v w)(b:HB t=some false:=by rfl):iO V.prog (Instr.loadAt t (.pointer (some h))) w k:=by refine⟨v,w,?_,a⟩;simp only[Instr.loadAt,Instr.sureAddr,pure_bind,loadVar,Sem.run_bind,zw b,Result.andThen_ok,iq,eo];go_simp
def fL(b o j:Nat):(⟨b,o,none⟩:Addr).add j=⟨b,o+j,none⟩:=by unfold Addr.add;split<;>simp_all
def dP{t:cg}{vs:List ce}(a:∀j v,vs[j]? =some v->w.cell? ⟨i,o+j,none⟩=some v)(h:k (.agg vs.toArray) w)(b:HB t=some true:=by rfl)(c:RG t=some vs.length:=by rfl):
 iO V.prog (Instr.loadAt t (.pointer (some ⟨i,o,none⟩))) w k:=by
 refine⟨_,w,?_,h⟩;have d:=run_loadCells_list (P:=V.prog) w ⟨i,o,none⟩ vs λj v e=>by rw[fL];exact a j v e
 simp only[Instr.loadAt,Instr.sureAddr,pure_bind,loadVar,Sem.run_bind,zw b,C5 c,Result.andThen_ok,cX,d,Sem.run_pure]
def fT(a:Array ce)(o:Nat):List ce->Array ce
 |[]=>a
 |v::r=>fT (a.setIfInBounds o v) (o+1) r
theorem rB:∀(d:List ce) (w:cd) (b o:Nat) (a:Array ce) (t:cg) (c:Nat×Nat),w.heap[b]? =some (.cells a t c)->(w.setCells b o d).heap[b]? =some (.cells (fT a o d) t c)
 |[],w,b,o,a,t,c,h=>h
 |v::r,w,b,o,a,t,c,h=>rB r (w.setCell ⟨b,o,none⟩ v) b (o+1) (a.setIfInBounds o v) t c (by simp[World.setCell,sL,h])
theorem oF:∀(c:List ce) (w a:cd) (b o:Nat),cN (λx=>x=b) a w->cN (λx=>x=b) a (w.setCells b o c)
 |[],_,_,_,_,h=>h
 |v::r,w,a,b,o,h=>oF r _ a b (o+1) (h.setCell _ _ λ_=>rfl)
def iA{t:cg}{v:ce}{a:Array ce}{e:cg}(b:w.heap[i]? =some (.cells a e))(m:o+v.cells.size<=a.size)(h:∀c,cN (λx=>x=i) w c->c.heap[i]? =some (.cells (fT a o v.cells.toList) e)->s c)
 (g:∀u∈v.cells.toList,u.oneCell'=true:=by simp[Value.cells])(k:RG t=some v.cells.size:=by rfl):DR V.prog (Instr.storeAt t (.pointer (some ⟨i,o,none⟩)) v) w s:=by
 have l:=run_storeCells_cells (P:=V.prog) i o v.cells.toList 0 w (λj f=>by
  have d:o+0+j<a.size:=by
   have:j<v.cells.size:=by simpa using f
   omega
  simp only[World.cell?,b];simpa using d) (λj f=>by simp[World.frozen?,b]) g
 refine⟨_,?_,h (w.setCells i o v.cells.toList) (oF _ _ _ _ _ (cN.refl _ w)) (rB _ _ _ _ _ _ _ b)⟩;simp only[Instr.storeAt,Instr.sureAddr,pure_bind,storeVar,Sem.run_bind,C5 k,Result.andThen_ok,ne_eq,not_true_eq_false,eo];exact l
def qC:List ce->Bool
 |[]=>true
 |v::r=>match v.oneCell' with
  |true=>qC r
  |false=>false
theorem fU:∀{l:List ce},qC l=true->∀u∈l,u.oneCell'=true
 |v::r,h,u,a=>by simp only[qC]at h;split at h;rename_i b;rcases eQ.1 a with rfl|a;exact b;exact fU h u a;cases h
def cZ{t:cg}{v:ce}{a:Array ce}{c:cg}(d:w.heap[i]? =some (.cells a c))(h:∀b,cN (λx=>x=i) w b->b.heap[i]? =some (.cells (fT a o v.cells.toList) c)->s b)
 (e:Nat.ble (o+v.cells.size) a.size=true:=by rfl)(f:qC v.cells.toList=true:=by rfl)(g:RG t=some v.cells.size:=by rfl):DR V.prog (Instr.storeAt t (.pointer (some ⟨i,o,none⟩)) v) w s:=
 iA d (sO e) h (fU f) g
def sH(t:Nat):List ce:=match zc t with
 |some a=>a
 |none=>[]
def WI(t:Nat):Bool:=match zc t with
 |some _=>true
 |none=>false
def eF{t:cg}(h:∀a b,Ext w a->w.heap.size<=b->a.heap[b]? =some (.cells (sH t).toArray t)->k (.pointer (some ⟨b,0,none⟩)) a)(c:WI t=true:=by rfl):iO V.prog (Instr.alloc t true (.tuple #[])) w k:=by
 unfold WI at c;cases d:zc t with
 |none=>rw[d]at c;cases c
 |some f=>
  have e:sH t=f:=by simp[sH,d]
  obtain⟨z,g,i⟩:=S8 d;rw[e]at h;refine⟨_,w.alloc (.cells f.toArray t),?_,h _ w.heap.size (Ext.alloc _ _) (cz _) (eU _ _)⟩;simp only[Instr.alloc,Sem.run_bind,i,Result.andThen_ok,newVar,newRow,g];go_simp
def fo{t:cg}{v:ce}(h:∀a b,Ext w a->w.heap.size<=b->a.heap[b]? =some (.cells v.cells t)->k (.pointer (some ⟨b,0,none⟩)) a):iO V.prog (Instr.box t v) w k:=by refine⟨_,w.alloc (.cells v.cells t),?_,h _ w.heap.size (Ext.alloc _ _) (cz _) (eU _ _)⟩;simp only[Instr.box,newVar,newRow];go_simp
def fF{t b o l c:Nat}(a g:Nat){i:Int}(q:a<l)(h:k (.pointer (some ⟨b,o+a*g,none⟩)) w)(j:i=(a:Nat):=by rfl)(m:ty t=some ⟨3,1,g,0⟩:=by rfl):iO V.prog (Instr.indexAt t (.slice (some ⟨b,o,none⟩) l c) (.int .i64 i)) w k:=by
 subst j;obtain⟨e,n,p⟩:=rA m rfl;refine⟨_,w,?_,h⟩;have d:(a:Int)<(l:Int):=by omega
 have f:(0:Int)<=(a:Int):=by omega
 unfold Instr.indexAt;simp only[asIntOf,pure_bind,Sem.run_bind,fZ n,Result.andThen_ok,Sem.run_pure,f,d,and_self,cX,lq p,ql,fL]
def uF{t b o:Nat}(a f n:Nat){g:Int}(q:a<n)(h:k (.pointer (some ⟨b,o+a*f,none⟩)) w)(j:g=(a:Nat):=by rfl)(l:ty t=some ⟨2,i,f,n⟩:=by rfl):iO V.prog (Instr.indexAt t (.pointer (some ⟨b,o,none⟩)) (.int .i64 g)) w k:=by
 subst j;obtain⟨e,m,p⟩:=FA l rfl;refine⟨_,w,?_,h⟩;have c:(a:Int)<(n:Int):=by omega
 have d:(0:Int)<=(a:Int):=by omega
 unfold Instr.indexAt;simp only[asIntOf,Instr.sureAddr,pure_bind,Sem.run_bind,fZ m,Result.andThen_ok,Sem.run_pure,d,c,and_self,cX,lq p,ql,fL]
def dI{t b o l c:Nat}(a:Nat){i:Int}(d:a<l)(h:k (.pointer (some ⟨b,o+a,none⟩)) w)(e:i=(a:Nat):=by rfl)(f:ty t=some ⟨3,1,1,0⟩:=by rfl):iO V.prog (Instr.indexAt t (.slice (some ⟨b,o,none⟩) l c) (.int .i64 i)) w k:=
 fF a 1 d (by rw[ot];exact h) e f
def rC{t b o:Nat}(a n:Nat){i:Int}(c:a<n)(h:k (.pointer (some ⟨b,o+a,none⟩)) w)(d:i=(a:Nat):=by rfl)(e:ty t=some ⟨2,n,1,n⟩:=by rfl):iO V.prog (Instr.indexAt t (.pointer (some ⟨b,o,none⟩)) (.int .i64 i)) w k:=
 uF a 1 n c (by rw[ot];exact h) d e
def cD{t b:cg}{c:Array Bool}(h:k (.int .i64 i) w)(d:ty b=some ⟨3,1,o,0⟩:=by rfl):wY V.prog (builtin .len #[b] t c #[.slice a i j]) w k:=by
 obtain⟨e,f,_⟩:=rA d rfl;refine⟨_,w,?_,h⟩;have g:Sem.run V.prog (Builtin.len_ #[b] t #[.slice a i j]) w=.ok (.int .i64 i) w:=by unfold Builtin.len_;simp only[IB,L8,Sem.run_bind,fZ f,Result.andThen_ok,Sem.run_pure];rfl
 unfold builtin;simp only[Sem.run_bind,g,Result.andThen_ok,Sem.run_pure]
def eu{b:Bool}(h:k (.bool (!b)) w):iO V.prog (Op.unary .not (.bool b)) w k:=⟨_,w,by go_simp,h⟩
section
variable{t:cg}{x y:dj}{m n:Int}{κ:IntKind}
def cq(h:k (.int .i64 (m+n)) w)(a: -9223372036854775808<=m+n/\m+n<=9223372036854775807:=by omega):iO V.prog (do eqGuard .add t x y (.int .i64 m) (.int .i64 n);binOp .add t (.int .i64 m) (.int .i64 n)) w k:=
 ⟨_,w,by go_simp;exact IntWalk.i64_in _ a,h⟩
def fx(h:k (.int .i64 (m-n)) w)(a: -9223372036854775808<=m-n/\m-n<=9223372036854775807:=by omega):iO V.prog (do eqGuard .sub t x y (.int .i64 m) (.int .i64 n);binOp .sub t (.int .i64 m) (.int .i64 n)) w k:=
 ⟨_,w,by go_simp;exact IntWalk.i64_in _ a,h⟩
def tE(h:k (.int .i64 (m*n)) w)(a: -9223372036854775808<=m*n/\m*n<=9223372036854775807:=by omega):iO V.prog (do eqGuard .mul t x y (.int .i64 m) (.int .i64 n);binOp .mul t (.int .i64 m) (.int .i64 n)) w k:=
 ⟨_,w,by go_simp;exact IntWalk.i64_in _ a,h⟩
def cV(h:k (.bool (decide (m<n))) w):iO V.prog (do eqGuard .lss t x y (.int κ m) (.int κ n);binOp .lss t (.int κ m) (.int κ n)) w k:=⟨_,w,by go_simp,h⟩
def sW(h:k (.bool (decide (m<=n))) w):iO V.prog (do eqGuard .leq t x y (.int κ m) (.int κ n);binOp .leq t (.int κ m) (.int κ n)) w k:=⟨_,w,by go_simp,h⟩
def ny(h:k (.bool (decide (n<m))) w):iO V.prog (do eqGuard .gtr t x y (.int κ m) (.int κ n);binOp .gtr t (.int κ m) (.int κ n)) w k:=⟨_,w,by go_simp,h⟩
def n6(h:k (.bool (decide (n<=m))) w):iO V.prog (do eqGuard .geq t x y (.int κ m) (.int κ n);binOp .geq t (.int κ m) (.int κ n)) w k:=⟨_,w,by go_simp,h⟩
def eh(h:k (.bool (decide (m=n))) w):iO V.prog (do eqGuard .eql t x y (.int κ m) (.int κ n);binOp .eql t (.int κ m) (.int κ n)) w k:=⟨_,w,by go_simp;rw[Bool.eq_iff_iff];simp,h⟩
def eG(h:k (.bool (decide (m≠n))) w):iO V.prog (do eqGuard .neq t x y (.int κ m) (.int κ n);binOp .neq t (.int κ m) (.int κ n)) w k:=⟨_,w,by go_simp;rw[Bool.eq_iff_iff];simp,h⟩
end
@[simp] def Zg (v:ce):one [v]=v:=rfl
@[simp] def Zh (u v:ce):one [u,v]=.tuple #[u,v]:=rfl
def rD{a:Array cg}{t:cg}{b:Array Bool}{m n:Int}(h:k (.int .i64 (max m n)) w):wY V.prog (builtin .max a t b #[.int .i64 m,.int .i64 n]) w k:=by
 refine⟨_,w,?_,h⟩;have c:Sem.run V.prog (Builtin.max_ a t #[.int .i64 m,.int .i64 n]) w=.ok (.int .i64 (max m n)) w:=by unfold Builtin.max_;simp only[List.foldlM_cons,List.foldlM_nil,Builtin.max2,pure_bind,Sem.run_pure];congr 2;show(if n>m then n else m)=_;omega
 unfold builtin;simp only[Sem.run_bind,c,Result.andThen_ok,Sem.run_pure]
def n7{t:cg}(b:Nat){x:Int}(n:b<=j)(h:k (.slice a b j) w)(f:x=(b:Nat):=by rfl)(g:ty t=some ⟨3,1,o,0⟩:=by rfl):iO V.prog (Instr.sliceAt t (.slice a i j) none (some (.int .i64 x)) none) w k:=by
 subst f;obtain⟨e,l,m⟩:=rA g rfl;refine⟨_,w,?_,h⟩;have c:(b:Int)<=(j:Int):=by omega
 have d:(0:Int)<=(b:Int):=by omega
 unfold Instr.sliceAt Instr.slice;simp only[Sem.run_bind,fZ l,Result.andThen_ok,Instr.sliceBounds,Instr.sliceBound,asIntOf,pure_bind,d,c,and_self,cX,Sem.run_pure,lq m,ql,Nat.sub_zero];cases a<;>simp[Addr.add]
def fy(R:ce->cd->Prop):Ending->cd->Prop:=λe w=>∃v,e=.returned v/\R v w
def ck{a:List ce}{R:ce->cd->Prop}{c:List PanicEntry->cd->Prop}(g:Calls V.prog K a.toArray w (fy R))(h:∀v b,R v b->k v b)(d:∀f w,Sem.run V.prog (callFunc K f) w=.ok (.enter K f) w:=by intro _ _;kernel_rfl):P9 V.prog K a w k c:=by refine⟨d,g.mono ?_⟩;rintro e b ⟨v,rfl,i⟩;exact h v b i
end
def cS{a:List ce}{d:ce}{w:cd}{k:ce->cd->Prop}{b:List PanicEntry->cd->Prop}(g:Calls V.prog K a.toArray w (fy λv e=>v=d/\e=w))(h:k d w)(c:∀f w,Sem.run V.prog (callFunc K f) w=.ok (.enter K f) w:=by intro _ _;kernel_rfl):P9 V.prog K a w k b:=
 ck g (λv e i=>by obtain⟨rfl,rfl⟩:=i;exact h) c
def dq{a:List ce}{v0:ce}{w:cd}{k:ce->cd->Prop}{c:List PanicEntry->cd->Prop}(g:Calls V.prog K a.toArray w (fy λv b=>v=v0/\Ext w b))(h:∀b,Ext w b->k v0 b)(d:∀f w,Sem.run V.prog (callFunc K f) w=.ok (.enter K f) w:=by intro _ _;kernel_rfl):P9 V.prog K a w k c:=
 ck g (λv b e=>by obtain⟨rfl,e⟩:=e;exact h _ e) d
def iR{b:Bool}{A B:Prop}(h:b=true)(k:A):(b=true->A)/\(b=false->B):=⟨λ_=>k,λa=>by rw[h]at a;cases a⟩
def iG{b:Bool}{A B:Prop}(h:b=false)(k:B):(b=true->A)/\(b=false->B):=⟨λa=>(by rw[h]at a;cases a),λ_=>k⟩
def ei{N b z c n:Nat}{A f B:Code}{l:L}{w:cd}{Q:QW}(h:Nat->L)(J:Nat->cd->Prop)(C:Sub (h 0) l/\J 0 w)
 (r:∀k w,k<=n->J k w->WC V.prog Hy N A (λe q g=>e=.normal/\lk q c=some (.bool (decide ((k:Int)<(n:Int))))/\Sub (h k) q/\J k g) (h k) w)
 (i:∀k w,k<n->J k w->WC V.prog Hy N (.seq (.block z f) B) (λe q g=>match e with
  | .normal=>Sub (h (k+1)) q/\J (k+1) g
  |e=>kJ b Q e q g) (h k) w)
 (s:∀w,J n w->Q .normal (h n) w):kq V.prog N (Code.block b (Code.loop (A.seq ((Code.cond (.tmp c) Code.skip (Code.exit b)).seq ((Code.block z f).seq B))))) l w Q:=by
 refine⟨λa u=>?_⟩;refine wp_block ?_;refine pJ (λj a w=>∃k,k<=n/\j=n-k/\Fr N (h k) a/\J k w) n ⟨0,fN _,by omega,u.sub C.1,C.2⟩ ?_;rintro j a w ⟨k,E,rfl,u,F⟩;refine jU (lV (hZ jG _ _ _ a w u (r k w E F)) ?_);rintro e G g ⟨q,m,rfl,H,D,t⟩;refine jU (wp_cond_split (m.at_ c _ H) (λI=>?_) λK=>?_);have v:k<n:=by simpa using I
 refine wp_skip ?_;refine lV (hZ jG _ _ _ G g (m.sub D) (i k g v t)) ?_;rintro e O P ⟨x,d,o⟩;cases e with
 |normal=>exact⟨n-(k+1),by omega,k+1,by omega,rfl,d.sub o.1,o.2⟩
 |exit j=>
  simp only[Exit.then,Exit.inBlock];by_cases p:j=b;subst p;rw[cx rfl];simp only[kJ,yA]at o;exact⟨x,d,o⟩;rw[cr p];have:Nat.beq j b=false:=by
   cases M:Nat.beq j b with
   |false=>rfl
   |true=>exact absurd (gE M) p
  simp only[kJ,this]at o;exact⟨x,d,o⟩
 |_=>exact⟨x,d,o⟩
 have y:k=n:=by
  have:¬k<n:=by simpa using K
  omega
 subst y;refine wp_exit ?_;simp only[Exit.then,Exit.inBlock,cX];exact⟨_,m.sub D,s g t⟩
def gC{x:Type}{N b D c n:Nat}{E f F:Code}{l:L}{w:cd}{Q:QW}(h:Nat->x->L)(J:Nat->x->cd->Prop)(y:x)(G:Sub (h 0 y) l/\J 0 y w)
 (r:∀k s w,k<=n->J k s w->WC V.prog Hy N E (λe p g=>e=.normal/\lk p c=some (.bool (decide ((k:Int)<(n:Int))))/\Sub (h k s) p/\J k s g) (h k s) w)
 (i:∀k s w,k<n->J k s w->WC V.prog Hy N (.seq (.block D f) F) (λe p g=>match e with
  | .normal=>∃v,Sub (h (k+1) v) p/\J (k+1) v g
  |e=>kJ b Q e p g) (h k s) w)
 (t:∀s w,J n s w->Q .normal (h n s) w):kq V.prog N (Code.block b (Code.loop (E.seq ((Code.cond (Operand.tmp c) Code.skip (Code.exit b)).seq ((Code.block D f).seq F))))) l w Q:=by
 refine⟨λa z=>?_⟩;refine wp_block ?_;refine pJ (λj a w=>∃k s,k<=n/\j=n-k/\Fr N (h k s) a/\J k s w) n ⟨0,y,fN _,by omega,z.sub G.1,G.2⟩ ?_;rintro j a w ⟨k,s,I,rfl,z,K⟩;refine jU (lV (hZ jG _ _ _ a w z (r k s w I K)) ?_);rintro e M g ⟨p,m,rfl,O,H,u⟩;refine jU (wp_cond_split (m.at_ c _ O) (λP=>?_) λR=>?_);have A:k<n:=by simpa using P
 refine wp_skip ?_;refine lV (hZ jG _ _ _ M g (m.sub H) (i k s g A u)) ?_;rintro e W X ⟨B,d,q⟩;cases e with
 |normal=>
  obtain⟨v,S,T⟩:=q;exact⟨n-(k+1),by omega,k+1,v,by omega,rfl,d.sub S,T⟩
 |exit j=>
  simp only[Exit.then,Exit.inBlock];by_cases o:j=b;subst o;rw[cx rfl];simp only[kJ,yA]at q;exact⟨B,d,q⟩;rw[cr o];have:Nat.beq j b=false:=by
   cases U:Nat.beq j b with
   |false=>rfl
   |true=>exact absurd (gE U) o
  simp only[kJ,this]at q;exact⟨B,d,q⟩
 |_=>exact⟨B,d,q⟩
 have C:k=n:=by
  have:¬k<n:=by simpa using R
  omega
 subst C;refine wp_exit ?_;simp only[Exit.then,Exit.inBlock,cX];exact⟨_,m.sub H,t s g u⟩
def go{a:Func}{c:Code}{b:Array ce}{w:cd}{R:Ending->cd->Prop}(e:V.prog.funcs[K]? =some a)(f:a.ntmps=i)(h:WC V.prog Hy i c (QR V.prog a.results.toList R) (b.toList.zipIdx.map λp=>(p.2,p.1)) w)
 (g:a.body=some c:=by rfl)(d:Nat.ble b.toList.length i=true:=by rfl):Calls V.prog K b w R:=by
 have:=UI jG (args:=b.toList) i e g f (sO d) h;simpa using this
def HE{b:Array ce}{w:cd}{v:ce}{S:cd->Prop}(h:Calls V.prog K b w λe a=>e=.returned v/\S a):Calls V.prog K b w (fy λu a=>u=v/\S a):=h.mono λe a h=>⟨v,h.1,rfl,h.2⟩
def fy.same{a:Array ce}{w:cd}{v:ce}(h:Calls V.prog K a w (fy λu w'=>u=v/\w'=w)):Calls V.prog K a w (fy λu w'=>u=v/\Ext w w'):=h.mono λe w' ⟨v,h,b,c⟩=>⟨v,h,b,c▸Ext.refl _⟩
def fV{e:Array Oper}{l:L}{w:cd}{Q:QW}{E g:cd->cd->Prop}(p:Nat)(q:fw E)(k:fw g)(m:∀a b,E a b->g a b)(h:DW V.prog Hy i (λc n=>Q (.panic c) [] n) E g p e.toList w l (λl n=>Q .normal l n) 0 e.toList [] (xe e.toList l) [] [] [] [])(r:lN e i (sV e.toList)=true:=by kernel_rfl):
 kq V.prog i (.region j e true) l w Q:=
 ⟨λa o=>Fx jG (λc a w s u x=>⟨[],⟨s,u.trans o.defers,λt v y=>by cases y⟩,x⟩) q k m (by kernel_rfl) r rfl o.b (λl A w f z=>⟨l,⟨f.b.size,f.d.trans o.defers,f.b.at_⟩,z⟩) h⟩
def cQ{a:Array Oper}{l:L}{w:cd}{Q:QW}{E:cd->cd->Prop}(d:fw E)(h:DW V.prog Hy i (λc b=>Q (.panic c) [] b) E E 1000 a.toList w l (λl b=>Q .normal l b) 0 a.toList [] (xe a.toList l) [] [] [] [])(e:lN a i (sV a.toList)=true:=by kernel_rfl):
 kq V.prog i (.region j a true) l w Q:=fV 1000 d d (λ_ _ h=>h) h e
section
variable{E:cd->cd->Prop}{w:cd}{kx:ce->Prop}{kr kp kl:fW->Prop}{lb ea:Bool}
def dx{s:Sem ce}(v:ce)(h:∀a,E w a->iO V.prog s a λu b=>u=v/\E a b)(k:kx v):zr E E w (λa κ=>iO V.prog s a κ) kx kr kp lb kl ea:=.exact v h k
def VK{s:Sem Next}(v:ce)(h:∀a,E w a->wY V.prog s a λu b=>u=v/\E a b)(k:kx v):zr E E w (λa κ=>wY V.prog s a κ) kx kr kp lb kl ea:=.exact v h k
def je{a:List ce}{c:List PanicEntry->cd->Prop}(v:ce)(g:∀b,E w b->Calls V.prog K a.toArray b (fy λu i=>u=v/\E b i))(k:kx v)(d:∀f w,Sem.run V.prog (callFunc K f) w=.ok (.enter K f) w:=by intro _ _;kernel_rfl):zr E E w (λb κ=>P9 V.prog K a b κ c) kx kr kp lb kl ea:=
 .exact v (λb e=>ck (g b e) (λ_ _ h=>h) d) k
def ia{a:List ce}{c:List PanicEntry->cd->Prop}(i:fw E)(v:ce)(j:∀b,E w b->Calls V.prog K a.toArray b (fy λu f=>u=v/\f=b))(k:kx v)(d:∀g w,Sem.run V.prog (callFunc K g) w=.ok (.enter K g) w:=by intro _ _;kernel_rfl):zr E E w (λb κ=>P9 V.prog K a b κ c) kx kr kp lb kl ea:=
 .exact v (λb e=>ck (j b e) (λu f h=>⟨h.1,by rw[h.2];exact i.refl _⟩) d) k
def cG{t:cg}{v:ce}(b:w.cell? h=some v)(k:kx v)(c:HB t=some false:=by rfl):zr Ext Ext w (λa κ=>iO V.prog (Instr.loadAt t (.pointer (some h))) a κ) kx kr kp lb kl ea:=
 dx v (λa e=>cu (e.cell b) ⟨rfl,Ext.refl _⟩ c) k
variable{t:cg}{x y:dj}{m n:Int}{κ:IntKind}
def rE{b:Bool}(h:kx (.bool (!b)))(c:fw E:=by first|exact cO|exact gu _):zr E E w (λa f=>iO V.prog (Op.unary .not (.bool b)) a f) kx kr kp lb kl ea:=
 dx _ (λa _=>eu ⟨rfl,c.refl _⟩) h
def zx(h:kx (.int .i64 (m+n)))(b: -9223372036854775808<=m+n/\m+n<=9223372036854775807:=by omega)(c:fw E:=by first|exact cO|exact gu _):zr E E w (λa f=>iO V.prog (do eqGuard .add t x y (.int .i64 m) (.int .i64 n);binOp .add t (.int .i64 m) (.int .i64 n)) a f) kx kr kp lb kl ea:=
 dx _ (λa _=>cq ⟨rfl,c.refl _⟩ b) h
def vX(h:kx (.int .i64 (m-n)))(b: -9223372036854775808<=m-n/\m-n<=9223372036854775807:=by omega)(c:fw E:=by first|exact cO|exact gu _):zr E E w (λa f=>iO V.prog (do eqGuard .sub t x y (.int .i64 m) (.int .i64 n);binOp .sub t (.int .i64 m) (.int .i64 n)) a f) kx kr kp lb kl ea:=
 dx _ (λa _=>fx ⟨rfl,c.refl _⟩ b) h
def Nq(h:kx (.int .i64 (m*n)))(b: -9223372036854775808<=m*n/\m*n<=9223372036854775807:=by omega)(c:fw E:=by first|exact cO|exact gu _):zr E E w (λa f=>iO V.prog (do eqGuard .mul t x y (.int .i64 m) (.int .i64 n);binOp .mul t (.int .i64 m) (.int .i64 n)) a f) kx kr kp lb kl ea:=
 dx _ (λa _=>tE ⟨rfl,c.refl _⟩ b) h
def RH(h:kx (.bool (decide (m<n))))(b:fw E:=by first|exact cO|exact gu _):zr E E w (λa f=>iO V.prog (do eqGuard .lss t x y (.int κ m) (.int κ n);binOp .lss t (.int κ m) (.int κ n)) a f) kx kr kp lb kl ea:=
 dx _ (λa _=>cV ⟨rfl,b.refl _⟩) h
def RI(h:kx (.bool (decide (m<=n))))(b:fw E:=by first|exact cO|exact gu _):zr E E w (λa f=>iO V.prog (do eqGuard .leq t x y (.int κ m) (.int κ n);binOp .leq t (.int κ m) (.int κ n)) a f) kx kr kp lb kl ea:=
 dx _ (λa _=>sW ⟨rfl,b.refl _⟩) h
def FB(h:kx (.bool (decide (n<m))))(b:fw E:=by first|exact cO|exact gu _):zr E E w (λa f=>iO V.prog (do eqGuard .gtr t x y (.int κ m) (.int κ n);binOp .gtr t (.int κ m) (.int κ n)) a f) kx kr kp lb kl ea:=
 dx _ (λa _=>ny ⟨rfl,b.refl _⟩) h
def Ja(h:kx (.bool (decide (m=n))))(b:fw E:=by first|exact cO|exact gu _):zr E E w (λa f=>iO V.prog (do eqGuard .eql t x y (.int κ m) (.int κ n);binOp .eql t (.int κ m) (.int κ n)) a f) kx kr kp lb kl ea:=
 dx _ (λa _=>eh ⟨rfl,b.refl _⟩) h
def RJ(h:kx (.bool (decide (m≠n))))(b:fw E:=by first|exact cO|exact gu _):zr E E w (λa f=>iO V.prog (do eqGuard .neq t x y (.int κ m) (.int κ n);binOp .neq t (.int κ m) (.int κ n)) a f) kx kr kp lb kl ea:=
 dx _ (λa _=>eG ⟨rfl,b.refl _⟩) h
def kK{t b o l c:Nat}(a d:Nat){i:Int}(g:a<l)(h:kx (.pointer (some ⟨b,o+a*d,none⟩)))(j:i=(a:Nat):=by rfl)(k:ty t=some ⟨3,1,d,0⟩:=by rfl)(m:fw E:=by first|exact cO|exact gu _):zr E E w (λe f=>iO V.prog (Instr.indexAt t (.slice (some ⟨b,o,none⟩) l c) (.int .i64 i)) e f) kx kr kp lb kl ea:=
 dx _ (λe _=>fF a d g ⟨rfl,m.refl _⟩ j k) h
def Jb{t b o:Nat}(a c n:Nat){d:Int}(g:a<n)(h:kx (.pointer (some ⟨b,o+a*c,none⟩)))(j:d=(a:Nat):=by rfl)(k:ty t=some ⟨2,i,c,n⟩:=by rfl)(l:fw E:=by first|exact cO|exact gu _):zr E E w (λe f=>iO V.prog (Instr.indexAt t (.pointer (some ⟨b,o,none⟩)) (.int .i64 d)) e f) kx kr kp lb kl ea:=
 dx _ (λe _=>uF a c n g ⟨rfl,l.refl _⟩ j k) h
def me{t b o l c:Nat}(a:Nat){i:Int}(e:a<l)(h:kx (.pointer (some ⟨b,o+a,none⟩)))(g:i=(a:Nat):=by rfl)(j:ty t=some ⟨3,1,1,0⟩:=by rfl)(k:fw E:=by first|exact cO|exact gu _):zr E E w (λd f=>iO V.prog (Instr.indexAt t (.slice (some ⟨b,o,none⟩) l c) (.int .i64 i)) d f) kx kr kp lb kl ea:=
 dx _ (λd _=>dI a e ⟨rfl,k.refl _⟩ g j) h
def pM{t b o:Nat}(a n:Nat){i:Int}(d:a<n)(h:kx (.pointer (some ⟨b,o+a,none⟩)))(e:i=(a:Nat):=by rfl)(g:ty t=some ⟨2,n,1,n⟩:=by rfl)(j:fw E:=by first|exact cO|exact gu _):zr E E w (λc f=>iO V.prog (Instr.indexAt t (.pointer (some ⟨b,o,none⟩)) (.int .i64 i)) c f) kx kr kp lb kl ea:=
 dx _ (λc _=>rC a n d ⟨rfl,j.refl _⟩ e g) h
def jW{t b:cg}{d:Array Bool}(h:kx (.int .i64 i))(e:ty b=some ⟨3,1,o,0⟩:=by rfl)(g:fw E:=by first|exact cO|exact gu _):zr E E w (λc f=>wY V.prog (builtin .len #[b] t d #[.slice a i j]) c f) kx kr kp lb kl ea:=
 VK _ (λc _=>cD ⟨rfl,g.refl _⟩ e) h
end
end Go.Proofs.W
variable{l f:List Nat}
namespace Go.Proofs.W
open Go.RowKit
def jX(n a b:Int):Bool:=decide (a<=n)&&decide (n<=b)
def ej(n a b:Int)(w:cd):Calls V.prog 106 #[.int .i64 n,.int .i64 a,.int .i64 b] w (fy λv c=>v=.bool (jX n a b)/\c=w):=by refine go V.func106 Tryz.ntmps106 ?_;refine sW ⟨λh=>sW ⟨_,rfl,?_,rfl⟩,λh=>⟨_,rfl,?_,rfl⟩⟩<;>simp[jX,h]
def uG(l:List Nat)(k:Nat):Nat:=if k=0 then 0 else l.getD (k-1) 0+1
def tF(W:Nat->Nat->Int)(l:List Nat):Nat->Int
 |0=>0
 |k+1=>tF W l k+W (uG l k) (l.getD k 0+1)
def pN(W:Nat->Nat->Int)(l:List Nat):Int:=tF W l l.length+W (uG l l.length) 0
def Nr(h:∀d∈l,d<5)(k:Nat)(b:k<=l.length):uG l k<6:=by
 unfold uG;split;omega;have a:k-1<l.length:=by omega
 have:=h _ (dt a);rw[gU,ew a];simp only[kC];omega
theorem ye{W:Nat->Nat->Int}(a:∀i j,0<=W i j/\W i j<=1000)(l:List Nat):∀k,0<=tF W l k/\tF W l k<=1000*k
 |0=>by simp[tF]
 |k+1=>by have b:=ye a l k;have c:=a (uG l k) (l.getD k 0+1);simp only[tF];omega
def pO{W:Nat->Nat->Int}(a:∀i j,0<=W i j/\W i j<=1000)(l:List Nat):0<=pN W l/\pN W l<=1000*l.length+1000:=by have b:=ye a l l.length;have c:=a (uG l l.length) 0;unfold pN;omega
def tG(W:Nat->Nat->Int)(a:Int)(l:List Nat):Int:=pN W l+(l.length:Int)*a
def getD_eq{a:Type}{l:List a}{d:a}(h:k<l.length):l.getD k d=l[k]:=by rw[gU,ew h];rfl
def zy(m:Nat)(W:Nat->Nat->Int)(l:List Nat)(p:Option Addr)(s:Nat)(w:cd)(a:∀i j,i<6->j<6->w.cell? ⟨m,7+i*6+j,none⟩=some (.int .i64 (W i j)))(q:∀i j,0<=W i j/\W i j<=1000) (r:∀d∈l,d<5)(t:l.length<=100000)(f:∀k (h:k<l.length),∃b o,p=some ⟨b,o,none⟩/\w.cell? ⟨b,o+k,none⟩=some (.int .i64 l[k])):
 Calls V.prog 161 #[.pointer (some ⟨m,0,none⟩),.slice p l.length s] w (fy λv e=>v=.int .i64 (pN W l)/\e=w):=by
 have u:=ye q l;refine go V.func161 Tryz.ntmps161 ?_;refine cD (ei (n:=l.length) (λk=>[(0,.pointer (some ⟨m,0,none⟩)),(9,.slice p l.length s),(10,.int .i64 l.length),(11,.int .i64 k),(5,.int .i64 (tF W l k)),(6,.int .i64 (uG l k))]) (λ_ e=>e=w) ?_ ?_ ?_ ?_);exact⟨⟨rfl,rfl,rfl,rfl,rfl,rfl,trivial⟩,rfl⟩;rintro k e g rfl;exact cV ⟨rfl,rfl,⟨rfl,rfl,rfl,rfl,rfl,rfl,trivial⟩,rfl⟩;rintro k e g rfl;obtain⟨b,o,rfl,y⟩:=f k g;have B:=r _ (dt g);have c:=Nr r k (by omega);have z:=u k;have A:=q (uG l k) (l[k]+1);refine dI k g (cu y (cq (uF (uG l k) 6 6 c (rC (l[k]+1) 6 (by omega) (cu (a _ (l[k]+1) c (by omega)) (cq (cq (cq ?_))))))));have x:l.getD k 0=l[k]:=getD_eq g;refine⟨⟨rfl,rfl,rfl,rfl,?_,?_,trivial⟩,rfl⟩;show _=some (Value.int .i64 (tF W l k+W (uG l k) (l.getD k 0+1)));rw[x];rfl;show _=some (Value.int .i64 ((l.getD k 0+1:Nat):Int));rw[x];rfl;rintro e rfl;have c:=Nr r l.length (cz _);have z:=u l.length;have A:=q (uG l l.length) 0;exact uF (uG l l.length) 6 6 c (rC 0 6 (by omega) (cu (a _ 0 c (by omega)) (cq ⟨_,rfl,rfl,rfl⟩)))
def Kk(m:Nat)(W:Nat->Nat->Int)(n:Int)(l:List Nat)(p:Option Addr)(r:Nat)(w:cd)(q:w.cell? ⟨m,2,none⟩=some (.int .i64 n))(a:∀i j,i<6->j<6->w.cell? ⟨m,7+i*6+j,none⟩=some (.int .i64 (W i j)))(s:∀i j,0<=W i j/\W i j<=1000) (y:∀d∈l,d<5)(c:l.length<=100000)(f:∀k (h:k<l.length),∃b o,p=some ⟨b,o,none⟩/\w.cell? ⟨b,o+k,none⟩=some (.int .i64 l[k]))(g:0<=n/\n<=1000):
 Calls V.prog 114 #[.pointer (some ⟨m,0,none⟩),.slice p l.length r] w (fy λv z=>v=.int .i64 (tG W n l)/\Ext w z):=by
 have t:=pO s l;have u:=Int.mul_le_mul_of_nonneg_left g.2 (Int.natCast_nonneg l.length);have C:=yx (Int.natCast_nonneg l.length) g.1;refine go V.func114 Tryz.ntmps114 ?_;refine cQ cO ?_;refine ia cO _ (λx e=>zy m W l p r x (λi j A B=>e.cell (a i j A B)) s y c λk h=>by obtain⟨b,o,t,u⟩:=f k h;exact⟨b,o,t,e.cell u⟩) (jW (cG q (Nq (zx λx e=>⟨_,rfl,rfl,e⟩))))
end Go.Proofs.W
variable{w t e:cd}
namespace Go.Proofs.W
open Go.RowKit
def l5(a b:Int):Int:=max (a-b) (b-a)
def Jc(a b:Int)(w:cd)(d:0<=a/\a<=1000000)(e:0<=b/\b<=1000000):Calls V.prog 178 #[.int .i64 a,.int .i64 b] w (fy λv c=>v=.int .i64 (l5 a b)/\c=w):=by refine go V.func178 Tryz.ntmps178 ?_;exact fx (fx (rD ⟨_,rfl,rfl,rfl⟩))
def HF(b:Nat)(n T:Int)(w:cd)(a:w.cell? ⟨b,5,none⟩=some (.int .i64 T)):Calls V.prog 179 #[.int .i64 n,.pointer (some ⟨b,0,none⟩)] w (fy λv c=>v=.bool (decide (T<=n))/\c=w):=by refine go V.func179 Tryz.ntmps179 ?_;exact cu a (n6 ⟨_,rfl,rfl,rfl⟩)
def HG(b:Nat)(m n T:Int)(w:cd)(c:w.cell? ⟨b,5,none⟩=some (.int .i64 T)):Calls V.prog 180 #[.int .i64 m,.int .i64 n,.pointer (some ⟨b,0,none⟩)] w (fy λv d=>v=.bool (decide (T<2)||(decide (0<m)&&decide (0<n)))/\d=w):=by refine go V.func180 Tryz.ntmps180 ?_;refine cu c (cV ⟨λh=>?_,λh=>?_⟩);exact⟨_,rfl,by simp[h],rfl⟩;refine ny ⟨λa=>ny ⟨_,rfl,by simp[h,a],rfl⟩,λa=>⟨_,rfl,by simp[h,a],rfl⟩⟩
def Ns(a:Nat)(D:Int)(w:cd)(b:w.cell? ⟨a,4,none⟩=some (.int .i64 D))(d:0<=D/\D<=1000):Calls V.prog 107 #[.pointer (some ⟨a,0,none⟩)] w (fy λv c=>v=.int .i64 (2*D-1)/\c=w):=by refine go V.func107 Tryz.ntmps107 ?_;exact cu b (tE (fx ⟨_,rfl,rfl,rfl⟩))
def ja(w:cd)(a:Option Addr)(l:List Int):Prop:=∀k (h:k<l.length),∃b o,a=some ⟨b,o,none⟩/\w.cell? ⟨b,o+k,none⟩=some (.int .i64 l[k])
def ja.ext{l:List Int}(h:ja w a l)(e:Ext w t):ja t a l:=λk c=>by obtain⟨b,o,d,f⟩:=h k c;exact⟨b,o,d,e.cell f⟩
theorem ja.take{l:List Int}(h:ja w a l)(i:Nat):ja w a (l.take i):=λk d=>by
 have c:k<l.length:=by simp at d;omega
 obtain⟨b,o,e,f⟩:=h k c;exact⟨b,o,e,by rw[f];simp⟩
def A6(x:Int):List Int->Nat->Int
 |[],_=> -1
 |y::r,i=>if x=y then i else A6 x r (i+1)
def Kl(x:Int)(l:List Int)(k:Nat)(a:k<l.length):A6 x (l.drop k) k=if x=l[k]then(k:Int)else A6 x (l.drop (k+1)) (k+1):=by rw[qH a];rfl
def Km(l:List Int)(x:Int)(e:Option Addr)(f:Nat)(w:cd)(i:ja w e l)(g:l.length<=100000):Calls V.prog 176 #[.slice e l.length f,.int .i64 x] w (fy λv c=>v=.int .i64 (A6 x l 0)/\c=w):=by
 refine go V.func176 Tryz.ntmps176 ?_;refine cD (ei (n:=l.length) (λk=>[(0,.slice e l.length f),(1,.int .i64 x),(7,.int .i64 l.length),(8,.int .i64 k)]) (λk c=>c=w/\A6 x l 0=A6 x (l.drop k) k) ⟨⟨rfl,rfl,rfl,rfl,trivial⟩,rfl,rfl⟩ ?_ ?_ ?_);rintro k c d ⟨rfl,a⟩;exact cV ⟨rfl,rfl,⟨rfl,rfl,rfl,rfl,trivial⟩,rfl,a⟩;rintro k c d ⟨rfl,a⟩;obtain⟨b,o,rfl,j⟩:=i k d;rw[Kl x l k d]at a;refine dI k d (cu j (eh ⟨λh=>?_,λh=>?_⟩));have h:x=l[k]:=by simpa using h
 exact⟨_,rfl,by rw[a,cx h];rfl,rfl⟩;have h:¬x=l[k]:=by simpa using h
 rw[cr h]at a;exact cq ⟨⟨rfl,rfl,rfl,rfl,trivial⟩,rfl,a⟩;rintro c ⟨rfl,a⟩;exact⟨_,rfl,by rw[a];simp[A6],rfl⟩
structure Dr where
 st:Int
 at_:Int
 talk:Int
structure Gd where
 streets:Int
 corner:Int
 knock:Int
 minutes:Int
 days:Int
 tries:Int
 doors:List Dr
def dL(d:Dr):List ce:=[.int .i64 d.st,.int .i64 d.at_,.int .i64 d.talk]
def gD(w:cd)(a:Option Addr)(l:List Dr):Prop:=∀k (h:k<l.length),∃b o,a=some ⟨b,o,none⟩/\w.cell? ⟨b,o+k*3,none⟩=some (.int .i64 l[k].st)/\w.cell? ⟨b,o+k*3+1,none⟩=some (.int .i64 l[k].at_)/\w.cell? ⟨b,o+k*3+2,none⟩=some (.int .i64 l[k].talk)
def gD.ext{l:List Dr}(h:gD w a l)(e:Ext w t):gD t a l:=λk c=>by obtain⟨b,o,d,f,g,i⟩:=h k c;exact⟨b,o,d,e.cell f,e.cell g,e.cell i⟩
def gL(G:Gd)(a:Option Addr)(b:Nat):List ce:=[.int .i64 G.streets,.int .i64 G.corner,.int .i64 G.knock,.int .i64 G.minutes,.int .i64 G.days,.int .i64 G.tries,.slice a G.doors.length b]
def gV(G:Gd)(a:Option Addr)(b:Nat):ce:=.agg (gL G a b).toArray
def pg(G:Gd):Bool:=jX G.streets 1 3&&(jX G.corner 1 9&&(jX G.knock 1 5&&(jX G.minutes 1 90&&(jX G.days 1 3&&jX G.tries 1 G.days))))
def rF(n:Int)(d:Dr):Int:=if jX d.st 0 (n-1)then(if jX d.at_ 0 20&&jX d.talk 1 9 then 0 else 1)else 3
def nz(n:Int):List Dr->Int
 |[]=>0
 |d::r=>if rF n d=0 then nz n r else rF n d
def eg(G:Gd):Int:=if pg G then(if(5:Int)<G.doors.length then 6 else nz G.streets G.doors)else 1
def FC(n:Int)(l:List Dr)(k:Nat)(a:k<l.length):nz n (l.drop k)=if rF n l[k]=0 then nz n (l.drop (k+1))else rF n l[k]:=by rw[qH a];rfl
def Ko(G:Gd)(t:Option Addr)(D:Nat)(w:cd)(H:gD w t G.doors)(E:G.doors.length<=100000)(S: -1000000<=G.streets/\G.streets<=1000000):Calls V.prog 146 #[gV G t D] w (fy λv l=>v=.int .i64 (eg G)/\Ext w l):=by
 refine go V.func146 Tryz.ntmps146 ?_;refine fo λu I f J c=>?_;have a:∀{b:Bool},pg G=false->∃v,Ending.returned (one [Value.int .i64 1])=.returned v/\v=Value.int .i64 (eg G)/\Ext w u:=λh=>⟨_,rfl,by simp[eg,h],f⟩;refine cu (ci c rfl) (cS (ej _ _ _ _) (eu ⟨λh=>iR h (a (b:=true) (by simp at h;simp[pg,h])),λm=>?_⟩));refine cu (ci c rfl) (cS (ej _ _ _ _) (eu ⟨λh=>iR h (a (b:=true) (by simp at h;simp[pg,h])),λq=>?_⟩));refine cu (ci c rfl) (cS (ej _ _ _ _) (eu ⟨λh=>iR h (a (b:=true) (by simp at h;simp[pg,h])),λr=>?_⟩));refine cu (ci c rfl) (cS (ej _ _ _ _) (eu ⟨λh=>iR h (a (b:=true) (by simp at h;simp[pg,h])),λK=>?_⟩));refine cu (ci c rfl) (cS (ej _ _ _ _) (eu ⟨λh=>iR h (a (b:=true) (by simp at h;simp[pg,h])),λL=>?_⟩));refine cu (ci c rfl) (cu (ci c rfl) (cS (ej _ _ _ _) (eu ⟨λh=>(a (b:=true) (by simp at h;simp[pg,h])),λM=>?_⟩)));have F:pg G=true:=by simp at m q r K L M;simp[pg, *]
 refine cu (ci c rfl) (cD (ny ⟨λh=>⟨_,rfl,by simp at h;simp[eg,F,h],f⟩,λx=>?_⟩));have x:¬(5:Int)<G.doors.length:=by simpa using x
 have y:eg G=nz G.streets G.doors:=by simp[eg,F,x]
 refine cu (ci c rfl) (cD (ei (n:=G.doors.length) (λk=>[(1,.pointer (some ⟨I,0,none⟩)),(38,.slice t G.doors.length D),(39,.int .i64 G.doors.length),(40,.int .i64 k)]) (λk l=>Ext u l/\eg G=nz G.streets (G.doors.drop k)) ⟨⟨rfl,rfl,rfl,rfl,trivial⟩,Ext.refl _,by rw[y];rfl⟩ ?_ ?_ ?_));rintro k l s ⟨e,d⟩;exact cV ⟨rfl,rfl,⟨rfl,rfl,rfl,rfl,trivial⟩,e,d⟩;rintro k l s ⟨e,d⟩;obtain⟨b,o,rfl,N,z,O⟩:=(H.ext (f.trans e)) k s;rw[FC _ _ k s]at d;refine fF k 3 s (dP (vs:=dL G.doors[k]) (λj v g=>?_) (eF λT U P A B=>cZ B λQ R i=>?_));match j,g with
 |0,g=>cases g;exact N
 |1,g=>cases g;exact z
 |2,g=>cases g;exact O
 have p:Ext u Q:=(e.trans P).cy R (cJ e.size A);have C:=p.at_ c;refine cu (ci i rfl) (cu (ci C rfl) (fx (cS (ej _ _ _ _) (eu ⟨λh=>?_,λm=>?_⟩))));exact⟨_,rfl,by simp at h;rw[d];simp[rF,h],f.trans p⟩;simp at m;refine cu (ci i rfl) (cS (ej _ _ _ _) (eu ⟨λh=>iR h ?_,λq=>?_⟩));exact⟨_,rfl,by simp at h;rw[d];simp[rF,m,h],f.trans p⟩;simp at q;refine cu (ci i rfl) (cS (ej _ _ _ _) (eu ⟨λh=>?_,λr=>?_⟩));exact⟨_,rfl,by simp at h;rw[d];simp[rF,m,h],f.trans p⟩;simp at r;exact cq ⟨⟨rfl,rfl,rfl,rfl,trivial⟩,p,by rw[d];simp[rF,m,q,r]⟩;rintro l ⟨e,d⟩;exact⟨_,rfl,by rw[d];simp[nz],f.trans e⟩
end Go.Proofs.W
variable{T U:cg}
namespace Go.Proofs.W
open Go.RowKit
section
variable{w:cd}{k:ce->cd->Prop}
def RL(h:∀a b,Ext w a->w.heap.size<=b->a.heap[b]? =some (.map #[] 0)->k (.map (some b)) a):iO V.prog (Instr.makeMap T none) w k:=
 ⟨_,_,run_makeMap T w,h _ w.heap.size (Ext.alloc _ _) (cz _) (eU _ _)⟩
def dA{s:Sem ce}(v:ce)(h:k v w)(a:∀w,Sem.run V.prog s w=.ok v w:=by intro _;kernel_rfl):iO V.prog s w k:=⟨v,w,a w,h⟩
def dJ{a:Array (Nat×ce)}(d:List ce)(e:cg)(h:∀b c,Ext w b->w.heap.size<=c->b.heap[c]? =some (.cells d.toArray e)->k (.slice (some ⟨c,0,none⟩) m m) b)
 (f:∀w,Sem.run V.prog (Instr.buildSlice T m a) w=.ok (.slice (some ⟨w.heap.size,0,none⟩) m m) (w.alloc (.cells d.toArray e)):=by intro _;kernel_rfl):iO V.prog (Instr.buildSlice T m a) w k:=
 ⟨_,_,f w,h _ w.heap.size (Ext.alloc _ _) (cz _) (eU _ _)⟩
def FD(b e:cg)(a:List ce):Prop:=V.prog.underlying b=some (.slice e)/\∃i z,V.prog.info? e=some i/\i.zero=some z/\z.cells=a.toArray/\i.size=a.length/\i.bytes<=256/\0<a.length
def Tb:FD 22 81 [.int .i64 0,.int .i64 0,.int .i64 0]:=⟨by kernel_rfl,Tryz.t81,_,by kernel_rfl,rfl,by kernel_rfl,by kernel_rfl,by decide+kernel,by decide⟩
def oG:FD 27 3 [.int .i64 0]:=⟨by kernel_rfl,Tryz.t3,_,by kernel_rfl,rfl,by kernel_rfl,by kernel_rfl,by decide+kernel,by decide⟩
def Nt:FD 66 27 [.slice none 0 0]:=⟨by kernel_rfl,Tryz.t27,_,by kernel_rfl,rfl,by kernel_rfl,by kernel_rfl,by decide+kernel,by decide⟩
def zz{e:cg}{l:List ce}{q:Array Bool}(r:FD T e l){v:ce}{o:List ce}(s:cA i e l w v j o)(n:i<=w.heap.size){m c:Nat}{news:List ce}(t:news.length=m*l.length)(x:0<m) (a:∀p u,news[p]? =some u->w.cell? (h.add p)=some u)(y:∀u∈news,u.oneCell'=true)(g:j+m<=1000000) (A:∀d f,cA i e l f d (j+m) (o++news)->cN (cw v) w f->(∀b,cw d b->cw v b\/w.heap.size<=b)->k d f):wY V.prog (builtin .append #[T,T] U q #[v,.slice (some h) m c]) w k:=by obtain⟨B,M,z,C,D,E,F,G,H⟩:=r;obtain⟨d,f,I,J,K,L⟩:=Hs (ty:=U) B C D E F G H s n (c:=c) t x a y g;refine⟨d,f,?_,A d f J K L⟩;unfold builtin;simp only[Sem.run_bind,I,Result.andThen_ok,Sem.run_pure]
def fP{e:cg}{c:List ce}{n:Array Bool}(p:FD T e c){v:ce}{l:List ce}(h:cA m e c w v i l)(d:m<=w.heap.size){a:List ce}{q:cg}(r:w.heap[j]? =some (.cells a.toArray q))(b:i+1<=1000000)
 (s:∀f g,cA m e c g f (i+1) (l++a)->cN (cw v) w g->(∀j,cw f j->cw v j\/w.heap.size<=j)->k f g)(t:Nat.beq a.length c.length=true:=by rfl)(x:qC a=true:=by rfl):wY V.prog (builtin .append #[T,T] U n #[v,.slice (some ⟨j,0,none⟩) 1 o]) w k:=
 zz p h d (by rw[Nat.one_mul];exact gE t) (by omega) (λz u y=>by rw[fL,cB];exact ci r (by simpa using y)) (fU x) b s
def uH{e:cg}{f:List ce}{g:Array Bool}(l:FD T e f){b:Option Addr}(n:m<=i)(h:k (.slice a m i) w):wY V.prog (builtin .append #[T,T] U g #[.slice a m i,.slice b 0 j]) w k:=by
 obtain⟨c,o,z,d,r,s,t,u,v⟩:=l;refine⟨_,w,?_,h⟩;rw[V.sR]at c;rw[V.IE]at d;have p:Sem.run V.prog (sizeOf e) w=.ok o.size w:=Hz d w;have q:Sem.run V.prog (Builtin.append_ #[T,T] U #[.slice a m i,.slice b 0 j]) w=.ok (.slice a m i) w:=by unfold Builtin.append_;simp only[IB,L8,Be,Sem.run_bind,fZ c,Result.andThen_ok,p,Sem.run_pure];simp only[iq,eo,Builtin.lenOf,Sem.run_pure,Result.andThen_ok,mT,n,cX,Bool.not_false];cases b<;>cases a<;>simp[Builtin.firstCells,loadCells,loadCellsFrom,storeCells,Sem.run_bind,Sem.run_pure]<;>(intro h;omega)
 unfold builtin;simp only[Sem.run_bind,q,Result.andThen_ok,Sem.run_pure]
end
end Go.Proofs.W
variable{H N:Go.Proofs.W.Gd}{I J:Int}{S:cd->Prop}
namespace Go.Proofs.W
open Go.RowKit
def dH(G:Gd):List Dr:=⟨0,0,0⟩::G.doors
def vY(c:Int)(a b:Dr):Int:=if a.st=b.st then l5 a.at_ b.at_ else a.at_+b.at_+c*l5 a.st b.st
def jK(G:Gd)(i j:Nat):Int:=match(dH G)[i]?,(dH G)[j]? with
 |some a,some b=>vY G.corner a b
 |_,_=>0
def RM(f a:Nat):ce:=.func (.func f) #[] #[.pointer (some ⟨a,0,none⟩)]
def FE(G:Gd)(a:Option Addr)(dc mk ms:Nat)(b c:ce)(f:Nat->Nat->Int)(j:Nat):ce:=
 if j<7 then(gL G a dc).getD j undef else if j<43 then .int .i64 (f ((j-7)/6) ((j-7)%6))else if j=43 then .map (some mk)else if j=44 then .map (some ms)else if j=45 then b else c
structure nA(gp:Nat)(C:Nat->ce)(w:cd):Prop where
 out:∃cs,w.heap[gp]? =some (.cells cs 186)/\cs.size=47/\∀j,j<47->cs[j]? =some (C j)
def nA.cell{C:Nat->ce}(h:nA m C w)(j:Nat)(a:j<47:=by omega):w.cell? ⟨m,j,none⟩=some (C j):=by obtain⟨d,b,e,c⟩:=h.out;exact ci b (c j a)
def nA.ext{C:Nat->ce}(h:nA m C w)(e:Ext w t):nA m C t:=by obtain⟨a,b,c,d⟩:=h.out;exact⟨a,e.at_ b,c,d⟩
def nA.mono{C a:Nat->ce}(h:nA m C w)(e:∀j,j<47->C j=a j):nA m a w:=by obtain⟨c,d,f,g⟩:=h.out;exact⟨c,d,f,λj b=>by rw[g j b,e j b]⟩
theorem nB:∀(b:List ce) (a:Array ce) (o j:Nat),o+b.length<=a.size->(fT a o b)[j]? =if o<=j/\j<o+b.length then b[j-o]? else a[j]?
 |[],a,o,j,_=>by simp[fT];omega
 |v::r,a,o,j,h=>by simp only[dW]at h;have e:=nB r (a.setIfInBounds o v) (o+1) j (by simp;omega);simp only[fT,e,dW];by_cases c:o+1<=j/\j<o+1+r.length;rw[cx c,cx (by omega)];rw[show j-o=(j-(o+1))+1 by omega];simp;rw[cr c];by_cases d:o=j;subst d;rw[cx (by omega),jE (by omega)];simp;rw[cr (by omega),eY d]
theorem n8:∀(b:List ce) (a:Array ce) (o:Nat),(fT a o b).size=a.size
 |[],_,_=>rfl
 |v::r,a,o=>by rw[fT,n8 r];simp
def Nu{C:Nat->ce}(h:nA m C w)(p:o+x.cells.size<=47)(b:∀a,cN (λc=>c=m) w a->nA m (λj=>if o<=j/\j<o+x.cells.size then x.cells.toList.getD (j-o) undef else C j) a->S a)
 (d:qC x.cells.toList=true:=by rfl)(e:RG T=some x.cells.size:=by rfl):DR V.prog (Instr.storeAt T (.pointer (some ⟨m,o,none⟩)) x) w S:=by
 obtain⟨q,f,g,i⟩:=h.out;refine iA f (by omega) (λa k l=>b a k ⟨_,l,by rw[n8];exact g,λj n=>?_⟩) (fU d) e;rw[nB _ _ _ _ (by simp;omega)];simp only[Array.length_toList];split;rename_i r;have:j-o<x.cells.toList.length:=by simp;omega
 rw[gU,ew this];rfl;exact i j n
structure oR(gp mk ms:Nat)(G:Gd)(w:cd):Prop where
 at_:∃da dc gb,nA gp (FE G da dc mk ms (RM 179 gb) (RM 180 gb) (jK G)) w/\gD w da G.doors/\w.cell? ⟨gb,5,none⟩=some (.int .i64 G.tries)
 ok:eg G=0
 mlt:mk<w.heap.size
 slt:ms<w.heap.size
 ne:mk≠ms
 gk:gp≠mk/\gp≠ms
theorem oR.ext{gp mk ms:Nat}(h:oR gp mk ms H w)(e:Ext w t):oR gp mk ms H t:=by obtain⟨a,b,c,d,f,g⟩:=h.at_;exact⟨⟨a,b,c,d.ext e,f.ext e,e.cell g⟩,h.ok,dl h.mlt e.size,dl h.slt e.size,h.ne,h.gk⟩
structure Gd.Ok(G:Gd):Prop where
 streets:1<=G.streets/\G.streets<=3
 corner:1<=G.corner/\G.corner<=9
 knock:1<=G.knock/\G.knock<=5
 minutes:1<=G.minutes/\G.minutes<=90
 days:1<=G.days/\G.days<=3
 tries:1<=G.tries/\G.tries<=G.days
 many:G.doors.length<=5
 door:∀d∈G.doors,(0<=d.st/\d.st<=2)/\(0<=d.at_/\d.at_<=20)/\1<=d.talk/\d.talk<=9
theorem BJ(c:I<=3):∀{l:List Dr},nz I l=0->∀d∈l,(0<=d.st/\d.st<=2)/\(0<=d.at_/\d.at_<=20)/\1<=d.talk/\d.talk<=9
 |x::r,h,d,b=>by simp only[nz]at h;split at h;rename_i a;rcases eQ.1 b with rfl|b;simp only[rF]at a;split at a;split at a;rename_i e f;simp[jX]at e f;omega;omega;omega;exact BJ c h d b;rename_i a;exact absurd h a
def ek(h:eg H=0):H.Ok:=by simp only[eg]at h;split at h;rename_i a;split at h;omega;rename_i b;simp[pg,jX]at a;refine⟨by omega,by omega,by omega,by omega,by omega,by omega,by omega,BJ (by omega) h⟩;omega
def mq(h:H.Ok)(i j:Nat):0<=jK H i j/\jK H i j<=1000:=by
 have f:∀d∈dH H,(0<=d.st/\d.st<=2)/\(0<=d.at_/\d.at_<=20):=λd c=>by rcases eQ.1 c with rfl|c;simp;exact⟨(h.door d c).1,(h.door d c).2.1⟩
 unfold jK;split;rename_i a b g k;have m:=f a (nR g);have n:=f b (nR k);have l:=h.corner;unfold vY;split;unfold l5;omega;have e:0<=l5 a.st b.st/\l5 a.st b.st<=2:=by unfold l5;omega
 have:=Int.mul_le_mul l.2 e.2 e.1 (by omega);have:=yx (show 0<=H.corner by omega) e.1;omega;omega
end Go.Proofs.W
variable{A B C:Nat->Prop}
namespace Go.Proofs.W
open Go.RowKit
def pi(G:Gd)(i k a b:Nat):Int:=if a<i\/(a=i/\b<k)then jK G a b else 0
def FF(G:Gd)(h:(dH G).length<=m\/(dH G).length<=k):jK G m k=0:=by unfold jK;rcases h with h|h;rw[IA h];rw[IA h];split<;>simp_all
def Qh(G:Gd)(a:m<(dH G).length)(b:k<(dH G).length):jK G m k=vY G.corner (dH G)[m] (dH G)[k]:=by unfold jK;rw[ew a,ew b]
def Nv(G:Gd)(a:Option Addr)(dc mk ms:Nat)(b c:ce)(i k:Nat)(l:i<6)(m:k<6)(n:Int)(g:n=jK G i k)(j:Nat)(o:j<47):
 (if 7+i*6+k<=j/\j<7+i*6+k+1 then([Value.int .i64 n]:List ce).getD (j-(7+i*6+k)) undef else FE G a dc mk ms b c (pi G i k) j)=FE G a dc mk ms b c (pi G i (k+1)) j:=by
 split;rename_i h;obtain rfl:j=7+i*6+k:=by omega
 simp only[lf,List.getD_cons_zero,FE];rw[cr (by omega),cx (by omega)];have d:(7+i*6+k-7)/6=i:=by omega
 have f:(7+i*6+k-7)%6=k:=by omega
 rw[d,f];simp[pi,g];rename_i h;simp only[FE];split;rfl;split;rename_i d f;have:¬((j-7)/6=i/\(j-7)%6=k):=by omega
 congr 1;simp only[pi];have e:((j-7)/6<i\/(j-7)/6=i/\(j-7)%6<k)↔((j-7)/6<i\/(j-7)/6=i/\(j-7)%6<k+1):=by omega
 simp only[e];rfl
def Qi{ds:List Dr}(h:cA m 81 [.int .i64 0,.int .i64 0,.int .i64 0] w x k (ds.flatMap dL))(p:k=ds.length):∃a c,x=.slice a k c/\gD w a ds/\∀b o,a=some ⟨b,o,none⟩->m<=b:=by
 subst p;have j:∀(ds:List Dr) (f:Nat) (g:f<ds.length),(ds.flatMap dL)[f*3]? =some (.int .i64 ds[f].st)/\(ds.flatMap dL)[f*3+1]? =some (.int .i64 ds[f].at_)/\(ds.flatMap dL)[f*3+2]? =some (.int .i64 ds[f].talk):=by
  intro ds;induction ds with
  |nil=>intro f g;simp at g
  |cons d r q=>
   intro f g;cases f with
   |zero=>simp[dL]
   |succ f=>
    have:=q f (by simpa using g);have e:(f+1)*3=f*3+3:=by omega
    simpa[dL,e]using this
 obtain⟨s,⟨t,rfl⟩|⟨b,c,z,A,rfl,i,B,C,D,l,E⟩⟩:=h;exact⟨none,0,by rw[t],λf g=>by omega,λ_ _ h=>by cases h⟩;refine⟨_,c,rfl,λf g=>⟨b,0,rfl,?_⟩,λ_ _ h=>by injection h with h;injection h with F i;omega⟩;have n:(ds.flatMap dL).length=ds.length*3:=by simpa using s
 obtain⟨u,v,y⟩:=j ds f g;refine⟨ci i ?_,ci i ?_,ci i ?_⟩;rw[cB,l _ (by omega)];exact u;rw[cB,l _ (by omega)];exact v;rw[cB,l _ (by omega)];exact y
theorem uI:∀(a:List Dr) (k:Nat) (b:k<a.length),(a.flatMap dL)[k*3]? =some (.int .i64 a[k].st)/\(a.flatMap dL)[k*3+1]? =some (.int .i64 a[k].at_)/\(a.flatMap dL)[k*3+2]? =some (.int .i64 a[k].talk)
 |d::r,0,_=>by simp[dL]
 |d::r,k+1,b=>by
  have:=uI r k (by simpa using b);have e:(k+1)*3=k*3+3:=by omega
  simpa[dL,e]using this
theorem zA:∀a:List Dr,(a.flatMap dL).length=a.length*3
 |[]=>rfl
 |d::r=>by have:=zA r;simp[dL,this];omega
def HH{b:List Dr}(h:gD w (some ⟨m,o,none⟩) b)(j:Nat)(u:ce)(a:(b.flatMap dL)[j]? =some u):w.cell? ⟨m,o+j,none⟩=some u:=by
 have t:j<b.length*3:=by rw[<-zA];exact(gy.1 a).1
 have d:j/3<b.length:=by omega
 obtain⟨f,g,e,i,k,l⟩:=h (j/3) d;obtain⟨rfl,rfl⟩:m=f/\o=g:=by injection e with e;injection e with n p;exact⟨n,p⟩
 obtain⟨q,r,s⟩:=uI b (j/3) d;have c:j%3=0\/j%3=1\/j%3=2:=by omega
 rcases c with c|c|c;have e:j=j/3*3:=by omega
 rw[e]at a⊢;rw[q]at a;cases a;exact i;have e:j=j/3*3+1:=by omega
 rw[e]at a⊢;rw[r]at a;cases a;exact k;have e:j=j/3*3+2:=by omega
 rw[e]at a⊢;rw[s]at a;cases a;exact l
def Qj{s:ce->cd->Prop}{z:Array Bool}{f e:List Dr}(h:cA m 81 [.int .i64 0,.int .i64 0,.int .i64 0] w x k (f.flatMap dL))(q:m<=w.heap.size)(t:gD w a e)(g:k+e.length<=1000000) (v:∀n l,cA m 81 [.int .i64 0,.int .i64 0,.int .i64 0] l n (k+e.length) ((f++e).flatMap dL)->cN (cw x) w l->s n l):wY V.prog (builtin .append #[22,22] T z #[x,.slice a e.length i]) w s:=by
 rcases e with _|⟨d,r⟩;have A:∃y c,x=.slice y k c/\k<=c:=by obtain⟨_,⟨rfl,rfl⟩|⟨b,c,G,_,rfl,_,_,B,_⟩⟩:=h;exact⟨_,_,rfl,cz _⟩;exact⟨_,_,rfl,B⟩
 obtain⟨y,c,rfl,C⟩:=A;exact uH Tb C (v _ _ (by simpa using h) (cN.refl _ w));obtain⟨b,o,rfl,_⟩:=t 0 (by simp);refine zz Tb h q (news:=(d::r).flatMap dL) (zA _) (by simp) (λj u D=>by rw[fL];exact HH t j u D) (λu p=>?_) g λn l E F _=>v n l (by simpa using E) F;obtain⟨H,_,p⟩:=lJ.1 p;simp[dL]at p;rcases p with rfl|rfl|rfl<;>rfl
def gD.keep{c:List Dr}(h:gD w a c)(k:cN A w t)(d:∀b o,a=some ⟨b,o,none⟩->¬A b):gD t a c:=λi e=>by obtain⟨b,o,rfl,f,g,j⟩:=h i e;have:=d b o rfl;exact⟨b,o,rfl,k.ef f this,k.ef g this,k.ef j this⟩
def nA.keep{C:Nat->ce}(h:nA m C w)(k:cN A w t)(a:¬A m):nA m C t:=by obtain⟨b,c,d,e⟩:=h.out;exact⟨b,k.fg c a,d,e⟩
def FG(h:H.Ok)(d:Dr)(a:d∈dH H):(0<=d.st/\d.st<=2)/\(0<=d.at_/\d.at_<=20):=by rcases eQ.1 a with rfl|a;simp;exact⟨(h.door d a).1,(h.door d a).2.1⟩
def Nw(h:cN (cw (.slice (some ⟨m,o,none⟩) k i)) w t):cN (λx=>x=m) w t:=
 ⟨h.os,h.tape,h.output,h.size,h.drawn,λx a b=>h.block x a λ⟨c,d,e⟩=>b (by injection e with e;exact(cM Addr.block (cE e)).symm)⟩
def VL(G:Gd)(a:Option Addr)(dc mk ms:Nat):List ce:=gL G a dc++(List.replicate 36 (Value.int .i64 0)++[Value.map (some mk),Value.map (some ms),Value.nilFunc,Value.nilFunc])
def Kp(G:Gd)(g:Option Addr)(m:Nat)(w:cd)(hd:gD w g G.doors)(W:G.doors.length<=100000)(hs: -1000000<=G.streets/\G.streets<=1000000):
 Calls V.prog 144 #[gV G g m] w (fy λv t=>Ext w t/\((eg G≠0/\v=.tuple #[.pointer none,.int .i64 (eg G)])\/(eg G=0/\∃c mk l,v=.tuple #[.pointer (some ⟨c,0,none⟩),.int .i64 0]/\oR c mk l G t/\
  w.heap.size<=c/\w.heap.size<=mk/\w.heap.size<=l/\t.heap[mk]? =some (.map #[] 0)/\t.heap[l]? =some (.map #[] 0)))):=by
 refine go V.func144 Tryz.ntmps144 ?_;refine fo λX E F aI hb=>?_;refine dP (vs:=gL G g m) (λj v d=>by rw[cB];exact ci hb (by simpa[gV,Value.cells]using d)) ?_;refine dq (Ko G g m X (hd.ext F) W hs) λw2 H=>?_;refine eG ⟨λh=>⟨_,rfl,F.trans H,.inl ⟨by simpa using h,rfl⟩⟩,λh=>?_⟩;have O:eg G=0:=by simpa using h
 have ok:=ek O;have z:=H.at_ hb;refine dP (vs:=gL G g m) (λj v d=>by rw[cB];exact ci z (by simpa[gV,Value.cells]using d)) ?_;refine RL λw3 mk M aJ hm=>RL λw4 l I aK Y=>?_;refine dA (.agg (VL G g m mk l).toArray) ?_;refine fo λw5 c e5 al hg=>?_;have E5:Ext w w5:=(((F.trans H).trans M).trans I).trans e5;refine dA (.agg #[.int .i64 0,.int .i64 0,.int .i64 0]) ?_;refine dJ (dL ⟨0,0,0⟩) 81 λw6 pb e6 am hp=>?_;have an:gD w6 g G.doors:=hd.ext (E5.trans e6);refine cu (ci ((M.trans (I.trans (e5.trans e6))).at_ z) rfl) ?_;have ao:nA c (FE G g m mk l .nilFunc .nilFunc (pi G 0 0)) w5:=by
  refine⟨_,hg,by simp[Value.cells,VL,gL],λj d=>?_⟩;show(VL G g m mk l).toArray[j]? =_;have h0:∀a b,pi G 0 0 a b=0:=λa b=>by simp[pi]
  rw[IB];unfold VL FE;split;rename_i h7;rw[kz (by simpa[gL]using h7),gU,ew (by simpa[gL]using h7)];rfl;rename_i h7;rw[mQ (by simp[gL];omega)];have hl:(gL G g m).length=7:=rfl;rw[hl];split;rename_i ap;rw[kz (by simp;omega),List.getElem?_replicate,cx (by omega),h0]
  ·rename_i ap;rw[mQ (by simp;omega),List.length_replicate];obtain rfl|rfl|rfl|rfl:j=43\/j=44\/j=45\/j=46:=by omega
   all_goals rfl
 have aq:cA pb 81 [.int .i64 0,.int .i64 0,.int .i64 0] w6 (.slice (some ⟨pb,0,none⟩) 1 1) 1 (([⟨0,0,0⟩]:List Dr).flatMap dL):=
  ⟨rfl,.inr ⟨pb,1,_,cz _,rfl,hp,rfl,cz _,by decide,λj d=>by simp[List.flatMap],λj h1 h2=>by simp[dL]at h1 h2;omega⟩⟩
 have aH:=cF.lt_of_heap hp;refine Qj aq (by omega) an (by omega) λv w7 ar k7=>?_;have e7:Ext w5 w7:=e6.cy (Nw k7) am;have Z:(dH G).length=1+G.doors.length:=by simp[dH];omega
 obtain⟨pa,pc,rfl,au,av⟩:=Qi (ds:=dH G) ar Z.symm;rw[<-Z];have aw:=ao.ext e7;have ax:=(M.trans (I.trans (e5.trans e7))).at_ z;have h6:(dH G).length<=6:=by have:=ok.many;omega
 have lb:E<w2.heap.size:=cF.lt_of_heap z;have lm:mk<w3.heap.size:=cF.lt_of_heap hm;have ls:l<w4.heap.size:=cF.lt_of_heap Y;have lg:c<w5.heap.size:=cF.lt_of_heap hg;have s3:=M.size;have s4:=I.size;have A:c≠mk/\c≠l/\E≠c/\mk≠l:=by omega
 refine cD (ei (n:=(dH G).length) (λk=>[(1,.pointer (some ⟨E,0,none⟩)),(5,.pointer (some ⟨c,0,none⟩)),(6,.slice pa (dH G).length pc),(26,.slice pa (dH G).length pc),(27,.int .i64 (dH G).length),(28,.int .i64 k)])
  (λi t=>cN (λx=>x=c) w7 t/\nA c (FE G g m mk l .nilFunc .nilFunc (pi G i 0)) t) ⟨⟨rfl,rfl,rfl,rfl,rfl,rfl,trivial⟩,cN.refl _ _,aw⟩ ?_ ?_ ?_)
 rintro k t S ⟨k',T⟩;exact cV ⟨rfl,rfl,⟨rfl,rfl,rfl,rfl,rfl,rfl,trivial⟩,k',T⟩;rintro i t T ⟨U,P⟩;have aa:∀b o,pa=some ⟨b,o,none⟩->¬(b=c):=λb o h=>by have:=av b o h;omega
 have ac:gD t pa (dH G):=au.keep U aa;obtain⟨b,o,Q,h1,h2,h3⟩:=ac i T;subst Q;have aL:=FG ok _ (dt T)
 refine fF i 3 T (dP (vs:=dL (dH G)[i]) (λj u d=>by
  match j,d with
  |0,d=>cases d;exact h1
  |1,d=>cases d;exact h2
  |2,d=>cases d;exact h3) (eF λw8 ab e8 ay az=>cZ az λw9 k9 ad=>?_))
 have kw:=U.size;have s7:=e7.size;have ae:i<6:=by omega
 have aA:=(P.ext e8).keep k9 (show¬(c=ab) by omega);have aM:=cF.lt_of_heap ad;have e9:Ext t w9:=e8.cy k9 ay
 refine cD (ei (n:=(dH G).length) (λk=>[(1,.pointer (some ⟨E,0,none⟩)),(5,.pointer (some ⟨c,0,none⟩)),(6,.slice (some ⟨b,o,none⟩) (dH G).length pc),(7,.int .i64 i),(8,.pointer (some ⟨ab,0,none⟩)),(26,.slice (some ⟨b,o,none⟩) (dH G).length pc),(27,.int .i64 (dH G).length),(28,.int .i64 i),
  (33,.slice (some ⟨b,o,none⟩) (dH G).length pc),(34,.int .i64 (dH G).length),(35,.int .i64 k)]) (λk R=>cN (λx=>x=c) w9 R/\nA c (FE G g m mk l .nilFunc .nilFunc (pi G i k)) R) ⟨⟨rfl,rfl,rfl,rfl,rfl,rfl,rfl,rfl,rfl,rfl,rfl,trivial⟩,cN.refl _ _,aA⟩ ?_ ?_ ?_)
 rintro k R S ⟨J,B⟩;exact cV ⟨rfl,rfl,⟨rfl,rfl,rfl,rfl,rfl,rfl,rfl,rfl,rfl,rfl,rfl,trivial⟩,J,B⟩;rintro k R S ⟨J,B⟩;have aN:=FG ok _ (dt S);have af:k<6:=by omega
 have aB:gD R (some ⟨b,o,none⟩) (dH G):=(ac.ext e9).keep J aa;obtain⟨b2,o2,Q,g1,g2,g3⟩:=aB k S;obtain⟨rfl,rfl⟩:b=b2/\o=o2:=by injection Q with e;injection e with F H;exact⟨F,H⟩
 refine fF k 3 S (dP (vs:=dL (dH G)[k]) (λj u d=>by
  match j,d with
  |0,d=>cases d;exact g1
  |1,d=>cases d;exact g2
  |2,d=>cases d;exact g3) (eF λaO bb aC aD ag=>cZ ag λK aE r=>?_))
 have L:Ext R K:=aC.cy aE aD;have sk:=J.size;have s:K.heap[ab]? =some (.cells (fT (sH 81).toArray 0 (dL (dH G)[i])) 81):=L.at_ (J.fg ad (show¬(ab=c) by omega));have N:=B.ext L;have ah:K.cell? ⟨E,1,none⟩=some (.int .i64 G.corner):=L.cell (J.ef (e9.cell (U.ef (ci ax rfl) A.2.2.1)) A.2.2.1)
 have ai:∀p f,Ext K p->∀n:Int,n=jK G i k->cN (λx=>x=c) p f->nA c (λj=>if 7+i*6+k<=j/\j<7+i*6+k+1 then([Value.int .i64 n]:List ce).getD (j-(7+i*6+k)) undef else FE G g m mk l .nilFunc .nilFunc (pi G i k) j) f->
  cN (λx=>x=c) w9 f/\nA c (FE G g m mk l .nilFunc .nilFunc (pi G i (k+1))) f:=λp f e n hn C hg=>by
  refine⟨(J.trans ((L.trans e).keep λx=>x=c) (λ_ _ h=>h) λ_ _ h=>h).trans C (λ_ _ h=>h) λ_ _ h=>h,hg.mono λj d=>Nv G g m mk l _ _ i k (by omega) (by omega) n hn j d⟩
 have aj:jK G i k=vY G.corner (dH G)[i] (dH G)[k]:=Qh G T S;refine cu (ci s rfl) (cu (ci r rfl) (eh ⟨λh=>?_,λh=>?_⟩));refine cQ cO (cG (ci s rfl) (cG (ci r rfl) (ia cO _ (λX e=>Jc _ _ X (by omega) (by omega)) (Jb i 6 6 ae (pM k 6 af λp e=>Nu (N.ext e) (by simp[Value.cells];omega) λf C D=>?_)))));have h:(dH G)[i].st=(dH G)[k].st:=cY h;exact cq ⟨⟨rfl,rfl,rfl,rfl,rfl,rfl,rfl,rfl,rfl,rfl,rfl,trivial⟩,ai p f e _ (by rw[aj];simp[vY,h]) C D⟩;have h:¬(dH G)[i].st=(dH G)[k].st:=dQ h;have hf:0<=l5 (dH G)[i].st (dH G)[k].st/\l5 (dH G)[i].st (dH G)[k].st<=2:=by unfold l5;omega
 have hc:=ok.corner;have m1:=Int.mul_le_mul hc.2 hf.2 hf.1 (by omega);have m2:=yx (show 0<=G.corner by omega) hf.1
 refine cQ cO (cG (ci s rfl) (cG (ci r rfl) (zx (cG ah (cG (ci s rfl) (cG (ci r rfl) (ia cO _ (λX e=>Jc _ _ X (by omega) (by omega)) (Nq (zx (Jb i 6 6 ae (pM k 6 af λp e=>
  Nu (N.ext e) (by simp[Value.cells];omega) λf C D=>?_)))))))))))
 exact cq ⟨⟨rfl,rfl,rfl,rfl,rfl,rfl,rfl,rfl,rfl,rfl,rfl,trivial⟩,ai p f e _ (by rw[aj];simp[vY,h]) C D⟩;rintro R ⟨J,B⟩;refine cq ⟨⟨rfl,rfl,rfl,rfl,rfl,rfl,trivial⟩,U.trans (((e9.keep λx=>x=c).trans J (λ_ _ h=>h) λ_ _ h=>h)) (λ_ _ h=>h) λ_ _ h=>h,B.mono λj d=>?_⟩;simp only[FE];split;rfl;split;congr 1;simp only[pi];generalize (j-7)/6=x;generalize hy:(j-7)%6=y;by_cases hx:x<i\/x=i/\y<(dH G).length;rw[cx hx,cx (by omega)];rw[cr hx];split;rw[FF G (by omega)];rfl;rfl;rintro t ⟨U,P⟩;have ak:nA c (FE G g m mk l .nilFunc .nilFunc (jK G)) t:=P.mono λj d=>by simp only[FE];split;rfl;split;congr 1;simp only[pi];split;rfl;rw[FF G (by omega)];rfl
 refine dA (.agg #[RM 179 E,RM 180 E]) (Nu ak (sO rfl) λw8 k8 aF=>?_);have aG:cN (λx=>x=c) w7 w8:=U.trans k8 (λ_ _ h=>h) λ_ _ h=>h;have q:Ext w4 w8:=(e5.trans e7).cy aG al;refine⟨_,rfl,((F.trans H).trans (M.trans I)).trans q,.inr ⟨O,c,mk,l,rfl,⟨⟨g,m,E,aF.mono λj d=>?_,hd.ext (((F.trans H).trans (M.trans I)).trans q),?_⟩,O,?_,?_,A.2.2.2,A.1,A.2.1⟩,?_,?_,?_,?_,?_⟩⟩;show(if 45<=j/\j<45+2 then([RM 179 E,RM 180 E]:List ce).getD (j-45) undef else _)=_;split
 ·obtain rfl|rfl:j=45\/j=46:=by omega
  all_goals simp[FE]
 ·simp only[FE];repeat' split
  all_goals first|rfl|omega
 exact(q.trans (Ext.refl _)).cell ((M.trans I).cell (ci z rfl));have:=q.size;omega;have:=q.size;omega;have:=(F.trans H).size;have:=(M.trans I).size;omega;have:=(F.trans H).size;omega;have:=(F.trans H).size;omega;exact q.at_ (I.at_ hm);exact q.at_ Y
def eO(w:cd)(a:Option Addr)(l:List Nat):Prop:=∀k (h:k<l.length),∃b o,a=some ⟨b,o,none⟩/\w.cell? ⟨b,o+k,none⟩=some (.int .i64 l[k])
def eO.ext{w c:cd}{a:Option Addr}{l:List Nat}(h:eO w a l)(e:Ext w c):eO c a l:=λk d=>by obtain⟨b,o,f,g⟩:=h k d;exact⟨b,o,f,e.cell g⟩
def lU(l:List Nat):List Int:=l.map λn:Nat=>(n:Int)
def eO.ints{w:cd}{a:Option Addr}{l:List Nat}(h:eO w a l):ja w a (lU l):=λk d=>by
 have c:k<l.length:=by simpa[lU]using d
 obtain⟨b,o,e,f⟩:=h k c;exact⟨b,o,e,by rw[f];simp[lU]⟩
section
variable{gp mk ms:Nat}{G:Gd}{w:cd}
def oR.tY(h:oR gp mk ms G w):G.Ok:=ek h.ok
def oR.ways(h:oR gp mk ms G w)(i j:Nat)(d:i<6)(e:j<6):w.cell? ⟨gp,7+i*6+j,none⟩=some (.int .i64 (jK G i j)):=by
 obtain⟨f,g,k,a,_⟩:=h.at_;rw[a.cell (7+i*6+j)];simp only[FE];rw[cr (by omega),cx (by omega)];have b:(7+i*6+j-7)/6=i:=by omega
 have c:(7+i*6+j-7)%6=j:=by omega
 rw[b,c]
def oR.c2(h:oR gp mk ms G w):w.cell? ⟨gp,2,none⟩=some (.int .i64 G.knock):=by obtain⟨b,c,d,a,_⟩:=h.at_;exact a.cell 2
def oR.c3(h:oR gp mk ms G w):w.cell? ⟨gp,3,none⟩=some (.int .i64 G.minutes):=by obtain⟨b,c,d,a,_⟩:=h.at_;exact a.cell 3
def oR.c4(h:oR gp mk ms G w):w.cell? ⟨gp,4,none⟩=some (.int .i64 G.days):=by obtain⟨b,c,d,a,_⟩:=h.at_;exact a.cell 4
def oR.c5(h:oR gp mk ms G w):w.cell? ⟨gp,5,none⟩=some (.int .i64 G.tries):=by obtain⟨b,c,d,a,_⟩:=h.at_;exact a.cell 5
def oR.c6(h:oR gp mk ms G w):∃a b,w.cell? ⟨gp,6,none⟩=some (.slice a G.doors.length b)/\gD w a G.doors:=by obtain⟨a,b,e,c,d,_⟩:=h.at_;exact⟨a,b,c.cell 6,d⟩
def oR.X8(h:oR gp mk ms G w):w.cell? ⟨gp,43,none⟩=some (.map (some mk)):=by obtain⟨b,c,d,a,_⟩:=h.at_;exact a.cell 43
def oR.X9(h:oR gp mk ms G w):w.cell? ⟨gp,44,none⟩=some (.map (some ms)):=by obtain⟨b,c,d,a,_⟩:=h.at_;exact a.cell 44
def oR.fn(h:oR gp mk ms G w):∃a,w.cell? ⟨gp,45,none⟩=some (RM 179 a)/\w.cell? ⟨gp,46,none⟩=some (RM 180 a)/\w.cell? ⟨a,5,none⟩=some (.int .i64 G.tries):=by obtain⟨d,e,a,b,_,c⟩:=h.at_;exact⟨a,b.cell 45,b.cell 46,c⟩
def ik(G:Gd)(l:List Nat):Int:=pN (jK G) l
def dr(G:Gd)(l:List Nat):Int:=tG (jK G) G.knock l
def gQ(G:Gd)(l:List Nat):Int:=(l.map λd=>((G.doors[d]?).map (·.talk)).getD 0).sum
def dF(G:Gd)(l:List Nat):Int:=dr G l+gQ G l
variable{l:List Nat}{la:Option Addr}{lc:Nat}
def Kq(h:oR gp mk ms G w)(b:∀d∈l,d<G.doors.length)(a:l.length<=100000)(c:eO w la l):Calls V.prog 161 #[.pointer (some ⟨gp,0,none⟩),.slice la l.length lc] w (fy λv e=>v=.int .i64 (ik G l)/\e=w):=by have:=h.tY.many;exact zy gp (jK G) l la lc w h.ways (mq h.tY) (λd f=>by have:=b d f;omega) a c
def zB(h:oR gp mk ms G w)(b:∀d∈l,d<G.doors.length)(a:l.length<=100000)(c:eO w la l):Calls V.prog 114 #[.pointer (some ⟨gp,0,none⟩),.slice la l.length lc] w (fy λv e=>v=.int .i64 (dr G l)/\Ext w e):=by have:=h.tY.many;have:=h.tY.knock;exact Kk gp (jK G) G.knock l la lc w h.c2 h.ways (mq h.tY) (λd f=>by have:=b d f;omega) a c (by omega)
def BK(a:G.Ok)(l:List Nat)(b:l.length<=100000):0<=dr G l/\dr G l<=1000000000:=by have d:=pO (mq a) l;have c:=a.knock;have e:=Int.mul_le_mul_of_nonneg_left c.2 (Int.natCast_nonneg l.length);have f:=yx (Int.natCast_nonneg l.length) (show 0<=G.knock by omega);unfold dr tG;omega
def HI(G:Gd)(l:List Nat)(k:Nat)(a:k<l.length)(b:l[k]<G.doors.length):gQ G (l.take (k+1))=gQ G (l.take k)+G.doors[l[k]].talk:=by unfold gQ;rw[gP a,nQ,List.sum_append];simp[ew b]
theorem zC(a:G.Ok):∀(l:List Nat),0<=gQ G l/\gQ G l<=9*l.length
 |[]=>by simp[gQ]
 |d::r=>by
  have:=zC a r
  have b:0<=((G.doors[d]?).map (·.talk)).getD 0/\((G.doors[d]?).map (·.talk)).getD 0<=9:=by
   cases h:G.doors[d]? with
   |none=>simp
   |some x=>have:=a.door x (nR h);simp;omega
  have e:gQ G (d::r)=((G.doors[d]?).map (·.talk)).getD 0+gQ G r:=by simp[gQ]
  simp only[e,dW];omega
def yf(h:oR gp mk ms G w)(j:∀d∈l,d<G.doors.length)(a:l.length<=100000)(m:eO w la l):Calls V.prog 115 #[.pointer (some ⟨gp,0,none⟩),.slice la l.length lc] w (fy λv c=>v=.int .i64 (dF G l)/\Ext w c):=by
 refine go V.func115 Tryz.ntmps115 ?_;have u:=BK h.tY l a;have x:=h.tY.many;refine dq (zB h j a m) λp g=>?_;refine cD (ei (n:=l.length) (λk=>[(0,.pointer (some ⟨gp,0,none⟩)),(11,.slice la l.length lc),(12,.int .i64 l.length),(13,.int .i64 k),(5,.int .i64 (dr G l+gQ G (l.take k)))]) (λ_ c=>c=p) ⟨⟨rfl,rfl,rfl,rfl,by show some _=some _;simp[gQ],trivial⟩,rfl⟩ ?_ ?_ ?_);rintro k c e rfl;exact cV ⟨rfl,rfl,⟨rfl,rfl,rfl,rfl,rfl,trivial⟩,rfl⟩;rintro k c e rfl;obtain⟨b,o,rfl,q⟩:=(m.ext g) k e;have f:=j _ (dt e);obtain⟨y,z,r,i⟩:=(h.ext g).c6;obtain⟨A,B,rfl,_,_,s⟩:=i _ f;have C:=zC h.tY (l.take k);have D:=h.tY.door _ (dt f);have t:(l.take k).length<=100000:=by simp;omega
 refine dI k e (cu q (cu r (fF l[k] 3 f (cu s (cq (cq ⟨⟨rfl,rfl,rfl,rfl,?_,trivial⟩,rfl⟩))))));show some _=some _;rw[HI G l k e f,Int.add_assoc];rintro c rfl;exact⟨_,rfl,by simp[dF],g⟩
def last_at(h:oR gp mk ms G w):Calls V.prog 107 #[.pointer (some ⟨gp,0,none⟩)] w (fy λv a=>v=.int .i64 (2*G.days-1)/\a=w):=Ns gp G.days w h.c4 (by have:=h.tY.days;omega)
end
def b8(c:BinOp)(a b:Int):Int:=match c with
 | .and=>IntKind.u8.wrap (BitVec.ofInt 8 a&&&BitVec.ofInt 8 b).toNat
 | .or=>IntKind.u8.wrap (BitVec.ofInt 8 a|||BitVec.ofInt 8 b).toNat
 |_=>IntKind.u8.wrap (BitVec.ofInt 8 a&&& ~~~BitVec.ofInt 8 b).toNat
section
variable{w:cd}{k:ce->cd->Prop}{t:cg}{x y:dj}
def Tc(r:Int)(a:b8 .and I J=r)(h:k (.int .u8 r) w):iO V.prog (do eqGuard .and t x y (.int .u8 I) (.int .u8 J);binOp .and t (.int .u8 I) (.int .u8 J)) w k:=⟨_,w,rfl,by subst a;exact h⟩
def Qk(r:Int)(a:b8 .andNot I J=r)(h:k (.int .u8 r) w):iO V.prog (do eqGuard .andNot t x y (.int .u8 I) (.int .u8 J);binOp .andNot t (.int .u8 I) (.int .u8 J)) w k:=⟨_,w,rfl,by subst a;exact h⟩
def Td(a:m<=8)(h:k (.int .u8 (I.fdiv (2^m))) w):iO V.prog (do eqGuard .shr t x y (.int .u8 I) (.int .i64 m);binOp .shr t (.int .u8 I) (.int .i64 m)) w k:=by
 refine⟨_,w,?_,h⟩;show Sem.run V.prog (Op.shift .shr .u8 I .i64 m) w=_;unfold Op.shift;rw[cr (by omega)];have:min (m:Int).toNat IntKind.u8.bits=m:=by simp[IntKind.bits];omega
 rw[this];rfl
def Te(a:m<=8)(h:k (.int .u8 (IntKind.u8.wrap (I*2^m))) w):iO V.prog (do eqGuard .shl t x y (.int .u8 I) (.int .i64 m);binOp .shl t (.int .u8 I) (.int .i64 m)) w k:=by
 refine⟨_,w,?_,h⟩;show Sem.run V.prog (Op.shift .shl .u8 I .i64 m) w=_;unfold Op.shift;rw[cr (by omega)];have:min (m:Int).toNat IntKind.u8.bits=m:=by simp[IntKind.bits];omega
 rw[this];rfl
end
def Ny:∀s:Nat,s<32->∀d:Nat,d<5->b8 .and ((s:Int).fdiv (2^d)) 1=if s.testBit d then 1 else 0:=by decide+kernel
def Ql(s d:Nat)(w:cd)(a:s<32)(b:d<5):Calls V.prog 198 #[.int .u8 s,.int .i64 d] w (fy λv c=>v=.bool (s.testBit d)/\c=w):=by refine go V.func198 Tryz.ntmps198 ?_;refine Td (by omega) (Tc _ (Ny s a d b) (eh ⟨_,rfl,?_,rfl⟩));cases s.testBit d<;>rfl
def yg(s d:Nat)(w:cd)(a:s<32)(b:d<5):Calls V.prog 164 #[.int .u8 s,.int .i64 d] w (fy λv c=>v=.int .u8 (nZ s d)/\c=w):=HE (EQ s d w a b)
def Nz(x:Int)(l:List Int):Bool:=decide (0<=A6 x l 0)
def C6(l:List Int)(x:Int)(b:Option Addr)(c:Nat)(w:cd)(d:ja w b l)(a:l.length<=100000):Calls V.prog 135 #[.slice b l.length c,.int .i64 x] w (fy λv e=>v=.bool (Nz x l)/\e=w):=by refine go V.func135 Tryz.ntmps135 ?_;exact cS (Km l x b c w d a) (n6 ⟨_,rfl,rfl,rfl⟩)
def lF(n:Int):List Int->List Int->Int
 |_,[]=>0
 |a,d::r=>if jX d 0 (n-1)then(if Nz d a then 4 else lF n (a++[d]) r)else 3
def gx(n:Int)(l:List Int):Int:=lF n [] l
def C7(n:Int)(l:List Int)(k:Nat)(a:k<l.length):lF n (l.take k) (l.drop k)=if jX l[k] 0 (n-1)then(if Nz l[k] (l.take k)then 4 else lF n (l.take (k+1)) (l.drop (k+1)))else 3:=by rw[qH a,gP a];rfl
def BL{gp mk ms:Nat}{w:cd}(h:oR gp mk ms H w){l:List Int}{lc:Nat}(p:ja w a l)(q:l.length<=100000)(u:l.length<=lc):
 Calls V.prog 108 #[.pointer (some ⟨gp,0,none⟩),.slice a l.length lc] w (fy λv e=>v=.int .i64 (gx H.doors.length l)/\e=w):=by
 have x:=h.tY.many;obtain⟨y,z,r,s⟩:=h.c6;refine go V.func108 Tryz.ntmps108 ?_;refine cD (ei (n:=l.length) (λk=>[(0,.pointer (some ⟨gp,0,none⟩)),(1,.slice a l.length lc),(7,.slice a l.length lc),(8,.int .i64 l.length),(9,.int .i64 k)]) (λk e=>e=w/\gx H.doors.length l=lF H.doors.length (l.take k) (l.drop k)) ⟨⟨rfl,rfl,rfl,rfl,rfl,trivial⟩,rfl,rfl⟩ ?_ ?_ ?_);rintro k e g ⟨rfl,c⟩;exact cV ⟨rfl,rfl,⟨rfl,rfl,rfl,rfl,rfl,trivial⟩,rfl,c⟩;rintro k e g ⟨rfl,c⟩;obtain⟨b,o,i,f⟩:=p k g;rw[C7 _ l k g]at c;have j:(l.take k).length=k:=by simp;omega
 have d:=C6 (l.take k) l[k] a lc e (p.take k) (by omega);rw[j]at d;subst i;refine dI k g (cu f (cu r (cD (fx (cS (ej _ _ _ _) (eu ⟨λh=>?_,λm=>?_⟩))))));simp at h;exact⟨_,rfl,by rw[c];simp[h],rfl⟩;simp at m;refine n7 k (by omega) (cS d ⟨λh=>?_,λt=>?_⟩);exact⟨_,rfl,by rw[c];simp[h,m],rfl⟩;rw[m,t]at c;exact cq ⟨⟨rfl,rfl,rfl,rfl,rfl,trivial⟩,rfl,by simpa using c⟩;rintro e ⟨rfl,c⟩;exact⟨_,rfl,by rw[c];simp[lF],rfl⟩
end Go.Proofs.W
variable{M Y:List ce}
namespace Go.Proofs.W
open Go.RowKit
def mu(s k:Nat):List Nat:=(List.range k).filter (s.testBit ·)
def dK(s:Nat):List Nat:=mu s 5
def fi(l:List Nat):List ce:=l.map λn:Nat=>Value.int .i64 n
def dE(a:Nat)(w:cd)(v:ce)(l:List Nat):Prop:=cA a 3 [.int .i64 0] w v l.length (fi l)
def dE.row(h:dE m w x l):∃a c,x=.slice a l.length c/\eO w a l/\l.length<=c:=by obtain⟨j,⟨e,rfl⟩|⟨b,c,n,o,rfl,f,p,g,q,i,r⟩⟩:=h;exact⟨none,0,by rw[e],λk d=>by omega,by omega⟩;refine⟨_,c,rfl,λk d=>⟨b,0,rfl,?_⟩,g⟩;refine ci f ?_;rw[cB,i k (by simp[fi];omega)];simp[fi,ew d]
def uJ(s k:Nat):mu s (k+1)=if s.testBit k then mu s k++[k]else mu s k:=by unfold mu;rw[kA,List.filter_append];cases h:s.testBit k<;>simp[h]
def j9(s k:Nat):(mu s k).length<=k:=by have:=List.length_filter_le (s.testBit ·) (List.range k);simpa[mu]using this
def Ext.iS(h:Ext w t)(a:cN (cw x) t e)(d:cA m T M t x k Y)(g:w.heap.size<=m):Ext w e:=
 ⟨a.os.trans h.os,a.tape.trans h.tape,a.output.trans h.output,cJ h.size a.size,cJ h.drawn a.drawn,λb c=>(a.block b (dl c h.size) λf=>by have:=(d.blk f).1;omega).trans (h.block b c)⟩
def uK(s:Nat)(w:cd)(i:s<32):Calls V.prog 173 #[.int .u8 s] w (fy λv a=>Ext w a/\dE w.heap.size a v (dK s)):=by refine go V.func173 Tryz.ntmps173 ?_;refine gC (n:=5) (λk v=>[(0,.int .u8 s),(3,v),(5,.int .i64 k)]) (λk v a=>Ext w a/\dE w.heap.size a v (mu s k)) (.slice none 0 0) ⟨⟨rfl,rfl,rfl,trivial⟩,Ext.refl _,cA.nil _ _ _ _⟩ ?_ ?_ ?_;rintro k v a f ⟨e,b⟩;exact cV ⟨rfl,rfl,⟨rfl,rfl,rfl,trivial⟩,e,b⟩;rintro k v a f ⟨e,b⟩;have g:=j9 s k;refine cS (Ql s k a i f) ⟨λh=>?_,λh=>?_⟩;refine dJ [Value.int .i64 k] 3 λp q c j l=>fP oG (b.ext c) (cJ e.size c.size) l (by omega) λm r d o _=>cq ⟨m,⟨rfl,rfl,rfl,trivial⟩,(e.trans c).iS o (b.ext c) (cz _),?_⟩;rw[uJ,cx h];simpa[dE,fi]using d;refine cq ⟨v,⟨rfl,rfl,rfl,trivial⟩,e,?_⟩;rw[uJ,cr (by rw[h];simp)];exact b;rintro v a ⟨e,b⟩;exact⟨_,rfl,e,b⟩
def setFrom(s:Nat)(l:List Nat):Nat:=l.foldl nZ s
def dB(l:List Nat):Nat:=setFrom 0 l
theorem pP:∀(l:List Nat) (s:Nat),s<32->(∀d∈l,d<5)->setFrom s l<32
 |[],s,a,_=>a
 |d::r,s,a,h=>pP r (nZ s d) (Hj s a d (h d eR)) λx b=>h x (eI _ b)
def pj(l:List Nat)(e:Option Addr)(g:Nat)(w:cd)(j:eO w e l)(h:∀d∈l,d<5)(i:l.length<=100000):Calls V.prog 122 #[.slice e l.length g] w (fy λv a=>v=.int .u8 (dB l)/\a=w):=by refine go V.func122 Tryz.ntmps122 ?_;refine cD (ei (n:=l.length) (λk=>[(3,.int .u8 (dB (l.take k))),(6,.slice e l.length g),(7,.int .i64 l.length),(8,.int .i64 k)]) (λ_ a=>a=w) ⟨⟨rfl,rfl,rfl,rfl,trivial⟩,rfl⟩ ?_ ?_ ?_);rintro k a c rfl;exact cV ⟨rfl,rfl,⟨rfl,rfl,rfl,rfl,trivial⟩,rfl⟩;rintro k a c rfl;obtain⟨b,o,rfl,m⟩:=j k c;have f:=h _ (dt c);have p:dB (l.take k)<32:=pP _ 0 (by omega) λd f=>h d (List.mem_of_mem_take f);refine dI k c (cu m (cS (yg _ _ _ p f) (cq ⟨⟨?_,rfl,rfl,rfl,trivial⟩,rfl⟩)));show some _=some _;rw[gP c];simp only[dB,setFrom,uf,mP,List.foldl_nil];rintro a rfl;exact⟨_,rfl,by simp,rfl⟩
structure Sx where
 tries:Int
 mornings:Int
 evenings:Int
 opened:Bool
 d0:Bool
 d1:Bool
 d2:Bool
 left:Bool
def kY(x:Sx):List ce:=[.int .i64 x.tries,.int .i64 x.mornings,.int .i64 x.evenings,.bool x.opened,.bool x.d0,.bool x.d1,.bool x.d2,.bool x.left]
def gA(T:Int)(x:Sx):Bool:=(x.left||x.opened)||(decide (T<=x.tries)&&(decide (T<2)||(decide (0<x.mornings)&&decide (0<x.evenings))))
def uL{gp mk ms:Nat}(h:oR gp mk ms H w)(x:Sx):Calls V.prog 134 #[.pointer (some ⟨gp,0,none⟩),.agg (kY x).toArray] w (fy λv k=>v=.bool (gA H.tries x)/\Ext w k):=by refine go V.func134 Tryz.ntmps134 ?_;refine fo λo p c l d=>?_;obtain⟨i,m,n,j⟩:=(h.ext c).fn;refine cQ cO (cG (ci d rfl) ⟨λf=>?_,λf=>?_⟩);exact iR rfl λa e=>⟨_,rfl,by simp[gA,f],c.trans e⟩;refine cG (ci d rfl) ⟨λg=>?_,λg=>?_⟩;exactλa e=>⟨_,rfl,by simp[gA,f,g],c.trans e⟩;refine cG m (cG (ci d rfl) (ia cO _ (λa e=>HF i _ _ a (e.cell j)) ⟨λb=>?_,λb=>?_⟩));refine cG n (cG (ci d rfl) (cG (ci d rfl) (ia cO _ (λa e=>HG i _ _ _ a (e.cell j)) λa e=>⟨_,rfl,?_,c.trans e⟩)));have b:H.tries<=x.tries:=cY b;simp[gA,f,g,b];refineλa e=>⟨_,rfl,?_,c.trans e⟩;have b:¬H.tries<=x.tries:=dQ b;simp[gA,f,g,b]
section
variable{w:cd}{k:ce->cd->Prop}{t:cg}{x y:dj}
def rG{n:Nat}(b:0<n)(c:m<=1000000000)(h:k (.int .i64 ((m/n:Nat):Int)) w):iO V.prog (do eqGuard .quo t x y (.int .i64 m) (.int .i64 n);binOp .quo t (.int .i64 m) (.int .i64 n)) w k:=by
 refine⟨_,w,?_,h⟩;show Sem.run V.prog (Op.intDiv .quo .i64 m n) w=_;unfold Op.intDiv;rw[cr (by omega)];have a:(m:Int).tdiv n=((m/n:Nat):Int):=by rw[Int.tdiv_eq_ediv_of_nonneg (by omega)];simp
 have d:m/n<=m:=Nat.div_le_self _ _;rw[a];simp only[Sem.run_pure];generalize m/n=q at*;rw[IntWalk.i64_in _ (by omega)]
def C8{n:Nat}(b:0<n)(h:k (.int .i64 ((m%n:Nat):Int)) w):iO V.prog (do eqGuard .rem t x y (.int .i64 m) (.int .i64 n);binOp .rem t (.int .i64 m) (.int .i64 n)) w k:=by
 refine⟨_,w,?_,h⟩;show Sem.run V.prog (Op.intDiv .rem .i64 m n) w=_;unfold Op.intDiv;rw[cr (by omega)];have a:(m:Int).tmod n=((m%n:Nat):Int):=by rw[Int.tmod_eq_emod_of_nonneg (by omega)];simp
 simp only[a,Sem.run_pure]
def yh{t:cg}(n:Nat)(a:i<n)(h:k (.pointer (some ⟨m,o+i,none⟩)) w)(b:ty t=some ⟨2,n,1,n⟩:=by rfl):iO V.prog (Instr.indexAt t (.pointer (some ⟨m,o,none⟩)) (.int .i64 (i:Nat))) w k:=rC i n a h rfl b
def pQ{t:cg}{b:Array ce}{c:cg}(a:List ce)(d:w.heap[m]? =some (.cells b c))(e:∀j v,a[j]? =some v->b[o+j]? =some v)(f:HB t=some true:=by rfl)(g:RG t=some a.length:=by rfl):Sem.run V.prog (loadVar t ⟨m,o,none⟩) w=.ok (.agg a.toArray) w:=by
 have h:=run_loadCells_list (P:=V.prog) w ⟨m,o,none⟩ a λj v i=>by rw[fL];exact ci d (e j v i)
 simp only[loadVar,Sem.run_bind,zw f,C5 g,Result.andThen_ok,cX,h,Sem.run_pure]
end
def dV(c:Array ce)(a:List ce)(h:c.size=a.length):fT c 0 a=a.toArray:=by
 apply L1;intro j;rw[nB a c 0 j (by omega),cB,Nat.sub_zero];have e:a.toArray[j]? =a[j]? :=by simp
 rw[e];split;rfl;rename_i b;have b:a.length<=j:=Nat.le_of_not_lt λd=>b ⟨fN _,d⟩;rw[IA b];exact mO (by rw[h];exact b)
def tH(x:Sx)(d:Nat):Bool:=if d=0 then x.d0 else if d=1 then x.d1 else x.d2
def iJ(x:Sx)(a:Nat)(b:Bool):Sx:=⟨x.tries+1,if a%2=0 then x.mornings+1 else x.mornings,if a%2=0 then x.evenings else x.evenings+1,x.opened||b,if a/2=0 then true else x.d0,if a/2=1 then true else x.d1,if a/2=2 then true else x.d2,x.left⟩
set_option maxHeartbeats 2000000 in
theorem BM(x:Sx)(shift:Nat)(op:Bool)(w:World)(hs:shift<6)(hb:(0≤x.tries∧x.tries≤1000000)∧(0≤x.mornings∧x.mornings≤1000000)∧0≤x.evenings∧x.evenings≤1000000):
 Calls V.prog 158 #[.agg (kY x).toArray,.int .i64 shift,.bool op] w (fy fun v w'=>v=.agg (kY (iJ x shift op)).toArray∧Ext w w'):=by
 refine go V.func158 Tryz.ntmps158 ?_
 refine fo fun w1 xb e1 VM UA=>eF fun w2 rb e2 Zk VE=>?_
 have xJ:=e2.at_ UA
 have ne:¬(rb=xb):=by have:=cF.lt_of_heap UA;omega
 refine cu (ci xJ rfl) (cq (cZ xJ fun w3 k3 S9=>?_))
 have Ya:=k3.fg VE ne
 refine C8 (m:=shift) (n:=2) (by omega) (eh ?_)
 obtain⟨X,hX⟩:∃X,X=iJ x shift op:=⟨_,rfl⟩
 rw[←hX]
 obtain rfl|rfl|rfl|rfl|rfl|rfl:shift=0∨shift=1∨shift=2∨shift=3∨shift=4∨shift=5:=by omega
 all_goals
  first
  |refine iR rfl (cu (ci S9 rfl) (cq (cZ S9 fun w4 k4 VN=>?_)))
  |refine iG rfl (cu (ci S9 rfl) (cq (cZ S9 fun w4 k4 VN=>?_)))
  have Yb:=k4.fg Ya ne
  have e4:Ext w w4:=((e1.trans e2).cy k3 VM).cy k4 VM
  refine cu (ci VN rfl) ⟨fun ho=>?_,fun ho=>?_⟩
  all_goals
   refine cZ VN fun w5 k5 Yc=>?_
   have Yd:=k5.fg Yb ne
   have e5:=e4.cy k5 VM
   refine rG (n:=2) (by omega) (by omega) (yh 3 (by decide) (cZ Yc fun w6 k6 Ye=>?_))
   have Yf:=k6.fg Yd ne
   have e6:=e5.cy k6 VM
   have Zl:w6.heap[xb]? =some (.cells (kY X).toArray 166):=Ye.trans (by rw[hX];simp[fT,kY,iJ,ho,Value.cells])
   refine dP (vs:=kY X) (fun j v hj=>by rw[Nat.zero_add];exact ci Zl (by simpa using hj)) (cZ Yf fun w7 k7 Yg=>?_)
   have Zm:w7.heap[rb]? =some (.cells (kY X).toArray 166):=Yg.trans (congrArg (fun a=>some (Obj.cells a 166)) (dV (sH 166).toArray (kY X) rfl))
   have hl:Sem.run V.prog (loadVar 166 ⟨rb,0,none⟩) w7=.ok (.agg (kY X).toArray) w7:=pQ (kY X) Zm fun j v hj=>by rw[Nat.zero_add];simpa using hj
   have e7:Ext w w7:=e6.cy k7 (Nat.le_trans e1.size Zk)
   clear UA xJ S9 VN Yc Ye VE Ya Yb Yd Yf Yg
   refine⟨.agg (kY X).toArray,hl,?_⟩
   exact⟨_,rfl,rfl,e7⟩
def tI(w:cd)(a:Option Addr)(xs:List Sx):Prop:=∀k (h:k<xs.length),∃b o,a=some ⟨b,o,none⟩/\∀j v,(kY xs[k])[j]? =some v->w.cell? ⟨b,o+k*8+j,none⟩=some v
def tI.ext{w c:cd}{xs:List Sx}(h:tI w a xs)(e:Ext w c):tI c a xs:=λk d=>by obtain⟨b,o,f,g⟩:=h k d;exact⟨b,o,f,λj v i=>e.cell (g j v i)⟩
structure kU(wp gp mk ms:Nat)(G:Gd)(xs:List Sx)(before:Int)(w:cd):Prop where
 g:oR gp mk ms G w
 len:xs.length=G.doors.length
 bf:0<=before/\before<=5
 at_:∃sa sc,w.cell? ⟨wp,0,none⟩=some (.pointer (some ⟨gp,0,none⟩))/\w.cell? ⟨wp,1,none⟩=some (.slice sa xs.length sc)/\w.cell? ⟨wp,2,none⟩=some (.int .i64 before)/\tI w sa xs
section
variable{wp gp mk ms:Nat}{G:Gd}{xs:List Sx}{before:Int}{w:cd}
theorem kU.ext{a:cd}(h:kU wp gp mk ms G xs before w)(e:Ext w a):kU wp gp mk ms G xs before a:=by obtain⟨b,c,d,f,i,j⟩:=h.at_;exact⟨h.g.ext e,h.len,h.bf,b,c,e.cell d,e.cell f,e.cell i,j.ext e⟩
def rH(G:Gd)(before a:Int):Int:=if jX a 0 (2*G.days-1)then(if a<before then 5 else 0)else 3
def Qm(h:kU wp gp mk ms G xs before w)(a:Int):Calls V.prog 153 #[.pointer (some ⟨wp,0,none⟩),.int .i64 a] w (fy λv d=>v=.int .i64 (rH G before a)/\d=w):=by obtain⟨i,j,e,k,f,l⟩:=h.at_;refine go V.func153 Tryz.ntmps153 ?_;refine cu e (cS (last_at h.g) (cS (ej _ _ _ _) (eu ⟨λb=>?_,λb=>?_⟩)));exact⟨_,rfl,by simp at b;simp[rH,b],rfl⟩;simp at b;refine cu f (cV ⟨λc=>?_,λc=>?_⟩);exact⟨_,rfl,by simp[rH,b,cY c],rfl⟩;exact⟨_,rfl,by simp[rH,b,dQ c],rfl⟩
def pR(T:Int)(xs:List Sx)(k:Nat):List Nat:=(List.range k).filter λd=>match xs[d]? with
 |some x=>!gA T x
 |none=>false
def cW(T:Int)(xs:List Sx):List Nat:=pR T xs xs.length
def xf(T:Int)(xs:List Sx)(k:Nat)(a:k<xs.length):pR T xs (k+1)=if gA T xs[k]then pR T xs k else pR T xs k++[k]:=by unfold pR;rw[kA,List.filter_append];cases h:gA T xs[k]<;>simp[h,ew a]
def zD(T:Int)(xs:List Sx)(k:Nat):(pR T xs k).length<=k:=by
 have:=List.length_filter_le (λd=>match xs[d]? with
  |some x=>!gA T x
  |none=>false) (List.range k)
 simpa[pR]using this
def yi(h:kU wp gp mk ms G xs before w):Calls V.prog 119 #[.pointer (some ⟨wp,0,none⟩)] w (fy λv c=>Ext w c/\dE w.heap.size c v (cW G.tries xs)):=by
 obtain⟨C,D,E,F,S,H⟩:=h.at_;have T:=h.g.tY.many;have U:=h.len;refine go V.func119 Tryz.ntmps119 ?_;refine cu F (cD (gC (n:=xs.length) (λk v=>[(0,.pointer (some ⟨wp,0,none⟩)),(3,v),(9,.slice C xs.length D),(10,.int .i64 xs.length),(11,.int .i64 k)]) (λk v c=>Ext w c/\dE w.heap.size c v (pR G.tries xs k)) (.slice none 0 0) ⟨⟨rfl,rfl,rfl,rfl,rfl,trivial⟩,Ext.refl _,cA.nil _ _ _ _⟩ ?_ ?_ ?_));rintro k v c m ⟨e,f⟩;exact cV ⟨rfl,rfl,⟨rfl,rfl,rfl,rfl,rfl,trivial⟩,e,f⟩;rintro k v c m ⟨e,f⟩;obtain⟨b,o,rfl,I⟩:=(H.ext e) k m;have x:=zD G.tries xs k;refine fF k 8 m (dP (vs:=kY xs[k]) I (eF λW J K r L=>cZ L λy M p=>?_));have i:Ext c y:=K.cy M r;have s:y.heap[J]? =some (.cells (kY xs[k]).toArray 166):=p.trans (cM (λa=>some (Obj.cells a 166)) (dV (sH 166).toArray (kY xs[k]) rfl));have N:=(h.g.ext e).ext i;clear p;refine cQ cO (cG (i.cell (e.cell E)) (dx (.agg (kY xs[k]).toArray) (λz d=>dP (vs:=kY xs[k]) (λj v O=>by rw[cB];exact ci (d.at_ s) (by simpa using O)) ⟨rfl,Ext.refl _⟩) (je (.bool (gA G.tries xs[k])) (λz d=>uL (N.ext d) xs[k]) (rE λz d=>⟨λl=>?_,λl=>?_⟩))));have l:gA G.tries xs[k]=false:=by simpa using l
 have A:=(e.trans i).trans d;refine dJ [Value.int .i64 k] 3 λX P q B t=>fP oG (((f.ext i).ext d).ext q) (cJ A.size q.size) t (by omega) λQ Y u R _=>cq ⟨Q,⟨rfl,rfl,rfl,rfl,rfl,trivial⟩,(A.trans q).iS R (((f.ext i).ext d).ext q) (cz _),?_⟩;rw[xf _ _ _ m,l];simpa[dE,fi]using u;have l:gA G.tries xs[k]=true:=by simpa using l
 refine cq ⟨v,⟨rfl,rfl,rfl,rfl,rfl,trivial⟩,(e.trans i).trans d,?_⟩;rw[xf _ _ _ m,l];exact(f.ext i).ext d;rintro v c ⟨e,f⟩;exact⟨_,rfl,e,f⟩
end
def pS(s:Nat):List ce:=[.bool (s.testBit 0),.bool (s.testBit 1),.bool (s.testBit 2),.bool (s.testBit 3),.bool (s.testBit 4)]
def C9(l:List Nat)(d:Nat):Bool:=l.contains d
def NA(l:List Nat):List ce:=[.bool (C9 l 0),.bool (C9 l 1),.bool (C9 l 2),.bool (C9 l 3),.bool (C9 l 4)]
def Kr:∀s:Nat,s<32->∀d:Nat,d<5->C9 (dK s) d=s.testBit d:=by decide+kernel
def NB(s:Nat)(d:Nat)(h:d∈dK s):d<5:=by have:=(ug.1 h).1;simpa using this
def Ks(s:Nat)(w:cd)(L:s<32):Calls V.prog 174 #[.int .u8 s] w (fy λv e=>v=.agg (pS s).toArray/\Ext w e):=by
 refine go V.func174 Tryz.ntmps174 ?_;refine eF λw1 y M A N=>eF λO g P S i=>?_;refine ck (uK s O L) λv T z=>?_;obtain⟨B,z⟩:=z;obtain⟨a,c,rfl,m,_⟩:=z.row;have C:=B.at_ (P.at_ N);have U:¬(y=g):=by have:=cF.lt_of_heap N;omega
 have Q:(dK s).length<=5:=j9 s 5;have D:∀b o,a=some ⟨b,o,none⟩->O.heap.size<=b:=λb o h=>by obtain⟨_,⟨_,f⟩|⟨b',c',cs,h1,f,_⟩⟩:=z;injection f with f;rw[f]at h;cases h;injection f with f;rw[f]at h;have:=cM Addr.block (cE h);simp at this;omega
 have W:=cF.lt_of_heap i;refine cD (ei (n:=(dK s).length) (λk=>[(2,.pointer (some ⟨y,0,none⟩)),(3,.pointer (some ⟨g,0,none⟩)),(7,.slice a (dK s).length c),(8,.int .i64 (dK s).length),(9,.int .i64 k)]) (λk e=>cN (λx=>x=g) T e/\e.heap[g]? =some (.cells (NA ((dK s).take k)).toArray 217)) ⟨⟨rfl,rfl,rfl,rfl,rfl,trivial⟩,cN.refl _ _,B.at_ i⟩ ?_ ?_ ?_);rintro k e p X;exact cV ⟨rfl,rfl,⟨rfl,rfl,rfl,rfl,rfl,trivial⟩,X⟩
 ·rintro k e p ⟨q,r⟩;obtain⟨b,o,rfl,Y⟩:=m k p;have R:(dK s)[k]<5:=NB s _ (dt p);have E:¬(b=g):=by have:=D b o rfl;omega
  refine dI k p (cu (q.ef Y E) (rC (dK s)[k] 5 R (iA r (by simp[Value.cells,NA];omega) (λt F G=>cq ⟨⟨rfl,rfl,rfl,rfl,rfl,trivial⟩,q.trans F (λ_ _ h=>h) λ_ _ h=>h,?_⟩) (by simp[Value.cells,Value.oneCell']))));refine G.trans (cM (λa=>some (Obj.cells a 217)) ?_);rw[gP p];generalize (dK s)[k]=d at R;generalize (dK s).take k=l;have Z:∀j,C9 (l++[d]) j=(C9 l j||decide (j=d)):=λj=>by simp[C9,List.contains_eq_mem,gl,Bool.decide_or]
  obtain rfl|rfl|rfl|rfl|rfl:d=0\/d=1\/d=2\/d=3\/d=4:=by omega
  all_goals simp[NA,Z,fT,Value.cells]
 rintro e ⟨q,r⟩;have H:=q.fg C U;rw[kX]at r;have I:NA (dK s)=pS s:=by simp[NA,pS,Kr s L]
 rw[I]at r;refine dP (vs:=pS s) (λj v J=>by rw[cB];exact ci r (by simpa using J)) (cZ H λt F u=>?_);have K:t.heap[y]? =some (.cells (pS s).toArray 217):=u.trans (cM (λa=>some (Obj.cells a 217)) (dV (sH 217).toArray (pS s) rfl));have hl:Sem.run V.prog (loadVar 217 ⟨y,0,none⟩) t=.ok (.agg (pS s).toArray) t:=pQ (pS s) K λj v J=>by rw[cB];simpa using J
 have e5:Ext w t:=(((M.trans P).trans B).cy q (by have:=M.size;omega)).cy F A;clear u;refine⟨.agg (pS s).toArray,hl,?_⟩;exact⟨_,rfl,rfl,e5⟩
section
variable{w:cd}{k:ce->cd->Prop}
def jA(w:cd)(a:Option Addr)(c:List ce):Prop:=c=[]\/∃b o,a=some ⟨b,o,none⟩/\∀j u,c[j]? =some u->w.cell? ⟨b,o+j,none⟩=some u
def jA.ext{w c:cd}{d:List ce}(h:jA w a d)(e:Ext w c):jA c a d:=by rcases h with h|⟨b,o,f,g⟩;exact .inl h;exact .inr ⟨b,o,f,λj u i=>e.cell (g j u i)⟩
def uM{b:List ce}(c:FD T U b){x y:dj}(h:k (.bool a.isNone) w):iO V.prog (do eqGuard .eql T x y (.slice a m i) (.slice none 0 0);binOp .eql T (.slice a m i) (.slice none 0 0)) w k:=by have d:=Go.Lib.run_eql_slice_nil (P:=V.prog) w T U a m i 0 0 c.1;refine⟨_,w,?_,h⟩;go_simp
def Kt{zs:List ce}{w:cd}(b:m<=i)(c:w.heap[i]? =some (.cells #[] T)):cA m T zs w (.slice (some ⟨i,0,none⟩) 0 0) 0 []:=
 ⟨by simp,.inr ⟨i,0,_,b,rfl,c,by simp,cz _,by decide,λj a=>by simp at a,λj _ a=>by simp at a⟩⟩
def uN{e:cg}{zs:List ce}{y:Array Bool}(l:FD T e zs){n0 p:Nat}{w:cd}{d:List ce}(v:w.heap[p]? =some (.cells #[] e))(A:n0<=p)(q:d.length=m*zs.length)(r:jA w a d)(B:∀u∈d,u.oneCell'=true)(x:m<=1000000) (s:∀n f,cA n0 e zs f n m d->(∀W,Ext W w->W.heap.size<=n0->Ext W f)->k n f):wY V.prog (builtin .append #[T,T] U y #[.slice (some ⟨p,0,none⟩) 0 0,.slice a m i]) w k:=by
 have c:=Kt (zs:=zs) A v;have g:0<zs.length:=by obtain⟨_,H,z,_,_,_,_,_,h⟩:=l;exact h
 have C:=cF.lt_of_heap v;rcases r with rfl|⟨b,o,rfl,r⟩;obtain rfl:m=0:=by rcases nS m with h|h;exact h;have:=Nat.mul_pos h g;simp at q;omega
 exact uH l (cz _) (s _ _ c λW h _=>h);rcases nS m with rfl|t;obtain rfl:d=[]:=by simpa using q
 exact uH l (cz _) (s _ _ c λW h _=>h);exact zz l c (by omega) q t (λj u D=>by rw[fL];exact r j u D) B (by omega) λn f E F _=>s n f (by simpa using E) λW h G=>h.iS F c G
end
def NC:FD 139 166 (sH 166):=⟨by kernel_rfl,Tryz.t166,_,by kernel_rfl,rfl,by kernel_rfl,by kernel_rfl,by decide+kernel,by decide⟩
def yj(f:cm)(e:cg)(d:List ce):Prop:=∀(a:Option Addr) (l c:Nat) (b:List ce) (w:cd),b.length=l*d.length->(a=none->l=0)->jA w a b->(∀u∈b,u.oneCell'=true)->l<=1000000->Calls V.prog f #[.slice a l c] w (fy λv g=>Ext w g/\cA w.heap.size e d g v l b)
def FH:yj 128 3 [.int .i64 0]:=by
 intro a l c g w e i j k b;refine go V.func128 Tryz.ntmps128 ?_;refine uM oG ⟨λh=>?_,λh=>dJ [] 3 λp q f d m=>uN oG m d e (j.ext f) k b λr s n o=>⟨_,rfl,o w f (cz _),n⟩⟩;obtain rfl:=i (by simpa using h);obtain rfl:g=[]:=by simpa using e
 exact⟨_,rfl,Ext.refl _,cA.nil _ _ _ _⟩
def Tf:FD 26 29 [.int .i64 0,.slice none 0 0]:=⟨by kernel_rfl,Tryz.t29,_,by kernel_rfl,rfl,by kernel_rfl,by kernel_rfl,by decide+kernel,by decide⟩
def ND:FD 222 154 [.int .u8 0]:=⟨by kernel_rfl,Tryz.t154,_,by kernel_rfl,rfl,by kernel_rfl,by kernel_rfl,by decide+kernel,by decide⟩
def NE:yj 154 166 (sH 166):=by
 intro a l c g w e i j k b;refine go V.func154 Tryz.ntmps154 ?_;refine uM NC ⟨λh=>?_,λh=>dJ [] 166 λp q f d m=>uN NC m d e (j.ext f) k b λr s n o=>⟨_,rfl,o w f (cz _),n⟩⟩;obtain rfl:=i (by simpa using h);obtain rfl:g=[]:=by simpa using e
 exact⟨_,rfl,Ext.refl _,cA.nil _ _ _ _⟩
def NF:yj 155 29 [.int .i64 0,.slice none 0 0]:=by
 intro a l c g w e i j k b;refine go V.func155 Tryz.ntmps155 ?_;refine uM Tf ⟨λh=>?_,λh=>dJ [] 29 λp q f d m=>uN Tf m d e (j.ext f) k b λr s n o=>⟨_,rfl,o w f (cz _),n⟩⟩;obtain rfl:=i (by simpa using h);obtain rfl:g=[]:=by simpa using e
 exact⟨_,rfl,Ext.refl _,cA.nil _ _ _ _⟩
def NG:yj 199 154 [.int .u8 0]:=by
 intro a l c g w e i j k b;refine go V.func199 Tryz.ntmps199 ?_;refine uM ND ⟨λh=>?_,λh=>dJ [] 154 λp q f d m=>uN ND m d e (j.ext f) k b λr s n o=>⟨_,rfl,o w f (cz _),n⟩⟩;obtain rfl:=i (by simpa using h);obtain rfl:g=[]:=by simpa using e
 exact⟨_,rfl,Ext.refl _,cA.nil _ _ _ _⟩
def eO.cells{w:cd}{a:Option Addr}{l:List Nat}(h:eO w a l):jA w a (fi l):=by
 rcases l with _|⟨x,r⟩;exact .inl rfl;obtain⟨b,o,rfl,_⟩:=h 0 (by simp);refine .inr ⟨b,o,rfl,λj u d=>?_⟩;have c:j<(x::r).length:=by simpa[fi]using(gy.1 d).1
 obtain⟨f,g,e,i⟩:=h j c;obtain⟨rfl,rfl⟩:b=f/\o=g:=by injection e with e;injection e with k m;exact⟨k,m⟩
 rw[i];have:(fi (x::r))[j]? =some (.int .i64 ((x::r)[j]:Nat)):=by simp only[fi,mR,ew c];rfl
 rw[this]at d;exact d
def eO.rI(h:eO w none l):l.length=0:=by rcases l with _|⟨x,r⟩;rfl;obtain⟨b,o,e,_⟩:=h 0 (by simp);cases e
def uO(l:List Nat):∀u∈fi l,u.oneCell'=true:=λu a=>by obtain⟨n,_,rfl⟩:=jj.1 a;rfl
def lx(h:eO w a l)(b:l.length<=1000000):Calls V.prog 128 #[.slice a l.length m] w (fy λv c=>Ext w c/\dE w.heap.size c v l):=
 FH a l.length m (fi l) w (by simp[fi]) (λe=>by subst e;exact h.rI) h.cells (uO l) b
def tJ(w:cd)(a:Option Addr)(c:List (List Nat)):Prop:=∀k (h:k<c.length),∃b o d e,a=some ⟨b,o,none⟩/\w.cell? ⟨b,o+k,none⟩=some (.slice d c[k].length e)/\eO w d c[k]/\c[k].length<=e
theorem tJ.ext{c:List (List Nat)}(h:tJ w a c)(e:Ext w t):tJ t a c:=λk d=>by obtain⟨b,o,f,g,i,j,l,m⟩:=h k d;exact⟨b,o,f,g,i,e.cell j,l.ext e,m⟩
def eW(c:Nat)(w:cd)(v:ce)(a:List (List Nat)):Prop:=∃b:List ce,cA c 27 [.slice none 0 0] w v a.length b/\b.length=a.length/\∀k (h:k<a.length),∃u,b[k]? =some u/\dE c w u a[k]
theorem eW.ext{a:List (List Nat)}(h:eW m w x a)(e:Ext w t):eW m t x a:=by obtain⟨b,c,d,f⟩:=h;refine⟨b,c.ext e,d,λk g=>?_⟩;obtain⟨u,i,j⟩:=f k g;exact⟨u,i,j.ext e⟩
theorem eW.row{d:List (List Nat)}(h:eW m w x d):∃a c,x=.slice a d.length c/\tJ w a d/\d.length<=c:=by obtain⟨t,⟨v,⟨g,rfl⟩|⟨b,c,y,z,rfl,i,A,j,B,l,C⟩⟩,D,e⟩:=h;exact⟨none,0,by rw[g],λk f=>by omega,by omega⟩;refine⟨_,c,rfl,λk f=>?_,j⟩;obtain⟨u,n,o⟩:=e k f;obtain⟨p,q,rfl,r,s⟩:=o.row;exact⟨b,0,p,q,rfl,ci i (by rw[cB,l k (by omega)];exact n),r,s⟩
def gd{g d:List ce}(h:cA m i M w x o g)(l:cA k j Y w y p d)(n:i≠j)(b:Nat)(q:cw x b):¬cw y b:=λf=>by obtain⟨_,_,rfl⟩:=q;obtain⟨_,_,rfl⟩:=f;obtain⟨_,⟨_,e⟩|⟨t,_,u,_,e,r,_⟩⟩:=h;cases e;obtain⟨_,⟨_,c⟩|⟨v,_,s,_,c,a,_⟩⟩:=l;cases c;injection e with e;injection c with c;have e:=cM Addr.block (cE e);have c:=cM Addr.block (cE c);simp only at e c;subst e;subst c;rw[r]at a;injection a with a;injection a with _ a;exact n a
def Qn{r:ce->cd->Prop}{u:Array Bool}{b:List (List Nat)}(h:eW m w x b)(n:m<=w.heap.size)(o:dE m w y l)(v:w.heap[k]? =some (.cells [y].toArray 27))(c:b.length+1<=1000000) (z:∀g d,eW m d g (b++[l])->(∀W,Ext W w->W.heap.size<=m->Ext W d)->r g d):wY V.prog (builtin .append #[66,66] T u #[x,.slice (some ⟨k,0,none⟩) 1 i]) w r:=by
 obtain⟨A,j,s,B⟩:=h;have e:y.oneCell'=true:=by obtain⟨a,i,rfl,_⟩:=o.row;rfl
 refine fP Nt j n v c (λg d C p J=>z g d ⟨A++[y],by simpa using C,by simp[s],λq D=>?_⟩ λW E F=>E.iS p j F) rfl (by simp[qC,e]);rcases eA q b.length with f|G;obtain⟨H,I,t⟩:=B q f;refine⟨H,by rw[kz (by omega)];exact I,?_⟩;rw[lI f];exact t.keep p (gd t j (by decide));obtain rfl:q=b.length:=by simp at D;omega
 refine⟨y,by rw[mQ (by omega)];simp[s],?_⟩;simp only[qI (cz _),lf,mS];exact o.keep p (gd o j (by decide))
def dE.low(h:dE m w x l)(f:k<=m):dE k w x l:=by obtain⟨a,h|⟨b,c,d,g,e⟩⟩:=h;exact⟨a,.inl h⟩;exact⟨a,.inr ⟨b,c,d,by omega,e⟩⟩
def HJ(a:List (List Nat))(i:Option Addr)(m:Nat)(w:cd)(q:tJ w i a)(p:a.length<=100000)(r:∀l∈a,l.length<=100000):Calls V.prog 131 #[.slice i a.length m] w (fy λv c=>Ext w c/\eW w.heap.size c v a):=by refine go V.func131 Tryz.ntmps131 ?_;refine cD (gC (n:=a.length) (λk v=>[(3,v),(6,.slice i a.length m),(7,.int .i64 a.length),(8,.int .i64 k)]) (λk v c=>Ext w c/\eW w.heap.size c v (a.take k)) (.slice none 0 0) ⟨⟨rfl,rfl,rfl,rfl,trivial⟩,Ext.refl _,[],cA.nil _ _ _ _,rfl,λk d=>by simp at d⟩ ?_ ?_ ?_);rintro k v c d ⟨e,f⟩;exact cV ⟨rfl,rfl,⟨rfl,rfl,rfl,rfl,trivial⟩,e,f⟩;rintro k v c d ⟨e,f⟩;obtain⟨b,o,C,D,rfl,s,t,_⟩:=(q.ext e) k d;refine dI k d (cu s (ck (lx t (by have:=r _ (dt d);omega)) λu E g=>?_));obtain⟨j,g⟩:=g;refine dJ [u] 27 (λF G h x y=>Qn ((f.ext j).ext h) (by have:=e.size;have:=j.size;have:=h.size;omega) ((g.low e.size).ext h) y (by simp;omega) λz H A B=>cq ⟨z,⟨rfl,rfl,rfl,rfl,trivial⟩,B w ((e.trans j).trans h) (cz _),?_⟩) ?_;rw[gP d];exact A;obtain⟨I,J,rfl,_⟩:=g.row;intro w;kernel_rfl;rintro v c ⟨e,f⟩;rw[kX]at f;exact⟨_,rfl,e,f⟩
def dZ{p:Type}(n:Nat){d:Code}{l:L}{Q:QW}(i:Nat->p->L)(J:Nat->p->cd->Prop)(q:p)(u:Sub (i 0 q) l/\J 0 q w)
 (f:∀b s w,b<=n->J b s w->WC V.prog Hy m d (λe v x=>match e with
  | .normal=>b<n/\∃o,Sub (i (b+1) o) v/\J (b+1) o x
  |e=>kJ k Q e v x) (i b s) w):kq V.prog m (Code.block k (Code.loop d)) l w Q:=by
 refine⟨λa r=>?_⟩;refine wp_block ?_;refine pJ (λj a w=>∃b s,b<=n/\j=n-b/\Fr m (i b s) a/\J b s w) n ⟨0,q,fN _,by omega,r.sub u.1,u.2⟩ ?_;rintro j a w ⟨b,s,y,rfl,r,z⟩;refine lV (hZ jG _ _ _ a w r (f b s w y z)) ?_;rintro e E F ⟨t,c,h⟩;cases e with
 |normal=>
  obtain⟨A,o,B,C⟩:=h;exact⟨n-(b+1),by omega,b+1,o,by omega,rfl,c.sub B,C⟩
 |exit j=>
  simp only[Exit.then,Exit.inBlock];by_cases g:j=k;subst g;rw[cx rfl];simp only[kJ,yA]at h;exact⟨t,c,h⟩;rw[cr g];have:Nat.beq j k=false:=by
   cases D:Nat.beq j k with
   |false=>rfl
   |true=>exact absurd (gE D) g
  simp only[kJ,this]at h;exact⟨t,c,h⟩
 |_=>exact⟨t,c,h⟩
def HK(l a:List Int)(n f:Option Addr)(r i:Nat)(w:cd)(x:ja w n l)(p:ja w f a)(s:l.length<=100000):
 Calls V.prog 58 #[.slice n l.length r,.slice f a.length i] w (fy λv m=>v=.bool (decide (l=a))/\Ext w m):=by
 refine go V.func58 Tryz.ntmps58 ?_;refine cD (cD (eG ⟨λh=>?_,λh=>?_⟩));have h:¬l=a:=λe=>by subst e;simp at h
 exact⟨_,rfl,by simp[h],Ext.refl _⟩;have h:l.length=a.length:=by simp at h;omega
 refine dZ l.length (λk (_:Unit)=>[(0,.slice n l.length r),(1,.slice f a.length i),(5,.int .i64 k)]) (λk _ m=>Ext w m/\l.take k=a.take k) () ⟨⟨rfl,rfl,rfl,trivial⟩,Ext.refl _,by simp⟩ ?_;rintro k _ m C ⟨e,t⟩;refine cD (cV ⟨λc=>?_,λj=>?_⟩);have c:k<l.length:=by simpa using c
 have d:k<a.length:=by omega
 obtain⟨b,o,rfl,y⟩:=x k c;obtain⟨D,E,rfl,q⟩:=p k d;refine cQ cO (me k c (cG (e.cell y) (me k d (cG (e.cell q) (RJ λF u=>⟨λg=>?_,λg=>?_⟩)))));have g:¬l[k]=a[k]:=cY g;have:¬l=a:=λe=>by subst e;exact g rfl
 exact⟨_,rfl,by simp[this],e.trans u⟩;have g:l[k]=a[k]:=by simpa using g
 refine cq ⟨c,(),⟨rfl,rfl,rfl,trivial⟩,e.trans u,?_⟩;rw[gP c,gP d,t,g];have j:¬k<l.length:=by simpa using j
 have z:k=l.length:=by omega
 have:l=a:=by have A:l.take k=l:=qL (by omega);have B:a.take k=a:=qL (by omega);rw[<-A,<-B,t]
 exact⟨_,rfl,by simp[this],e⟩
def Qo:lU l=lU f↔l=f:=by
 constructor;intro h;induction l generalizing f with
 |nil=>cases f with
  |nil=>rfl
  |cons x r=>simp[lU]at h
 |cons x r a=>cases f with
  |nil=>simp[lU]at h
  |cons y s=>
   simp only[lU,jP,qm]at h;rw[a h.2,show x=y by omega]
 rintro rfl;rfl
def nC(l b:List Nat)(e a:Option Addr)(g c:Nat)(w:cd)(h:eO w e l)(f:eO w a b)(d:l.length<=100000):
 Calls V.prog 58 #[.slice e l.length g,.slice a b.length c] w (fy λv i=>v=.bool (decide (l=b))/\Ext w i):=by
 have:=HK (lU l) (lU b) e a g c w h.ints f.ints (by simpa[lU]using d);have j:(lU l).length=l.length:=by simp[lU]
 have k:(lU b).length=b.length:=by simp[lU]
 rw[j,k]at this;simpa only[Qo]using this
def xg(l a:List (List Nat))(q i:Option Addr)(y j:Nat)(w:cd)(C:tJ w q l)(r:tJ w i a)(z:l.length<=100000)(s:∀x∈l,x.length<=100000):
 Calls V.prog 71 #[.slice q l.length y,.slice i a.length j] w (fy λv p=>v=.bool (decide (l=a))/\Ext w p):=by
 refine go V.func71 Tryz.ntmps71 ?_;refine cD (cD (eG ⟨λh=>?_,λh=>?_⟩));have h:¬l=a:=λe=>by subst e;simp at h
 exact⟨_,rfl,by simp[h],Ext.refl _⟩;have h:l.length=a.length:=by simp at h;omega
 refine dZ l.length (λk (_:Unit)=>[(0,.slice q l.length y),(1,.slice i a.length j),(5,.int .i64 k)]) (λk _ p=>Ext w p/\l.take k=a.take k) () ⟨⟨rfl,rfl,rfl,trivial⟩,Ext.refl _,by simp⟩ ?_;rintro k _ p I ⟨e,A⟩;refine cD (cV ⟨λd=>?_,λm=>?_⟩);have d:k<l.length:=by simpa using d
 have f:k<a.length:=by omega
 obtain⟨b,o,x,c,rfl,D,g,_⟩:=(C.ext e) k d;obtain⟨J,K,E,F,rfl,t,u,_⟩:=(r.ext e) k f;refine cQ cO (me k d (cG D (me k f (cG t (je (.bool (decide (l[k]=a[k]))) (λB n=>nC l[k] a[k] x E c F B (g.ext n) (u.ext n) (s _ (dt d))) (rE λB n=>⟨λg=>?_,λg=>?_⟩))))));have g:¬l[k]=a[k]:=by simpa using g
 have:¬l=a:=λe=>by subst e;exact g rfl
 exact⟨_,rfl,by simp[this],e.trans n⟩;have g:l[k]=a[k]:=by simpa using g
 refine cq ⟨d,(),⟨rfl,rfl,rfl,trivial⟩,e.trans n,?_⟩;rw[gP d,gP f,A,g];have m:¬k<l.length:=by simpa using m
 have:l=a:=by have G:l.take k=l:=qL (by omega);have H:a.take k=a:=qL (by omega);rw[<-G,<-H,A]
 exact⟨_,rfl,by simp[this],e⟩
structure xO(w:cd)(gp mk ms:Nat)(G:Gd)(w':cd):Prop where
 g:oR gp mk ms G w'
 lo:w.heap.size<=gp/\w.heap.size<=mk/\w.heap.size<=ms
 km:w'.heap[mk]? =some (.map #[] 0)
 sm:w'.heap[ms]? =some (.map #[] 0)
theorem xO.ext{gp mk ms:Nat}(h:xO w gp mk ms H t)(a:Ext t e):xO w gp mk ms H e:=⟨h.g.ext a,h.lo,a.at_ h.km,a.at_ h.sm⟩
def xO.low{gp mk ms:Nat}(h:xO w gp mk ms H e)(a:Ext t w):xO t gp mk ms H e:=⟨h.g,by have:=a.size;have:=h.lo;omega,h.km,h.sm⟩
def vZ{dc:Nat}(h:gD w a H.doors)(b:H.doors.length<=100000)(i: -1000000<=H.streets/\H.streets<=1000000):
 Calls V.prog 144 #[gV H a dc] w (fy λv d=>Ext w d/\((eg H≠0/\v=.tuple #[.pointer none,.int .i64 (eg H)])\/(eg H=0/\∃c mk f,v=.tuple #[.pointer (some ⟨c,0,none⟩),.int .i64 0]/\xO w c mk f H d))):=by
 refine(Kp H a dc w h b i).mono ?_;rintro e d ⟨v,rfl,j,k⟩;refine⟨v,rfl,j,k.imp id ?_⟩;rintro⟨l,c,mk,f,m,n,o,p,q,r,g⟩;exact⟨l,c,mk,f,m,n,⟨o,p,q⟩,r,g⟩
def di(c:w.heap[k]? =some (.cells (gL H a m).toArray 24)){b:ce->cd->Prop}(h:b (gV H a m) w):iO V.prog (Instr.loadAt 24 (.pointer (some ⟨k,0,none⟩))) w b:=
 dP (vs:=gL H a m) (λj v d=>by rw[cB];exact ci c (by simpa using d)) h
def pT{dc:Nat}(k:gD w a H.doors)(b:H.doors.length<=100000)(m: -1000000<=H.streets/\H.streets<=1000000){l:List Int}{la:Option Addr}{lc:Nat}(n:ja w la l)(o:l.length<=100000)(p:l.length<=lc):
 Calls V.prog 113 #[gV H a dc,.slice la l.length lc] w (fy λv i=>Ext w i/\((eg H≠0/\v=.tuple #[.pointer none,.int .i64 (eg H)])\/(eg H=0/\∃d mk f,v=.tuple #[.pointer (some ⟨d,0,none⟩),.int .i64 (gx H.doors.length l)]/\xO w d mk f H i))):=by
 refine go V.func113 Tryz.ntmps113 ?_;refine fo λs t c q r=>di r (ck (vZ (dc:=dc) (k.ext c) b m) ?_);rintro v u ⟨h,⟨e,rfl⟩|⟨e,d,mk,f,rfl,j⟩⟩;exact eG (iR (by simpa using e) ⟨_,rfl,c.trans h,.inl ⟨e,rfl⟩⟩);exact eG (iG (by simp) (cS (BL j.g (n.ext (c.trans h)) o p) ⟨_,rfl,c.trans h,.inr ⟨e,d,mk,f,rfl,j.low c⟩⟩))
def kg(G:Gd)(l:List Int):Int:=if eg G=0 then gx G.doors.length l else eg G
def fp(a b:Int):List ce:=[.int .i64 a,.int .i64 b]
def n9{l:List Int}(h:gx m l=0):∃a:List Nat,l=lU a/\(∀d∈a,d<m):=by
 have e:∀(l b:List Int),lF m b l=0->∃a:List Nat,l=lU a/\∀d∈a,d<m:=by
  intro l;induction l with
  |nil=>intro _ _;exact⟨[],rfl,λd c=>by cases c⟩
  |cons x r f=>
   intro b h;simp only[lF]at h;split at h;rename_i g;split at h;omega;obtain⟨a,i,j⟩:=f _ h;simp[jX]at g;refine⟨x.toNat::a,?_,λd c=>?_⟩;simp only[lU,jP,qm];exact⟨by omega,i⟩;rcases eQ.1 c with rfl|c;omega;exact j d c;omega
 exact e l [] h
def ja.FI(h:ja w a (lU l)):eO w a l:=λk c=>by obtain⟨b,o,d,e⟩:=h k (by simpa[lU]using c);exact⟨b,o,d,by rw[e];simp[lU]⟩
def tK(G:Gd)(l:List Int):ce:=if kg G l=0 then .tuple #[.agg (fp (dr G (l.map Int.toNat)) (dF G (l.map Int.toNat))).toArray,.int .i64 0]else .tuple #[.agg (fp 0 0).toArray,.int .i64 (kg G l)]
def BN{dc:Nat}(G:gD w a H.doors)(p:H.doors.length<=100000)(I: -1000000<=H.streets/\H.streets<=1000000){l:List Int}{la:Option Addr}{lc:Nat}(C:ja w la l)(x:l.length<=100000)(J:l.length<=lc):
 Calls V.prog 44 #[gV H a dc,.slice la l.length lc] w (fy λv K=>v=tK H l/\Ext w K):=by
 refine go V.func44 Tryz.ntmps44 ?_;refine fo λT U i L M=>eF λN D m O q=>di (m.at_ M) (ck (pT (dc:=dc) (G.ext (i.trans m)) p I (C.ext (i.trans m)) x J) ?_);have r:∀(n:cd),Ext N n->kg H l≠0->∀k:cd->Prop,(∀d,Ext w d->Sem.run V.prog (loadVar 56 ⟨D,0,none⟩) d=.ok (.agg (fp 0 0).toArray) d->k d)->DR V.prog (Instr.storeAt 56 (.pointer (some ⟨D,0,none⟩)) (.agg (fp 0 0).toArray)) n k:=λn e b k P=>
  cZ (e.at_ q) λd Q y=>P d (((i.trans m).trans e).cy Q (by have:=i.size;omega)) (pQ (fp 0 0) y λj v z=>by rw[cB];show(fp 0 0).toArray[j]? =some v;simpa using z)
 rintro v n ⟨e,⟨o,rfl⟩|⟨o,W,mk,X,rfl,E⟩⟩;have b:kg H l=eg H:=by simp[kg,o]
 refine eG (iR (by simpa using o) (dA (.agg (fp 0 0).toArray) (r n e (by rw[b];exact o) _ λd f A=>⟨_,A,_,rfl,?_,f⟩)));rw[tK,b,cr o];rfl;have b:kg H l=gx H.doors.length l:=by simp[kg,o]
 refine eG ⟨λh=>?_,λh=>?_⟩;have h:¬gx H.doors.length l=0:=cY h;refine dA (.agg (fp 0 0).toArray) (r n e (by rw[b];exact h) _ λd f A=>⟨_,A,_,rfl,?_,f⟩);rw[tK,b,cr h];rfl;have h:gx H.doors.length l=0:=by simpa using h
 obtain⟨c,rfl,s⟩:=n9 h;have R:(lU c).length=c.length:=by simp[lU]
 have t:=((C.ext (i.trans m)).ext e).FI;have u:(lU c).map Int.toNat=c:=by simp[lU,yw]
 rw[R]at x⊢;refine dq (zB E.g s x t) λd f=>dq (yf (E.ext f).g s x (t.ext f)) λY F=>?_;refine dA (.agg (fp (dr H c) (dF H c)).toArray) (cZ (F.at_ (f.at_ (e.at_ q))) λZ S B=>⟨_,pQ (fp (dr H c) (dF H c)) B λj v z=>by rw[cB];show(fp (dr H c) (dF H c)).toArray[j]? =some v;simpa using z,_,rfl,?_,?_⟩);rw[tK,b,cx h,u];rfl;exact(((i.trans m).trans e).trans (f.trans F)).cy S (by have:=i.size;omega)
def NH:List Dr:=[⟨0,3,5⟩,⟨0,8,2⟩,⟨1,5,4⟩,⟨1,2,6⟩]
def fj:Gd:=⟨2,4,1,40,3,2,NH⟩
def Ku{a:List Dr}(h:w.heap[m]? =some (.cells (a.flatMap dL).toArray T)):gD w (some ⟨m,0,none⟩) a:=λk b=>by obtain⟨c,d,e⟩:=uI a k b;exact⟨m,0,rfl,ci h (by rw[cB];simpa using c),ci h (by rw[cB];simpa using d),ci h (by rw[cB];simpa using e)⟩
def NI(w:cd):Calls V.prog 95 #[] w (fy λv k=>Ext w k/\∃b,w.heap.size<=b/\v=gV fj (some ⟨b,0,none⟩) 4/\k.heap[b]? =some (.cells (NH.flatMap dL).toArray 81)):=by
 refine go V.func95 Tryz.ntmps95 ?_;refine eF λr d l e m=>dA (.agg (dL ⟨0,3,5⟩).toArray) (dA (.agg (dL ⟨0,8,2⟩).toArray) (dA (.agg (dL ⟨1,5,4⟩).toArray) (dA (.agg (dL ⟨1,2,6⟩).toArray) (dJ (NH.flatMap dL) 81 λs b n t f=>?_))));refine dA (gV fj (some ⟨b,0,none⟩) 4) (cZ (n.at_ m) λg o c=>?_);have h:g.heap[d]? =some (.cells (gL fj (some ⟨b,0,none⟩) 4).toArray 24):=c.trans (cM (λa=>some (Obj.cells a 24)) (dV (sH 24).toArray (gL fj (some ⟨b,0,none⟩) 4) rfl));have p:Sem.run V.prog (loadVar 24 ⟨d,0,none⟩) g=.ok (gV fj (some ⟨b,0,none⟩) 4) g:=pQ (gL fj (some ⟨b,0,none⟩) 4) h λj v q=>by rw[cB];simpa using q
 clear c;have i:¬(b=d):=by have:=cF.lt_of_heap m;omega
 refine⟨gV fj (some ⟨b,0,none⟩) 4,p,?_⟩;exact⟨_,rfl,(l.trans n).cy o e,b,by have:=l.size;omega,rfl,o.fg f i⟩
structure Ty where
 door:Nat
 shift:Nat
 opened:Bool
def tL(t:Ty):List ce:=[.int .i64 t.door,.int .i64 t.shift,.bool t.opened]
def NJ:List Ty:=[⟨0,0,false⟩,⟨1,0,true⟩,⟨2,1,false⟩]
def Kv(w:cd):Calls V.prog 96 #[] w (fy λv c=>Ext w c/\∃b,w.heap.size<=b/\v=.slice (some ⟨b,0,none⟩) 3 3/\c.heap[b]? =some (.cells (NJ.flatMap tL).toArray 84)):=by refine go V.func96 Tryz.ntmps96 ?_;exact dA (.agg (tL ⟨0,0,false⟩).toArray) (dA (.agg (tL ⟨1,0,true⟩).toArray) (dA (.agg (tL ⟨2,1,false⟩).toArray) (dJ (NJ.flatMap tL) 84 λf b d e a=>⟨_,rfl,d,b,e,rfl,a⟩)))
def Db(b:Int)(a:Option Addr)(l c:Nat)(w:cd):Calls V.prog 97 #[.int .i64 b,.slice a l c] w (fy λv g=>v=.agg #[.int .i64 b,.slice a l c]/\Ext w g):=by
 refine go V.func97 Tryz.ntmps97 ?_;refine eF λp h i d k=>dA (.agg ([.int .i64 b,.slice a l c]:List ce).toArray) (cZ k λf m e=>?_);have n:Sem.run V.prog (loadVar 29 ⟨h,0,none⟩) f=.ok (.agg ([.int .i64 b,.slice a l c]:List ce).toArray) f:=pQ _ e λj v o=>by rw[cB];show([.int .i64 b,.slice a l c]:List ce).toArray[j]? =some v;simpa using o
 exact⟨_,n,_,rfl,rfl,i.cy m d⟩
theorem we:∀a:List Sx,(a.flatMap kY).length=a.length*8
 |[]=>rfl
 |x::r=>by have:=we r;simp[kY,this];omega
theorem wh:∀(a:List Sx) (k:Nat) (b:k<a.length) (j:Nat) (v:ce),(kY a[k])[j]? =some v->(a.flatMap kY)[k*8+j]? =some v
 |x::r,0,_,j,v,h=>by have c:j<(kY x).length:=(gy.1 h).1;simp only[ky,Nat.zero_mul,cB];rw[kz c];exact h
 |x::r,k+1,b,j,v,h=>by have d:=wh r k (by simpa using b) j v (by simpa using h);have e:(kY x).length=8:=rfl;simp only[ky];rw[mQ (by omega),e,show(k+1)*8+j-8=k*8+j by omega];exact d
structure nD(sb:Nat)(xs:List Sx)(w:cd):Prop where
 out:∃cs,w.heap[sb]? =some (.cells cs 166)/\xs.length*8<=cs.size/\∀k (h:k<xs.length) j v,(kY xs[k])[j]? =some v->cs[k*8+j]? =some v
def nD.row{a:List Sx}(h:nD m a w):tI w (some ⟨m,0,none⟩) a:=λk b=>by obtain⟨f,c,g,d⟩:=h.out;exact⟨m,0,rfl,λj v e=>ci c (by rw[cB];exact d k b j v e)⟩
def nD.ext{a:List Sx}(h:nD m a w)(e:Ext w t):nD m a t:=by obtain⟨b,c,d⟩:=h.out;exact⟨b,e.at_ c,d⟩
def nD.keep{a:List Sx}(h:nD m a w)(k:cN A w t)(b:¬A m):nD m a t:=by obtain⟨c,d,e⟩:=h.out;exact⟨c,k.fg d b,e⟩
def NK{b:List Sx}(h:nD m b w)(a o:Nat)(F:a<b.length)(c:k=a*8+o)(n:Sx)(G:o+x.cells.size<=8)
 (r:∀j u,(kY n)[j]? =some u->(if o<=j/\j<o+x.cells.size then x.cells.toList[j-o]? else(kY b[a])[j]?)=some u)
 (s:∀d,cN (λt=>t=m) w d->nD m (b.set a n) d->S d)(v:qC x.cells.toList=true:=by rfl)(y:RG T=some x.cells.size:=by rfl):DR V.prog (Instr.storeAt T (.pointer (some ⟨m,k,none⟩)) x) w S:=by
 subst c;obtain⟨z,A,B,p⟩:=h.out;have H:a*8+8<=z.size:=by have:=oq 8 (show a+1<=b.length by omega);omega
 refine iA A (by omega) (λd C l=>s d C ⟨_,l,by rw[n8];simpa using B,λi D j u e=>?_⟩) (fU v) y;have E:j<8:=(gy.1 e).1;rw[nB _ _ _ _ (by simp;omega)];simp only[Array.length_toList];have f:i<b.length:=by simpa using D
 by_cases g:i=a;subst g;rw[List.getElem_set_self]at e;have:=r j u e;by_cases q:o<=j/\j<o+x.cells.size;rw[cx q]at this;rw[cx (by omega),show i*8+j-(i*8+o)=j-o by omega];exact this;rw[cr q]at this;rw[cr (by omega)];exact p i f j u this;rw[List.getElem_set_ne (by omega)]at e;rw[cr (by rcases Nat.lt_or_gt_of_ne g with h|h;have:=oq 8 (show i+1<=a by omega);omega;have:=oq 8 (show a+1<=i by omega);omega)];exact p i f j u e
def leave1(a:List Sx)(d:Nat):List Sx:=match a[d]? with
 |some x=>a.set d {x with left:=true}
 |none=>a
def jb(a:List Sx)(l:List Nat):List Sx:=l.foldl leave1 a
def HN(a:List Sx)(d:Nat):(leave1 a d).length=a.length:=by unfold leave1;split<;>simp
theorem pU:∀(l:List Nat) (a:List Sx),(jb a l).length=a.length
 |[],_=>rfl
 |d::r,a=>(pU r (leave1 a d)).trans (HN a d)
def FJ(a:List Sx)(l:List Nat)(k:Nat)(b:k<l.length):jb a (l.take (k+1))=leave1 (jb a (l.take k)) l[k]:=by rw[gP b];simp only[jb,uf,mP,List.foldl_nil]
def tM(e:Nat)(w:cd)(v:ce)(b:List Sx):Prop:=(b=[]/\∃a c,v=.slice a 0 c)\/∃d c,e<=d/\v=.slice (some ⟨d,0,none⟩) b.length c/\nD d b w
def tI.cells{w:cd}{a:Option Addr}{c:List Sx}(h:tI w a c):jA w a (c.flatMap kY):=by
 rcases c with _|⟨x,r⟩;exact .inl rfl;obtain⟨b,o,rfl,_⟩:=h 0 (by simp);refine .inr ⟨b,o,rfl,λj u g=>?_⟩;have m:j<(x::r).length*8:=by rw[<-we];exact(gy.1 g).1
 have i:j/8<(x::r).length:=by omega
 obtain⟨n,p,e,q⟩:=h (j/8) i;obtain⟨rfl,rfl⟩:b=n/\o=p:=by injection e with e;injection e with s t;exact⟨s,t⟩
 have v:j%8<(kY (x::r)[j/8]).length:=by show j%8<8;omega
 have k:=ew v;have d:=wh (x::r) (j/8) i (j%8) _ k;have l:=q (j%8) _ k;have f:j/8*8+j%8=j:=by omega
 rw[f]at d;rw[g]at d;obtain rfl:=cE d;have:o+j/8*8+j%8=o+j:=by omega
 rw[this]at l;exact l
def tI.rI{a:List Sx}(h:tI w none a):a.length=0:=by rcases a with _|⟨x,r⟩;rfl;obtain⟨b,o,e,_⟩:=h 0 (by simp);cases e
def uP{c:List Sx}(h:tI w a c)(d:c.length<=1000000):Calls V.prog 154 #[.slice a c.length m] w (fy λv g=>Ext w g/\tM w.heap.size g v c):=by refine(NE a c.length m (c.flatMap kY) w (we c) (λe=>by subst e;exact h.rI) h.cells (λu f=>?_) d).mono ?_;obtain⟨x,_,f⟩:=lJ.1 f;simp[kY]at f;rcases f with rfl|rfl|rfl|rfl|rfl|rfl|rfl|rfl<;>rfl;rintro e g ⟨v,rfl,i,B,⟨n,rfl⟩|⟨b,o,p,q,rfl,r,s,t,C,y,D⟩⟩;exact⟨_,rfl,i,.inl ⟨l9 n,none,0,rfl⟩⟩;refine⟨_,rfl,i,.inr ⟨b,o,q,rfl,⟨p,r,?_,λk z j v A=>?_⟩⟩⟩;have:(sH 166).length=8:=rfl;rw[this]at s;have:=oq 8 t;omega;have l:=wh c k z j v A;rw[y _ (gy.1 l).1];exact l
def HQ{wp gp mk ms:Nat}{p:List Sx}(h:kU wp gp mk ms H p I w)(X:eO w a l)(Y:∀d∈l,d<p.length)(O:l.length<=100000):
 Calls V.prog 171 #[.pointer (some ⟨wp,0,none⟩),.slice a l.length m] w (fy λv r=>Ext w r/\∃z,v=.pointer (some ⟨z,0,none⟩)/\kU z gp mk ms H (jb p l) I r):=by
 obtain⟨Z,sc,h1,P,h3,h4⟩:=h.at_;have aa:p.length<=5:=by have:=h.len;have:=h.g.tY.many;omega
 refine go V.func171 Tryz.ntmps171 ?_;refine dP (vs:=[.pointer (some ⟨gp,0,none⟩),.slice Z p.length sc,.int .i64 I]) (λj v f=>?_) (eF λw1 D e1 A q=>cZ q λJ k2 s=>?_);match j,f with
 |0,f=>cases f;exact h1
 |1,f=>cases f;exact P
 |2,f=>cases f;exact h3
 have E:Ext w J:=e1.cy k2 A;refine cu (E.cell P) (ck (uP (h4.ext E) (by omega)) ?_);rintro v w3 ⟨Q,R⟩;have ab:=cF.lt_of_heap s;have i:v.oneCell'=true/\v.cells=#[v]:=by obtain⟨_,S,c,rfl⟩|⟨B,c,_,rfl,_⟩:=R<;>exact⟨rfl,rfl⟩
 refine iA (Q.at_ s) (by rw[i.2];exact sO rfl) (λK T t=>?_) (by rw[i.2];simpa using i.1) (by rw[i.2];rfl);rw[i.2]at t;have L:K.heap[D]? =some (.cells #[.pointer (some ⟨gp,0,none⟩),v,.int .i64 I] 141):=t;clear t s;have e4:Ext w K:=(E.trans Q).cy T A;have M:tM J.heap.size K v p:=by obtain h|⟨B,c,F,g2,C⟩:=R;exact .inl h;exact .inr ⟨B,c,F,g2,C.keep T (by omega)⟩
 refine cD (ei (n:=l.length) (λk=>[(5,.pointer (some ⟨D,0,none⟩)),(17,.slice a l.length m),(18,.int .i64 l.length),(19,.int .i64 k)]) (λk r=>Ext w r/\r.heap[D]? =some (.cells #[.pointer (some ⟨gp,0,none⟩),v,.int .i64 I] 141)/\tM J.heap.size r v (jb p (l.take k))) ⟨⟨rfl,rfl,rfl,rfl,trivial⟩,e4,L,by simpa[jb]using M⟩ ?_ ?_ ?_);rintro k r x hJ;exact cV ⟨rfl,rfl,⟨rfl,rfl,rfl,rfl,trivial⟩,hJ⟩;rintro k r x ⟨e,q,G⟩;obtain⟨b,o,rfl,hc⟩:=(X.ext e) k x;have U:=Y _ (dt x);obtain⟨N,_⟩|⟨B,c,F,rfl,C⟩:=G;have:=cM List.length N;rw[pU]at this;simp at this;subst this;simp at U;have y:l[k]<(jb p (l.take k)).length:=by rw[pU];exact U
 refine dI k x (cu hc (cu (ci q rfl) (fF l[k] 8 y (NK C l[k] 7 y (by omega) {(jb p (l.take k))[l[k]]with left:=true} (by decide) (λj u f=>?_) (λw5 W g5=>cq ⟨⟨rfl,rfl,rfl,rfl,trivial⟩,e.cy W (by have:=E.size;omega),W.fg q (by omega),?_⟩)))));match j,f with
 |0,f=>exact f
 |1,f=>exact f
 |2,f=>exact f
 |3,f=>exact f
 |4,f=>exact f
 |5,f=>exact f
 |6,f=>exact f
 |7,f=>exact f
 rw[FJ p l k x];have he:leave1 (jb p (l.take k)) l[k]=(jb p (l.take k)).set l[k] {(jb p (l.take k))[l[k]]with left:=true}:=by unfold leave1;rw[ew y]
 rw[he];exact .inr ⟨B,c,F,by rw[qJ],g5⟩;rintro r ⟨e,q,G⟩;rw[kX]at G;refine⟨_,rfl,e,D,rfl,h.g.ext e,by rw[pU];exact h.len,h.bf,?_⟩;obtain⟨N,S,c,rfl⟩|⟨B,c,F,rfl,C⟩:=G;rw[N];exact⟨S,c,ci q rfl,ci q rfl,ci q rfl,λk x=>by simp at x⟩;exact⟨_,c,ci q rfl,ci q rfl,ci q rfl,C.row⟩
def FK(s:Nat)(w:cd):Calls V.prog 167 #[.int .i64 s] w (fy λv a=>v=.bool (decide (s%2=0))/\a=w):=by refine go V.func167 Tryz.ntmps167 ?_;exact C8 (m:=s) (n:=2) (by omega) (eh ⟨_,rfl,by congr 1;simp;omega,rfl⟩)
def FL(s:Nat)(w:cd):Calls V.prog 168 #[.int .i64 s] w (fy λv a=>v=.bool (decide (s%2=1))/\a=w):=by refine go V.func168 Tryz.ntmps168 ?_;exact C8 (m:=s) (n:=2) (by omega) (eh ⟨_,rfl,by congr 1;simp;omega,rfl⟩)
def RN(c:ce)(p:Nat->Bool):Prop:=∃g first a,c=.func (.func g) first a/\(∀b w,Sem.run V.prog (callFunc g b) w=.ok (.enter g b) w)/\∀(n:Nat) w,Calls V.prog g (first.toList++([Value.int .i64 n]++a.toList)).toArray w (fy λv d=>v=.bool (p n)/\d=w)
def pV(p:Nat->Bool):List Nat->Nat->Int
 |[],_=> -1
 |y::r,i=>if p y then i else pV p r (i+1)
def FM(p:Nat->Bool)(l:List Nat)(k:Nat)(a:k<l.length):pV p (l.drop k) k=if p l[k]then(k:Int)else pV p (l.drop (k+1)) (k+1):=by rw[qH a];rfl
theorem zE(p:Nat->Bool):∀(l:List Nat) (i:Nat),decide (0<=pV p l i)=l.any p
 |[],_=>rfl
 |y::r,i=>by
  simp only[pV,List.any_cons];by_cases h:p y=true;simp[h];have h:p y=false:=by simpa using h
  simpa[h]using zE p r (i+1)
def A7{p:Nat->Bool}(r:RN x p)(l:List Nat)(f:Option Addr)(m:Nat)(w:cd)(s:eO w f l)(q:l.length<=100000):Calls V.prog 195 #[.slice f l.length m,x] w (fy λv c=>v=.int .i64 (pV p l 0)/\c=w):=by obtain⟨g,first,i,rfl,j,t⟩:=r;refine go V.func195 Tryz.ntmps195 ?_;refine cD (ei (n:=l.length) (λk=>[(0,.slice f l.length m),(1,.func (.func g) first i),(7,.int .i64 l.length),(8,.int .i64 k)]) (λk c=>c=w/\pV p l 0=pV p (l.drop k) k) ⟨⟨rfl,rfl,rfl,rfl,trivial⟩,rfl,rfl⟩ ?_ ?_ ?_);rintro k c e ⟨rfl,a⟩;exact cV ⟨rfl,rfl,⟨rfl,rfl,rfl,rfl,trivial⟩,rfl,a⟩;rintro k c e ⟨rfl,a⟩;obtain⟨b,o,rfl,d⟩:=s k e;rw[FM p l k e]at a;refine dI k e (cu d (cS (t l[k] c) ⟨λh=>?_,λh=>?_⟩ j));rw[cx h]at a;exact⟨_,rfl,by rw[a];rfl,rfl⟩;rw[h]at a;exact cq ⟨⟨rfl,rfl,rfl,rfl,trivial⟩,rfl,a⟩;rintro c ⟨rfl,a⟩;exact⟨_,rfl,by rw[a];simp[pV],rfl⟩
def pk{p:Nat->Bool}(d:RN x p)(l:List Nat)(b:Option Addr)(c:Nat)(w:cd)(e:eO w b l)(a:l.length<=100000):Calls V.prog 166 #[.slice b l.length c,x] w (fy λv f=>v=.bool (l.any p)/\f=w):=by refine go V.func166 Tryz.ntmps166 ?_;exact cS (A7 d l b c w e a) (n6 ⟨_,rfl,by rw[<-zE p l 0];rfl,rfl⟩)
end Go.Proofs.W
