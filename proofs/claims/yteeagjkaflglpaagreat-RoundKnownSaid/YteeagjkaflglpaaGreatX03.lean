/- Laws that the proof needs, part 3. Conditions: none. -/
import Derived.Scope
import Derived.RangeFuncRecord
import Derived.RangeFuncLeaves
import Derived.Test.YteeagjkaflglpaaGreatX02
set_option maxRecDepth 100000
set_option maxHeartbeats 8000000
set_option linter.all false
namespace Go.Proofs.YteeagjkaflglpaaGreat
open Go.ChangeShapes Go.WideShapes Go.ChangeAt Go.RowKit Go.Conc
def YS:(Rows.roundWalksRow.lifted==false)=true:=by kernel_rfl
def Ym:(Rows.roundWalksRow.lifted==Tryz.pinned.checked.prog.liftsFinal)=true:=(cT (λx=>Rows.roundWalksRow.lifted==x) KU).trans YS
def YT:(some Make.cut==some Rows.roundWalksRow.make)=true:=by kernel_rfl
def Yn:(Tryz.pinned.checked.prog.make==some Rows.roundWalksRow.make)=true:=(cT (λx=>x==some Rows.roundWalksRow.make) KV).trans YT
def Kp:joinedFacts Tryz.pinned.checked.prog 21 Tryz.f21 Rows.roundWalksSpec Rows.roundWalksRow=true:=by unfold joinedFacts;exact(kA (kA (kA (kA (kA (kA (kA (kA (kA (kA (kA (kA (kA (kA (kA (kA (kA (kA (kA (kA (kA (kA (kA (kA (kA (kA (kA (kA (kA (kA (kA (by kernel_rfl) (by kernel_rfl)) (by kernel_rfl)) (by kernel_rfl)) (by kernel_rfl)) (by kernel_rfl)) (by kernel_rfl)) (by kernel_rfl)) (by kernel_rfl)) (by kernel_rfl)) (by kernel_rfl)) (by kernel_rfl)) (by kernel_rfl)) (by kernel_rfl)) (by kernel_rfl)) (by kernel_rfl)) (by kernel_rfl)) (by kernel_rfl)) (by kernel_rfl)) (by kernel_rfl)) (by kernel_rfl)) (by kernel_rfl)) (by kernel_rfl)) (by kernel_rfl)) (by kernel_rfl)) Oa) Ym) Yn) (by kernel_rfl)) (by kernel_rfl)) (by kernel_rfl)) (by kernel_rfl))
end Go.Proofs.YteeagjkaflglpaaGreat
variable{K:dH}
namespace Go.Proofs.W
open Go.RowKit
abbrev L:=List (Nat×cq)
def lk:L->Nat->Option cq
 |[],_=>none
 |p::r,t=>match Nat.beq p.1 t with
  |true=>some p.2
  |false=>lk r t
def nth{a:Type}:List a->Nat->Option a
 |[],_=>none
 |x::_,0=>some x
 |_::r,n+1=>nth r n
def mem:Nat->cz->Bool
 |_,[]=>false
 |n,x::r=>match Nat.beq n x with
  |true=>true
  |false=>mem n r
def ev(l:L):dw->Option cq
 | .tmp t=>lk l t
 | .const v=>some v
 | .func f=>some (.func (.func f) #[] #[])
 | .global _=>none
def evs(l:L):List dw->Option dr
 |[]=>some []
 |x::r=>match ev l x with
  |some v=>match evs l r with
   |some a=>some (v::a)
   |none=>none
  |none=>none
def RA(l:L):Option dw->Option (Option cq)
 |none=>some none
 |some x=>match ev l x with
  |some v=>some (some v)
  |none=>none
def ins(N:Nat)(d:Option Nat)(v:cq)(l:L):L:=match d with
 |none=>l
 |some d=>match Nat.blt d N with
  |true=>(d,v)::l
  |false=>l
structure Fr(N:Nat)(l:L)(a:Act):Prop where
 size:a.tmps.size=N
 defers:a.defers=[]
 at_:∀t v,lk l t=some v->a.eval (.tmp t)=v
structure uK(N:Nat)(l:L)(a:Act):Prop where
 size:a.tmps.size=N
 at_:∀t v,lk l t=some v->a.eval (.tmp t)=v
def Fr.b{N:Nat}{l:L}{a:Act}(h:Fr N l a):uK N l a:=⟨h.size,h.at_⟩
theorem uK.eval{N:Nat}{l:L}{a:Act}(h:uK N l a){x:dw}{v:cq}(b:ev l x=some v):a.eval x=v:=by
 cases x with
 |tmp t=>exact h.at_ t v b
 |const c=>exact cO b
 |func f=>exact cO b
 |global g=>cases b
theorem Fr.eval{N:Nat}{l:L}{a:Act}(h:Fr N l a){x:dw}{v:cq}(c:ev l x=some v):a.eval x=v:=h.b.eval c
theorem Fr.put{N:Nat}{l:L}{a:Act}(h:Fr N l a)(d:Option Nat)(v:cq)(f:∀t,d=some t->t<N):Fr N (ins N d v l) (a.put d v):=by
 refine⟨(mE _ _ _).trans h.size,(tX _ _ _).trans h.defers,λt u b=>?_⟩;cases d with
 |none=>exact h.at_ t u b
 |some d=>
  have e:Nat.blt d N=true:=by simpa[Nat.blt_eq]using f d rfl
  simp only[ins,e]at b;simp only[lk]at b;cases c:Nat.beq d t with
  |true=>
   rw[c]at b;have:d=t:=gM c;subst this;rw[u4 _ _ _ (by rw[h.size];exact f d rfl)];exact cO b
  |false=>
   rw[c]at b;have:d≠t:=uN c;rw[qT _ _ _ _ (by simpa using this)];exact h.at_ t u b
def Fr.u6{N:Nat}{l:L}{a:Act}(h:Fr N l a){d:Nat}{v:cq}(e:lk l d=some v):Fr N ((d,v)::l) a:=by
 refine⟨h.size,h.defers,λt u b=>?_⟩;simp only[lk]at b;cases c:Nat.beq d t with
 |true=>
  rw[c]at b;have:d=t:=gM c;subst this;exact cO b▸h.at_ _ _ e
 |false=>rw[c]at b;exact h.at_ t u b
def Sub:L->L->Prop
 |[],_=>True
 |p::r,l=>lk l p.1=some p.2/\Sub r l
theorem Sub.lk{b l:L}(h:Sub b l){t:Nat}{v:cq}(a:lk b t=some v):lk l t=some v:=by
 induction b with
 |nil=>cases a
 |cons p r d=>
  simp only[W.lk]at a;cases c:Nat.beq p.1 t with
  |true=>
   rw[c]at a;have:p.1=t:=gM c;subst this;exact cO a▸h.1
  |false=>rw[c]at a;exact d h.2 a
def Fr.sub{N:Nat}{l b:L}{a:Act}(h:Fr N l a)(c:Sub b l):Fr N b a:=⟨h.size,h.defers,λt v d=>h.at_ t v (c.lk d)⟩
structure jj(P:cA)(s:Sem cq)(w:cn)(k:cq->cn->Prop):Prop where
 out:∃v w',s.run P w=.ok v w'/\k v w'
structure DO(P:cA)(s:Sem Unit)(w:cn)(k:cn->Prop):Prop where
 out:∃w',s.run P w=.ok () w'/\k w'
structure zV(P:cA)(s:Sem Next)(w:cn)(k:cq->cn->Prop):Prop where
 out:∃v w',s.run P w=.ok (.value v) w'/\k v w'
structure O9(P:cA)(f:dH)(args:List cq)(w:cn)(k:cq->cn->Prop)(pan:List PanicEntry->cn->Prop):Prop where
 go:∀xs w,Sem.run P (callFunc f xs) w=.ok (.enter f xs) w
 out:Calls P f args.toArray w λe w'=>match e with
  | .returned v=>k v w'
  | .panicked c=>pan c w'
  | .outgrown=>False
structure yg where
 off:Nat->Nat->Option Nat
structure mv(P:cA)(T:yg):Prop where
 off:∀S i d,T.off S i=some d->∀b o w,Sem.run P (Instr.fieldAt S (.pointer (some ⟨b,o,none⟩)) i) w=.ok (.pointer (some ⟨b,o+d,none⟩)) w
def RB(l:L):List (Nat×dw)->Option (List (Nat×cq))
 |[]=>some []
 |p::r=>match ev l p.2 with
  |some v=>match RB l r with
   |some a=>some ((p.1,v)::a)
   |none=>none
  |none=>none
def Cm(P:cA)(T:yg)(ks:cz)(l:L)(w:cn)(o:Oper)(k:nd)(s:cU)(pan:List PanicEntry->cU):Prop:=
 match o.op with
 | .move x=>match ev l x with
  |some v=>k v w
  |none=>False
 | .assign x=>match ev l x with
  |some v=>k v w
  |none=>False
 | .pick (.tmp c) x y=>match lk l c with
  |some (.bool b)=>match mem c ks with
   |true=>(match b with
    |true=>match ev l x with
     |some v=>k v w
     |none=>False
    |false=>match ev l y with
     |some v=>k v w
     |none=>False)
   |false=>(b=true->match ev l x with
    |some v=>k v w
    |none=>False)/\(b=false->match ev l y with
    |some v=>k v w
    |none=>False)
  |_=>False
 | .nilCheck x=>match ev l x with
  |some (.pointer (some p))=>k (.pointer (some p)) w
  |some (.func (.func f) a b)=>k (.func (.func f) a b) w
  |_=>False
 | .fieldAddr S x i=>match ev l x with
  |some (.pointer (some ⟨b,o,none⟩))=>(match T.off S i with
   |some d=>k (.pointer (some ⟨b,o+d,none⟩)) w
   |none=>False)
  |_=>False
 | .extract x i=>match ev l x with
  |some (.tuple h)=>(match nth h.toList i with
   |some v=>k v w
   |none=>False)
  |_=>False
 | .field S x i=>match ev l x with
  |some v=>jj P (Instr.field S v i) w k
  |none=>False
 | .load t x=>match ev l x with
  |some v=>jj P (Instr.loadAt t v) w k
  |none=>False
 | .store t x y=>match ev l x with
  |some v=>(match ev l y with
   |some u=>DO P (Instr.storeAt t v u) w s
   |none=>False)
  |none=>False
 | .alloc t=>jj P (Instr.alloc t true (.tuple #[])) w k
 | .box t x=>match ev l x with
  |some v=>jj P (Instr.box t v) w k
  |none=>False
 | .build t e=>match RB l e.toList with
  |some h=>jj P (Instr.build t h.toArray) w k
  |none=>False
 | .buildSlice t n e=>match RB l e.toList with
  |some h=>jj P (Instr.buildSlice t n h.toArray) w k
  |none=>False
 | .binOp b t x y _=>match ev l x with
  |some v=>(match ev l y with
   |some u=>jj P (do eqGuard b t x y v u;binOp b t v u) w k
   |none=>False)
  |none=>False
 | .unOp u _ x=>match ev l x with
  |some v=>jj P (Op.unary u v) w k
  |none=>False
 | .makeFunc q first j=>match evs l first.toList with
  |some A=>(match evs l j.toList with
   |some B=>k (.func q A.toArray B.toArray) w
   |none=>False)
  |none=>False
 | .makeMap t r=>match RA l r with
  |some v=>jj P (Instr.makeMap t v) w k
  |none=>False
 | .makeSlice t x y=>match ev l x with
  |some v=>(match ev l y with
   |some u=>jj P (Instr.makeSlice t v u) w k
   |none=>False)
  |none=>False
 | .slice t x C D E=>match ev l x with
  |some v=>(match RA l C with
   |some a=>(match RA l D with
    |some b=>(match RA l E with
     |some c=>jj P (Instr.sliceAt t v a b c) w k
     |none=>False)
    |none=>False)
   |none=>False)
  |none=>False
 | .indexAddr t x y=>match ev l x with
  |some v=>(match ev l y with
   |some u=>jj P (Instr.indexAt t v u) w k
   |none=>False)
  |none=>False
 | .index t x y=>match ev l x with
  |some v=>(match ev l y with
   |some u=>jj P (Instr.index t v u) w k
   |none=>False)
  |none=>False
 | .lookup t x y c=>match ev l x with
  |some v=>(match ev l y with
   |some u=>jj P (Instr.lookup t v u c) w k
   |none=>False)
  |none=>False
 | .mapUpdate t m x y=>match ev l m with
  |some z=>(match ev l x with
   |some v=>(match ev l y with
    |some u=>DO P (Instr.mapUpdate t z v u) w s
    |none=>False)
   |none=>False)
  |none=>False
 | .call c=>(match c.callee with
  | .value f=>(match ev l f with
   |some (.func (.func g) first j)=>(match evs l c.args.toList with
    |some h=>O9 P g (first.toList++(h++j.toList)) w k pan
    |none=>False)
   |_=>False)
  | .builtin b=>(match evs l c.args.toList with
   |some h=>zV P (builtin b c.argTypes o.type (c.args.map λ| .const _=>true|_=>false) h.toArray) w k
   |none=>False)
  | .invoke _ _=>False)
 | .convert t u x=>match ev l x with
  |some v=>jj P (convert t u v) w k
  |none=>False
 |_=>False
section
variable{P:cA}{T:yg}{ks:List Nat}{N:Nat}{l:L}{a:Act}{w:cn}{o:Oper}{k:cq->cn->Prop}{s:cn->Prop}{pan:List PanicEntry->cn->Prop}{next:Act->cn->Prop}{Q:Exit->Act->cn->Prop}
theorem wW{a:Type}:∀(l:List a) (i:Nat),nth l i=l[i]?
 |[],_=>rfl
 |_::_,0=>rfl
 |_::r,n+1=>(wW r n).trans (by simp)
theorem uK.QC(h:uK N l a):∀{d:List dw} {c:dr},evs l d=some c->d.map a.eval=c
 |[],c,b=>by simp only[evs,fO]at b;subst b;rfl
 |x::r,c,b=>by simp only[evs]at b;split at b;rename_i v e;split at b;rename_i g f;simp only[fO]at b;subst b;simp[h.eval e,uK.QC h f];cases b;cases b
theorem uK.QD(h:uK N l a):∀{d:List (Nat×dw)} {c:List (Nat×cq)},RB l d=some c->d.map (λp=>(p.1,a.eval p.2))=c
 |[],c,b=>by simp only[RB,fO]at b;subst b;rfl
 |x::r,c,b=>by simp only[RB]at b;split at b;rename_i v e;split at b;rename_i g f;simp only[fO]at b;subst b;simp[h.eval e,uK.QD h f];cases b;cases b
def uK.H3(h:uK N l a){x:Option dw}{v:Option cq}(b:RA l x=some v):x.map a.eval=v:=by
 cases x with
 |none=>simp only[RA,fO]at b;subst b;rfl
 |some x=>
  simp only[RA]at b;split at b;rename_i u c;simp only[fO]at b;subst b;simp[h.eval c];cases b
def oY(h:uK N l a){b:Array dw}{c:dr}(d:evs l b.toList=some c):b.map a.eval=c.toArray:=by have:=h.QC d;apply A9;simpa using this
def AA(h:uK N l a){b:Array (Nat×dw)}{c:List (Nat×cq)}(d:RB l b.toList=some c):b.map (λp=>(p.1,a.eval p.2))=c.toArray:=by have:=h.QD d;apply A9;simpa using this
def Cn{s:Sem cq}(h:jj P s w k)(c:∀v b,k v b->next (a.put o.dst v) b):o.upon P a next Q ((do let v<-s;pure (Next.value v):Sem Next).run P w):=by obtain⟨v,b,d,e⟩:=h.out;simp only[Sem.run_bind,d,Result.andThen_ok,Sem.run_pure];exact c v b e
def Wl{c:Sem Unit}(h:DO P c w s)(d:∀b,s b->next (a.put o.dst undef) b):o.upon P a next Q ((do c;pure Next.skip:Sem Next).run P w):=by obtain⟨b,e,f⟩:=h.out;simp only[Sem.run_bind,e,Result.andThen_ok,Sem.run_pure];exact d b f
def iv(O:mv P T)(q:uK N l a)(h:Cm P T ks l w o k s pan)(A:∀v C,k v C->next (a.put o.dst v) C)(L:∀C,s C->next (a.put o.dst undef) C)(R:∀c C,pan c C->Q (.panic c) a C):o.wp P a w next Q:=by
 unfold Oper.wp;unfold Cm at h;split at h;case h_1 x p=>
  split at h;rename_i v j;simp only[execOp,p,q.eval j,Sem.run_pure];exact A _ _ h;exact h.elim
 case h_2 x p=>
  split at h;rename_i v j;simp only[execOp,p,q.eval j,Sem.run_pure];exact A _ _ h;exact h.elim
 case h_3 c x y p=>
  split at h;case h_1 b U=>
   have E:a.eval (.tmp c)=.bool b:=q.eval (x:=.tmp c) U;simp only[execOp,p,E,asBool,pure_bind,Sem.run_pure];split at h;cases b with
   |true=>
    simp only at h;split at h;rename_i v j;simp only[dF,q.eval j];exact A _ _ h;exact h.elim
   |false=>
    simp only at h;split at h;rename_i v j;simp only[ik,eF,q.eval j];exact A _ _ h;exact h.elim
   cases b with
   |true=>
    have h:=h.1 rfl;split at h;rename_i v j;simp only[dF,q.eval j];exact A _ _ h;exact h.elim
   |false=>
    have h:=h.2 rfl;split at h;rename_i v j;simp only[ik,eF,q.eval j];exact A _ _ h;exact h.elim
  case h_2=>exact h.elim
 case h_4 x p=>
  split at h;rename_i ad j;simp only[execOp,p,q.eval j,Sem.run_pure];exact A _ _ h;rename_i f u v j;simp only[execOp,p,q.eval j,Sem.run_pure];exact A _ _ h;exact h.elim
 case h_5 S x i p=>
  split at h;rename_i b G j;split at h;rename_i d V;simp only[execOp,p,q.eval j];exact Cn (k:=k) ⟨_,_,O.off S i d V b G w,h⟩ A;exact h.elim;exact h.elim
 case h_6 x i p=>
  split at h;rename_i F j;split at h;rename_i v M;rw[wW]at M;have H:F[i]? =some v:=by simpa using M
  simp only[execOp,p,q.eval j];exact Cn (k:=k) ⟨v,w,by simp only[Instr.extract,H,Sem.run_pure],h⟩ A;exact h.elim;exact h.elim
 case h_7 S x i p=>
  split at h;rename_i v j;simp only[execOp,p,q.eval j];exact Cn h A;exact h.elim
 case h_8 t x p=>
  split at h;rename_i v j;simp only[execOp,p,q.eval j];exact Cn h A;exact h.elim
 case h_9 t x y p=>
  split at h;rename_i v j;split at h;rename_i u B;simp only[execOp,p,q.eval j,q.eval B];exact Wl h L;exact h.elim;exact h.elim
 case h_10 t p=>simp only[execOp,p];exact Cn h A
 case h_11 t x p=>
  split at h;rename_i v j;simp only[execOp,p,q.eval j];exact Cn h A;exact h.elim
 case h_12 t D p=>
  split at h;rename_i v j;simp only[execOp,p,AA q j];exact Cn h A;exact h.elim
 case h_13 t n D p=>
  split at h;rename_i v j;simp only[execOp,p,AA q j];exact Cn h A;exact h.elim
 case h_14 b t x y r p=>
  split at h;rename_i v j;split at h;rename_i u B;simp only[execOp,p,q.eval j,q.eval B];exact Cn h A;exact h.elim;exact h.elim
 case h_15 u t x p=>
  split at h;rename_i v j;simp only[execOp,p,q.eval j];exact Cn h A;exact h.elim
 case h_16 fn first cap p=>
  split at h;rename_i xs W;split at h;rename_i ys X;simp only[execOp,p,oY q W,oY q X];exact Cn (k:=k) ⟨_,_,by simp only[Instr.makeFunc,Sem.run_pure],h⟩ A;exact h.elim;exact h.elim
 case h_17 t r p=>
  split at h;rename_i v j;simp only[execOp,p,q.H3 j];exact Cn h A;exact h.elim
 case h_18 t x y p=>
  split at h;rename_i v j;split at h;rename_i u B;simp only[execOp,p,q.eval j,q.eval B];exact Cn h A;exact h.elim;exact h.elim
 case h_19 t x lo hi mx p=>
  split at h;rename_i v j;split at h;rename_i u B;split at h;rename_i u2 I;split at h;rename_i u3 J;simp only[execOp,p,q.eval j,q.H3 B,q.H3 I,q.H3 J];exact Cn h A;exact h.elim;exact h.elim;exact h.elim;exact h.elim
 case h_20 t x y p=>
  split at h;rename_i v j;split at h;rename_i u B;simp only[execOp,p,q.eval j,q.eval B];exact Cn h A;exact h.elim;exact h.elim
 case h_21 t x y p=>
  split at h;rename_i v j;split at h;rename_i u B;simp only[execOp,p,q.eval j,q.eval B];exact Cn h A;exact h.elim;exact h.elim
 case h_22 t x y c p=>
  split at h;rename_i v j;split at h;rename_i u B;simp only[execOp,p,q.eval j,q.eval B];exact Cn h A;exact h.elim;exact h.elim
 case h_23 t m x y p=>
  split at h;rename_i z Y;split at h;rename_i v j;split at h;rename_i u B;simp only[execOp,p,q.eval Y,q.eval j,q.eval B];exact Wl h L;exact h.elim;exact h.elim;exact h.elim
 case h_24 c p=>
  split at h;rename_i f E;split at h;rename_i g first cap hf
  split at h;rename_i F j;have Z:first++F.toArray++cap=(first.toList++(F++cap.toList)).toArray:=by apply A9;simp
  simp only[execOp,p,resolve,E,Deferred.ofValue,q.eval hf,oY q j,pure_bind,invoke,Z,h.go,Oper.upon_enter];refine h.out.mono λe C K=>?_;cases e with
  |returned v=>exact A v C K
  |panicked ch=>exact R ch C K
  |outgrown=>exact K.elim
  exact h.elim;exact h.elim;rename_i b E;split at h;rename_i F j;obtain⟨v,C,hr,h'⟩:=h.out;simp only[execOp,p,resolve,E,oY q j,pure_bind,invoke];exact Eq.mpr (cT (o.upon P a next Q) hr) (A v C h');exact h.elim;exact h.elim
 case h_25 t u x p=>
  split at h;rename_i v j;simp only[execOp,p,q.eval j];exact Cn h A;exact h.elim
 case h_26=>exact h.elim
def yh:List Oper->Nat->Option Nat
 |[],_=>none
 |o::_,0=>o.dst
 |_::r,n+1=>yh r n
def SB(N:Nat)(d:Option Nat)(X:Prop):Prop:=match d with
 |none=>X
 |some d=>match Nat.blt d N with
  |true=>X
  |false=>False
def wd(r:Option Nat):Fence:={Fence.wide with round:=r}
def L8{r:Option Nat}{n:Nat}{a:dU}{w:cn}{R:Ending->cU}(h:Calls P K a w R):CallsIn (wd r) n P K a w R:=callsIn_wide.2 h
structure Xr(P:cA)(lp:Nat)(args:List cq)(w:cn)(k:cq->cn->Prop)(pan:List PanicEntry->cn->Prop):Prop where
 out:∃f tmps assign body,(Instr.yield lp args.toArray).run P w=.ok (.round lp f tmps assign body) w/\RoundIn Fence.wide 0 P lp f tmps assign body w λe w'=>match e with
  | .returned v=>k v w'
  | .panicked c=>pan c w'
  | .outgrown=>False
def tY(P:cA)(T:yg)(ks:cz)(l:L)(w:cn)(o:Oper)(k:nd)(s:cU)(pan:List PanicEntry->cU):Prop:=
 match o.op with
 | .call c=>(match c.callee with
  | .value f=>(match ev l f with
   |some (.func (.yield a) first _)=>(match evs l c.args.toList with
    |some b=>Xr P a (first.toList++b) w k pan
    |none=>False)
   |_=>Cm P T ks l w o k s pan)
  |_=>Cm P T ks l w o k s pan)
 |_=>Cm P T ks l w o k s pan
theorem yi{r:Option Nat}{n:Nat}{x:Result Next}(h:o.upon P a next Q x):o.uponIn (wd r) n P a next Q x:=by
 have Tx:((wd r).depth.isSome=true->1<=n):=λh=>by cases h
 cases x with
 |ok v w'=>
  cases v with
  |value v=>exact h
  |skip=>exact h
  |defer d=>exact h
  |enter f args=>exact⟨Tx,(L8 h).mono λe w h=>by cases e<;>exact h⟩
  |row row args=>exact⟨Tx,λc cs _=>let⟨v,w',r,s⟩:=h c cs;⟨v,w',r,stepsIn_wide.2 s⟩⟩
  |_=>exact h.elim
 |halt e w'=>
  cases e with
  |panic v=>exact h
  |_=>exact h.elim
def DR(h:Cm P T ks l w o k s pan):∀c,o.op≠ .defer c:=λc e=>by unfold Cm at h;rw[e]at h;exact h
def yj{r:Option Nat}(z:mv P T)(m:uK N l a)(h:tY P T ks l w o k s pan)(q:∀v d,k v d->next (a.put o.dst v) d)(A:∀d,s d->next (a.put o.dst undef) d)(t:∀c d,pan c d->Q (.panic c) a d):o.wpIn (wd r) 0 P a w next Q:=by
 have plain:Cm P T ks l w o k s pan->o.wpIn (wd r) 0 P a w next Q:=λh=>by refine⟨λ_ _=>trivial,?_⟩;rw[Oper.semAt_eq _ _ _ (DR h)];exact yi (iv z m h q A t)
 unfold tY at h;split at h;rename_i c u;split at h;rename_i f B;split at h;rename_i x first cap hf
 split at h;rename_i y C;obtain⟨g,i,b,j,D,E⟩:=h.out;refine⟨λ_ _=>trivial,?_⟩;rw[Oper.semAt_eq _ _ _ (λc e=>by rw[u]at e;cases e)];have F:first++y.toArray=(first.toList++y).toArray:=by apply A9;simp
 have e:Sem.run P (execOp a.eval o) w=.ok (.round x g i b j) w:=by simp only[execOp,u,resolve,B,Deferred.ofValue,m.eval hf,oY m C,pure_bind,invoke,F,D]
 rw[e]
 have n:RoundIn (wd r) (0-1) P x g i b j w λe d=>match e with
  | .returned v=>k v d
  | .panicked c=>pan c d
  | .outgrown=>False:=E
 refine⟨(λh=>by cases h),n.mono ?_⟩;intro e d p;cases e with
 |returned v=>exact q _ _ p
 |panicked c=>exact t _ _ p
 |outgrown=>exact p.elim
 exact h.elim;exact plain h;exact plain h;exact plain h
structure pk(ds:List Deferred)(N:Nat)(l:L)(a:Act):Prop where
 b:uK N l a
 d:a.defers=ds
def Fr.Wm{N:Nat}{l:L}{a:Act}(h:Fr N l a):pk [] N l a:=⟨h.b,h.defers⟩
def pk.fr{N:Nat}{l:L}{a:Act}(h:pk [] N l a):Fr N l a:=⟨h.b.size,h.d,h.b.at_⟩
theorem uK.put{N:Nat}{l:L}{a:Act}(h:uK N l a)(d:Option Nat)(v:cq)(b:∀t,d=some t->t<N):uK N (ins N d v l) (a.put d v):=by have c:Fr N l ⟨a.tmps,[]⟩:=⟨h.size,rfl,h.at_⟩;have:=c.put d v b;cases d<;>exact⟨this.size,this.at_⟩
theorem uK.u6{N:Nat}{l:L}{a:Act}(h:uK N l a){d:Nat}{v:cq}(b:lk l d=some v):uK N ((d,v)::l) a:=by have c:Fr N l ⟨a.tmps,[]⟩:=⟨h.size,rfl,h.at_⟩;have:=c.u6 b;exact⟨this.size,this.at_⟩
theorem pk.put{c:List Deferred}{N:Nat}{l:L}{a:Act}(h:pk c N l a)(d:Option Nat)(v:cq)(e:∀t,d=some t->t<N):pk c N (ins N d v l) (a.put d v):=⟨h.b.put d v e,(tX _ _ _).trans h.d⟩
theorem pk.u6{c:List Deferred}{N:Nat}{l:L}{a:Act}(h:pk c N l a){d:Nat}{v:cq}(e:lk l d=some v):pk c N ((d,v)::l) a:=⟨h.b.u6 e,h.d⟩
def pk.sub{c:List Deferred}{N:Nat}{l e:L}{a:Act}(h:pk c N l a)(f:Sub e l):pk c N e a:=⟨⟨h.b.size,λt v g=>h.b.at_ t v (f.lk g)⟩,h.d⟩
def pC(P:cA)(T:yg)(N:Nat)(K:L->cU)(pan:L->List PanicEntry->cU)(a:List Oper):List Oper->cz->L->cU
 |[],_,l,w=>K l w
 |o::r,ks,l,w=>SB N o.dst (match o.guard with
  |none=>tY P T ks l w o (λv c=>pC P T N K pan a r ks (ins N o.dst v l) c) (λc=>pC P T N K pan a r ks (ins N o.dst undef l) c) (pan l)
  |some (g,e)=>match yh a g with
   |none=>False
   |some d=>match lk l d with
    |some (.bool b)=>(match mem d ks with
     |true=>(match b,e with
      |true,true=>tY P T ks l w o (λv c=>pC P T N K pan a r ks (ins N o.dst v l) c) (λc=>pC P T N K pan a r ks (ins N o.dst undef l) c) (pan l)
      |false,false=>tY P T ks l w o (λv c=>pC P T N K pan a r ks (ins N o.dst v l) c) (λc=>pC P T N K pan a r ks (ins N o.dst undef l) c) (pan l)
      |_,_=>pC P T N K pan a r ks (ins N o.dst undef l) w)
     |false=>(b=true->match e with
      |true=>tY P T (d::ks) ((d,.bool true)::l) w o (λv c=>pC P T N K pan a r (d::ks) (ins N o.dst v ((d,.bool true)::l)) c) (λc=>pC P T N K pan a r (d::ks) (ins N o.dst undef ((d,.bool true)::l)) c) (pan ((d,.bool true)::l))
      |false=>pC P T N K pan a r (d::ks) (ins N o.dst undef ((d,.bool true)::l)) w)/\
      (b=false->match e with
       |false=>tY P T (d::ks) ((d,.bool false)::l) w o (λv c=>pC P T N K pan a r (d::ks) (ins N o.dst v ((d,.bool false)::l)) c) (λc=>pC P T N K pan a r (d::ks) (ins N o.dst undef ((d,.bool false)::l)) c) (pan ((d,.bool false)::l))
       |true=>pC P T N K pan a r (d::ks) (ins N o.dst undef ((d,.bool false)::l)) w))
    |some (.tuple _)=>pC P T N K pan a r ks (ins N o.dst undef l) w
    |_=>False)
def wX{X:Prop}{d:Option Nat}(h:SB N d X):X/\∀t,d=some t->t<N:=by
 cases d with
 |none=>exact⟨h,λ_ e=>by cases e⟩
 |some d=>
  simp only[SB]at h;split at h;rename_i a;exact⟨h,λt e=>by cases e;simpa[Nat.blt_eq]using a⟩;exact h.elim
theorem mN:∀(l:List Oper) (g:Nat),yh l g=(l[g]?).bind (·.dst)
 |[],_=>rfl
 |_::_,0=>rfl
 |_::r,n+1=>(mN r n).trans (by simp)
def qV{b:Array Oper}{a:Act}{g d:Nat}{e:dU}(f:(b[g]?).bind (·.dst)=some d)(c:a.eval (.tmp d)=.tuple e):yielded b a.tmps g=none:=by
 rw[kg]at c;unfold yielded;rw[f];simp only[sN];cases h:a.tmps[d]? with
 |none=>rfl
 |some x=>rw[h]at c;simp at c;subst c;rfl
theorem nA{r0:Option Nat}{ds:List Deferred}(B:mv P T){K:L->cU}{pan:L->List PanicEntry->cU}{e:Array Oper}(C:∀l a w,pk ds N l a->K l w->Q .normal a w)(D:∀l c a w,pk ds N l a->pan l c w->Q (.panic c) a w):∀(r:List Oper) (i:Nat) (ks:cz) (l:L) (a:Act) (w:cn),(∀j,r[j]? =e[i+j]?)->pk ds N l a->pC P T N K pan e.toList r ks l w->wpOpsIn (wd r0) 0 P e Q (List.range' i r.length) a w
 |[],i,ks,l,a,w,_,f,h=>C l a w f h
 |o::r,i,ks,l,a,w,H,f,h=>by
  have I:e[i]? =some o:=(H 0).symm;have t:∀j,r[j]? =e[i+1+j]? :=λj=>by have:=H (j+1);simpa[vF,Nat.add_comm 1 j]using this
  obtain⟨h,F⟩:=wX h
  have p:∀ks l,pk ds N l a->Region.wanted o (yielded e a.tmps)=true->tY P T ks l w o (λv s=>pC P T N K pan e.toList r ks (ins N o.dst v l) s) (λs=>pC P T N K pan e.toList r ks (ins N o.dst undef l) s) (pan l)->
   wpOpsIn (wd r0) 0 P e Q (List.range' i (o::r).length) a w:=by
   intro ks l f n h;rw[eI,Hu];simp only[wpOpsIn,I,n,dF];refine(yj B f.b h (λv s u=>?_) (λs u=>?_) λc s u=>D l c a s f u);exact nA B C D r (i+1) ks _ _ s t (f.put o.dst v F) u;exact nA B C D r (i+1) ks _ _ s t (f.put o.dst undef F) u
  have skip:∀ks l,pk ds N l a->Region.wanted o (yielded e a.tmps)=false->pC P T N K pan e.toList r ks (ins N o.dst undef l) w->wpOpsIn (wd r0) 0 P e Q (List.range' i (o::r).length) a w:=by intro ks l f n h;rw[eI,Hu];simp only[wpOpsIn,I,n,ik,eF];refine⟨λ_ _=>trivial,?_⟩;exact nA B C D r (i+1) ks _ _ w t (f.put o.dst undef F) h
  split at h;rename_i E;exact p ks l f (by simp[Region.wanted,E]) h;rename_i g m E;split at h;exact h.elim;rename_i d y;rw[mN]at y;have z:(e[g]?).bind (·.dst)=some d:=by simpa using y
  split at h;rename_i b A;have k:a.eval (.tmp d)=.bool b:=f.b.at_ d _ A;have G:yielded e a.tmps g=some b:=by
   rw[kg]at k;unfold yielded;rw[z];simp only[sN];cases J:a.tmps[d]? with
   |none=>rw[J]at k;simp[undef]at k
   |some x=>rw[J]at k;simp at k;subst k;rfl
  have n:Region.wanted o (yielded e a.tmps)=(b==m):=by simp[Region.wanted,E,G]
  split at h;cases b<;>cases m<;>simp only at h;exact p ks l f (by rw[n];rfl) h;exact skip ks l f (by rw[n];rfl) h;exact skip ks l f (by rw[n];rfl) h;exact p ks l f (by rw[n];rfl) h;cases b with
  |true=>
   have h:=h.1 rfl;have q:=f.u6 A;cases m with
   |true=>simp only at h;exact p (d::ks) ((d,.bool true)::l) q (by rw[n];rfl) h
   |false=>exact skip (d::ks) ((d,.bool true)::l) q (by rw[n];rfl) h
  |false=>
   have h:=h.2 rfl;have q:=f.u6 A;cases m with
   |true=>exact skip (d::ks) ((d,.bool false)::l) q (by rw[n];rfl) h
   |false=>simp only at h;exact p (d::ks) ((d,.bool false)::l) q (by rw[n];rfl) h
  rename_i M A;have k:a.eval (.tmp d)=.tuple M:=f.b.at_ d _ A;have G:yielded e a.tmps g=none:=qV z k;exact skip ks l f (by simp[Region.wanted,E,G]) h;exact h.elim
end
abbrev QW:=Exit->L->cn->Prop
def lift(N:Nat)(Q:QW):Exit->Act->cU:=λe a w=>∃l,Fr N l a/\Q e l w
def L9(K:L->cU)(Q:QW):QW
 | .normal,l,w=>K l w
 | .exit i,l,w=>Q (.exit i) l w
 | .goto i,l,w=>Q (.goto i) l w
 | .ret,l,w=>Q .ret l w
 | .panic c,l,w=>Q (.panic c) l w
 | .outgrown,l,w=>Q .outgrown l w
def jg(a:Nat)(Q:QW):QW
 | .exit i,l,w=>match Nat.beq i a with
  |true=>Q .normal l w
  |false=>Q (.exit i) l w
 | .normal,l,w=>Q .normal l w
 | .goto i,l,w=>Q (.goto i) l w
 | .ret,l,w=>Q .ret l w
 | .panic c,l,w=>Q (.panic c) l w
 | .outgrown,l,w=>Q .outgrown l w
structure dM(P:cA)(N:Nat)(c:Code)(l:L)(w:cn)(Q:QW):Prop where
 out:∀a,Fr N l a->c.wp P (lift N Q) a w
def WC(P:cA)(T:yg)(N:Nat):Code->QW->L->cU
 | .skip,Q,l,w=>Q .normal l w
 | .label _,Q,l,w=>Q .normal l w
 | .ret,Q,l,w=>Q .ret l w
 | .exit i,Q,l,w=>Q (.exit i) l w
 | .goto i,Q,l,w=>Q (.goto i) l w
 | .region i e d,Q,l,w=>(match d with
  |false=>pC P T N (Q .normal) (λl c w=>Q (.panic c) l w) e.toList e.toList [] l w
  |true=>dM P N (.region i e true) l w Q)
 | .seq x y,Q,l,w=>WC P T N x (L9 (WC P T N y Q) Q) l w
 | .cond c x y,Q,l,w=>(match ev l c with
  |some (.bool b)=>(b=true->WC P T N x Q l w)/\(b=false->WC P T N y Q l w)
  |_=>False)
 | .block i c,Q,l,w=>(match c with
  | .loop h=>dM P N (.block i (.loop h)) l w Q
  | .rangeFunc f g a b=>dM P N (.block i (.rangeFunc f g a b)) l w Q
  |_=>WC P T N c (jg i Q) l w)
 | .loop c,Q,l,w=>dM P N (.loop c) l w Q
 | .scope c,Q,l,w=>dM P N (.scope c) l w Q
 | .rangeFunc f g a b,Q,l,w=>dM P N (.rangeFunc f g a b) l w Q
 | .refuse _,_,_,_=>False
theorem iA{P:cA}{T:yg}{N:Nat}(q:mv P T):∀(c:Code) (Q:QW) (l:L) (a:Act) (w:cn),Fr N l a->WC P T N c Q l w->c.wp P (lift N Q) a w
 | .skip,Q,l,a,w,k,h=>wp_skip ⟨l,k,h⟩
 | .label _,Q,l,a,w,k,h=>wp_label ⟨l,k,h⟩
 | .ret,Q,l,a,w,k,h=>wp_ret ⟨l,k,h⟩
 | .exit i,Q,l,a,w,k,h=>wp_exit ⟨l,k,h⟩
 | .goto i,Q,l,a,w,k,h=>wp_goto ⟨l,k,h⟩
 | .region i s d,Q,l,a,w,k,h=>by
  cases d with
  |true=>exact dM.out h a k
  |false=>
   refine wpIn_wide.1 (wpIn_region (n:=0) ?_);have:=nA (r0:=none) (ds:=[]) q (Q:=lift N Q) (λl a w k t=>⟨l,k.fr,t⟩) (λl c a w k t=>⟨l,k.fr,t⟩) s.toList 0 [] l a w (λj=>by simp) k.Wm h;rw[Array.length_toList,<-List.range_eq_range']at this;exact this
 | .seq x y,Q,l,a,w,k,h=>by
  refine jX (kz (iA q x _ l a w k h) ?_);rintro e z A ⟨r,m,o⟩;cases e with
  |normal=>exact iA q y Q r z A m o
  |_=>exact⟨r,m,o⟩
 | .cond c x y,Q,l,a,w,k,h=>by simp only[WC]at h;split at h;rename_i b u;refine wp_cond_split (k.eval u) (λB=>?_) λC=>?_;exact iA q x Q l a w k (h.1 B);exact iA q y Q l a w k (h.2 C);exact h.elim
 | .block i c,Q,l,a,w,k,h=>by
  have v:WC P T N c (jg i Q) l w->(Code.block i c).wp P (lift N Q) a w:=λh=>by
   refine wp_block (kz (iA q c _ l a w k h) ?_);rintro e z A ⟨r,m,o⟩;cases e with
   |exit j=>
    simp only[Exit.inBlock];simp only[jg]at o;by_cases p:j=i;subst p;rw[cB rfl];rw[vG]at o;exact⟨r,m,o⟩;rw[cy p];have:Nat.beq j i=false:=by
     cases u:Nat.beq j i with
     |false=>rfl
     |true=>exact absurd (gM u) p
    rw[this]at o;exact⟨r,m,o⟩
   |_=>exact⟨r,m,o⟩
  cases c with
  |loop E=>exact dM.out h a k
  |rangeFunc f D g b=>exact dM.out h a k
  |_=>exact v h
 | .loop c,Q,l,a,w,k,h=>dM.out h a k
 | .scope c,Q,l,a,w,k,h=>dM.out h a k
 | .rangeFunc f D g b,Q,l,a,w,k,h=>dM.out h a k
 | .refuse _,_,_,_,_,_,h=>h.elim
def flat:Code->Bool
 | .region _ _ d=>!d
 | .seq x y=>flat x&&flat y
 | .cond _ x y=>flat x&&flat y
 | .block _ c=>flat c
 | .loop _=>false
 | .scope _=>false
 | .rangeFunc _ _ _ _=>false
 |_=>true
def Ma(b:List Deferred)(N:Nat)(Q:QW):Exit->Act->cU:=λe a w=>∃l,pk b N l a/\Q e l w
theorem kM{P:cA}{T:yg}{N:Nat}{r:Option Nat}{ds:List Deferred}(q:mv P T):∀(c:Code) (Q:QW) (l:L) (a:Act) (w:cn),flat c=true->pk ds N l a->WC P T N c Q l w->c.wpIn (wd r) 0 P (Ma ds N Q) a w
 | .skip,Q,l,a,w,_,k,h=>wpIn_skip ⟨l,k,h⟩
 | .label _,Q,l,a,w,_,k,h=>wpIn_label ⟨l,k,h⟩
 | .ret,Q,l,a,w,_,k,h=>wpIn_ret ⟨l,k,h⟩
 | .exit i,Q,l,a,w,_,k,h=>wpIn_exit ⟨l,k,h⟩
 | .goto i,Q,l,a,w,_,k,h=>wpIn_goto ⟨l,k,h⟩
 | .region i t d,Q,l,a,w,m,k,h=>by
  cases d with
  |true=>cases m
  |false=>
   refine wpIn_region ?_;have:=nA (r0:=r) (ds:=ds) q (Q:=Ma ds N Q) (λl a w k u=>⟨l,k,u⟩) (λl c a w k u=>⟨l,k,u⟩) t.toList 0 [] l a w (λj=>by simp) k h;rw[Array.length_toList,<-List.range_eq_range']at this;exact this
 | .seq x y,Q,l,a,w,m,k,h=>by
  simp only[flat,dW]at m;refine wpIn_seq (wpIn_mono (kM q x _ l a w m.1 k h) ?_);rintro e A B ⟨s,n,o⟩;cases e with
  |normal=>exact kM q y Q s A B m.2 n o
  |_=>exact⟨s,n,o⟩
 | .cond c x y,Q,l,a,w,m,k,h=>by simp only[flat,dW]at m;simp only[WC]at h;split at h;rename_i b v;refine wpIn_cond_split (k.b.eval v) (λC=>?_) λD=>?_;exact kM q x Q l a w m.1 k (h.1 C);exact kM q y Q l a w m.2 k (h.2 D);exact h.elim
 | .block i c,Q,l,a,w,m,k,h=>by
  have z:flat c=true->WC P T N c (jg i Q) l w->(Code.block i c).wpIn (wd r) 0 P (Ma ds N Q) a w:=λm h=>by
   refine wpIn_block (wpIn_mono (kM q c _ l a w m k h) ?_);rintro e A B ⟨s,n,o⟩;cases e with
   |exit j=>
    simp only[Exit.inBlock];simp only[jg]at o;by_cases p:j=i;subst p;rw[cB rfl];rw[vG]at o;exact⟨s,n,o⟩;rw[cy p];have:Nat.beq j i=false:=by
     cases v:Nat.beq j i with
     |false=>rfl
     |true=>exact absurd (gM v) p
    rw[this]at o;exact⟨s,n,o⟩
   |_=>exact⟨s,n,o⟩
  cases c with
  |loop F=>cases m
  |rangeFunc f E g b=>cases m
  |_=>exact z m h
 | .loop c,Q,l,a,w,m,k,h=>by cases m
 | .scope c,Q,l,a,w,m,k,h=>by cases m
 | .rangeFunc f E g b,Q,l,a,w,m,k,h=>by cases m
 | .refuse _,_,_,_,_,_,_,h=>h.elim
def DT(P:cA):List ResultVar->L->cn->(dr->Prop)->Prop
 |[],_,_,k=>k []
 | .tmp t::r,l,w,k=>match lk l t with
  |some v=>DT P r l w λa=>k (v::a)
  |none=>False
 | .cell t b::r,l,w,k=>match lk l t with
  |some (.pointer (some c))=>∃v,Sem.run P (loadVar b c) w=.ok v w/\DT P r l w λa=>k (v::a)
  |_=>False
def one(a:dr):cq:=match a with
 |[v]=>v
 |a=>.tuple a.toArray
def QR(P:cA)(b:List ResultVar)(R:Ending->cU):QW
 | .normal,l,w=>DT P b l w λa=>R (.returned (one a)) w
 | .ret,l,w=>DT P b l w λa=>R (.returned (one a)) w
 | .panic c,_,w=>R (.panicked c) w
 |_,_,_=>False
def Jb(a:dU):ResultVar->Sem cq
 | .tmp t=>pure (a.getD t undef)
 | .cell x t=>do loadVar t (<-asAddr (a.getD x undef))
theorem yn{P:cA}{N:Nat}{a:Act}{w:cn}:∀(m:List ResultVar) (l:L) (k:dr->Prop),Fr N l a->DT P m l w k->∃c,Sem.run P (m.mapM (Jb a.tmps)) w=.ok c w/\k c
 |[],l,k,d,h=>⟨[],by simp[Sem.run_pure],h⟩
 | .tmp t::r,l,k,d,h=>by simp only[DT]at h;split at h;rename_i v e;obtain⟨c,f,g⟩:=yn r l _ d h;have b:Jb a.tmps (.tmp t)=pure v:=cT pure (d.at_ t v e);refine⟨v::c,?_,g⟩;rw[List.mapM_cons,b];simp only[Sem.run_bind,Sem.run_pure,Result.andThen_ok,f];exact h.elim
 | .cell t i::r,l,k,d,h=>by
  simp only[DT]at h;split at h;rename_i n e;obtain⟨v,o,h⟩:=h;obtain⟨c,f,g⟩:=yn r l _ d h;have b:a.tmps.getD t fR=.pointer (some n):=d.at_ t _ e;have j:Jb a.tmps (.cell t i)=loadVar i n:=by show(do loadVar i (<-asAddr (a.tmps.getD t fR)))=_;rw[b];rfl
  refine⟨v::c,?_,g⟩;rw[List.mapM_cons,j];simp only[Sem.run_bind,o,Result.andThen_ok,f,Sem.run_pure];exact h.elim
def yo(b:Func)(c:dU):results b c=(do let a<-b.results.mapM (Jb c);pure (if h:a.size=1 then a[0]else .tuple a)):=by unfold results;congr 1
def QE{P:cA}{k:Func}{c:Code}{b:dr}{w:cn}{R:Ending->cU}(N:Nat)(h:dM P N c (b.zipIdx.map λp=>(p.2,p.1)) w (QR P k.results.toList R))(a:Act)(z:a.tmps.size=N)(d:a.defers=[])(C:∀i v,b.toArray[i]? =some v->a.eval (.tmp i)=v):c.wp P (bodyPost P k R) a w:=by
 have D:Fr N (b.zipIdx.map λp=>(p.2,p.1)) a:=by
  refine⟨z,d,λt v E=>?_⟩;refine C t v ?_
  have s:∀(m:dr) (n:Nat),lk ((m.zipIdx n).map λp=>(p.2,p.1)) t=some v->n<=t/\m[t-n]? =some v:=by
   intro m;induction m with
   |nil=>intro n h;cases h
   |cons x r F=>
    intro n h;simp only[List.zipIdx_cons,lq,lk]at h;cases o:Nat.beq n t with
    |true=>
     rw[o]at h;have:n=t:=gM o;subst this;exact⟨cJ _,by simpa using h⟩
    |false=>
     rw[o]at h;have G:n≠t:=uN o;obtain⟨B,u⟩:=F (n+1) h;refine⟨by omega,?_⟩;have:t-n=(t-(n+1))+1:=by omega
     rw[this];simpa using u
  have:=(s b 0 E).2;simpa using this
 refine kz (h.out a D) ?_;rintro e A g ⟨H,j,f⟩
 have l:DT P k.results.toList H g (λq=>R (.returned (one q)) g)->A.defers=[]/\∃v,(results k A.tmps).run P g=.ok v g/\R (.returned v) g:=λf=>by
  obtain⟨q,B,u⟩:=yn _ _ _ j f;refine⟨j.defers,_,?_,u⟩;rw[yo,Sem.run_bind];have I:Sem.run P (k.results.mapM (Jb A.tmps)) g=.ok q.toArray g:=by rw[Ho,Sem.run_map,B];rfl
  rw[I];simp only[Result.andThen_ok,Sem.run_pure];congr 1;rcases q with _|⟨x,_|⟨y,r⟩⟩;rfl;rfl;simp[one]
 cases e with
 |normal=>exact l f
 |ret=>exact l f
 |panic c=>exact⟨j.defers,f⟩
 |exit i=>exact f.elim
 |goto i=>exact f.elim
 |outgrown=>exact f.elim
def QF{P:cA}{a:Func}{c:Code}{args:dr}{w:cn}{R:Ending->cU}(N:Nat)
 (d:P.funcs[K]? =some a)(e:a.body=some c)(f:a.ntmps=N)(b:args.length<=N)(h:dM P N c (args.zipIdx.map λp=>(p.2,p.1)) w (QR P a.results.toList R)):Calls P K args.toArray w R:=
 L4 N d e f (QE N h) (by simpa using b)
def Tz{P:cA}{T:yg}(e:mv P T){b:Func}{c:Code}{args:dr}{w:cn}{R:Ending->cU}(N:Nat)
 (f:P.funcs[K]? =some b)(g:b.body=some c)(i:b.ntmps=N)(d:args.length<=N)(h:WC P T N c (QR P b.results.toList R) (args.zipIdx.map λp=>(p.2,p.1)) w):Calls P K args.toArray w R:=
 QF N f g i d ⟨λa j=>iA e c _ _ a w j h⟩
theorem dM.seq{P:cA}{T:yg}(g:mv P T){N:Nat}{x y:Code}{l:L}{w:cn}{Q:QW}(h:WC P T N x (L9 (λc d=>dM P N y c d Q) Q) l w):dM P N (.seq x y) l w Q:=⟨λa i=>by
 refine jX (kz (iA g x _ l a w i h) ?_);rintro e j d ⟨c,b,f⟩;cases e with
 |normal=>exact f.out j b
 |_=>exact⟨c,b,f⟩⟩
def dM.of{P:cA}{T:yg}(b:mv P T){N:Nat}{c:Code}{l:L}{w:cn}{Q:QW}(h:WC P T N c Q l w):dM P N c l w Q:=⟨λa d=>iA b c _ l a w d h⟩
def Gu(ops:Array Oper)(o:Oper):cz:=o.after.toList.filterMap λe=>if Region.binds .any e then(ops[e.on]?).bind (·.dst)else none
def im(ops:Array Oper)(o:Oper)(a:Act):cq:=.tuple ((Gu ops o).map λt=>a.eval (.tmp t)).toArray
def BB{ops:Array Oper}{o:Oper}{a b:Act}(h:∀t∈Gu ops o,a.eval (.tmp t)=b.eval (.tmp t)):im ops o a=im ops o b:=by unfold im;rw[List.map_congr_left h]
def Jc{ops:Array Oper}{o:Oper}{a b:Act}(h:im ops o a=im ops o b){t:Nat}(c:t∈Gu ops o):a.eval (.tmp t)=b.eval (.tmp t):=by
 unfold im at h;have d:((Gu ops o).map λt=>a.eval (.tmp t))=(Gu ops o).map λt=>b.eval (.tmp t):=by injection h with h;simpa using cT Array.toList h
 exact List.map_inj_left.1 d t c
def lX(ops:Array Oper)(N m:Nat):Bool:=
 (List.range ops.size).all (λi=>match ops[i]? with
  |some o=>(o.after.all λe=>decide (e.on<i)||!Region.binds .any e)&&(match o.dst with|some d=>decide (d<N)&&(List.range ops.size).all (λj=>decide (j=i)||match ops[j]? with|some a=>a.dst !=some d|none=>true)|none=>true)
  |none=>true)&&((decide (m=ops.size)||(List.range m).all λj=>(List.range (m+1)).any λk=>decide (j<k)&&waits ops k j)&&(decide (m=ops.size)||decide (m+1=ops.size)))
section
variable{P:cA}{ops:Array Oper}{Q:Exit->Act->cn->Prop}{a0:Act}{w0:cn}{N m sp:Nat}{wF:Bool->Nat->cq->cn->Prop}{E E':cn->cn->Prop}{Rch:Bool->cn->Prop}
structure BC(Rch:Bool->cn->Prop)(sp:Nat)(ops:Array Oper)(a0:Act)(N m:Nat)(wF:Bool->Nat->cq->cn->Prop)(L:Array Bool)(a:Act)(w:cn):Prop where
 size:a.tmps.size=N
 defers:a.defers=a0.defers
 keep:∀j,wrote ops j=false->a.eval (.tmp j)=a0.eval (.tmp j)
 val:∀i o d,i<m->L.getD i false=true->ops[i]? =some o->o.dst=some d->wF (L.getD sp false) i (a.eval (.tmp d)) w
 ext:Rch (L.getD sp false) w
 tail:∀i,m<=i->L.getD i false=false
 closed:∀i j,L.getD i false=true->waits ops i j=true->L.getD j false=true
 valn:∀i o,i<m->L.getD i false=true->ops[i]? =some o->o.dst=none->wF (L.getD sp false) i (im ops o a) w
 fresh:∀j,(∀k o,L.getD k false=true->ops[k]? =some o->o.dst≠some j)->a.eval (.tmp j)=a0.eval (.tmp j)
def Before(ops:Array Oper)(i j:Nat):Prop:=∀k o,ops[k]? =some o->o.dst=some j->waits ops k i=true
def Jd{ops:Array Oper}{i j:Nat}(h:wrote ops j=false):Before ops i j:=λk o a b=>by have:wrote ops j=true:=qv.2 ⟨o,mo a,by rw[b];simp⟩;rw[this]at h;cases h
def QG(ops:Array Oper)(k i:Nat):Prop:=waits ops k i=true\/∃j,waits ops k j=true/\waits ops j i=true
def mO(E E':cn->cU)(Rch:Bool->cU)(sp:Nat)(P:cA)(ops:Array Oper)(Q:Exit->Act->cU)(a0:Act)(N:Nat)(wF:Bool->Nat->nd)(i:Nat)(o:Oper):Prop:=
 ∀b a w,(i=sp\/QG ops sp i->b=false)->a.tmps.size=N->a.defers=a0.defers->(∀j,Before ops i j->a.eval (.tmp j)=a0.eval (.tmp j))->
  (∀j d,(o.after.any λe=>e.on==j&&Region.binds .any e)=true->((ops[j]?).bind (·.dst))=some d->wF b j (a.eval (.tmp d)) w)->Rch b w->
  wpOp P ops Q i (λf c=>∃v,f=a.put o.dst v/\(if i=sp then E' w c else E w c)/\wF (b||decide (i=sp)) i v c/\(o.dst=none->v=im ops o a)) a w
def qW(Rch:Bool->cU)(P:cA)(ops:Array Oper)(Q:Exit->Act->cU)(a0:Act)(N m:Nat)(wF:Bool->Nat->nd):Prop:=
 ∀b a w,a.tmps.size=N->a.defers=a0.defers->(∀j,wrote ops j=false->a.eval (.tmp j)=a0.eval (.tmp j))->(∀i d,i<m->((ops[i]?).bind (·.dst))=some d->wF b i (a.eval (.tmp d)) w)->(∀i o,i<m->ops[i]? =some o->o.dst=none->wF b i (im ops o a) w)->Rch b w->
  (m=ops.size->Q .normal a w)/\(m+1=ops.size->wpOp P ops Q m (λc e=>Q .normal c e) a w)
structure QH(E E':cn->cn->Prop)(Rch:Bool->cn->Prop)(wF:Bool->Nat->cq->cn->Prop):Prop where
 v:∀b i v w w',wF b i v w->E w w'->wF b i v w'
 x:∀i v w w',wF false i v w->E' w w'->wF true i v w'
 r:∀b w w',Rch b w->E w w'->Rch b w'
 rx:∀w w',Rch false w->E' w w'->Rch true w'
def BC.next(U:lX ops N m=true)(M:QH E E' Rch wF){L:Array Bool}{a:Act}{w:cn}(f:BC Rch sp ops a0 N m wF L a w)(hL:L.size=ops.size){i:Nat}{o:Oper}(y:ops[i]? =some o)(hm:i<m)
 {v:cq}{F:cn}(q:if i=sp then E' w F else E w F)(V:wF (L.getD sp false||decide (i=sp)) i v F)(O:o.dst=none->v=im ops o a)(z:L.getD i false=false)(A:∀j,waits ops i j=true->L.getD j false=true):BC Rch sp ops a0 N m wF (L.setIfInBounds i true) (a.put o.dst v) F:=by
 have G:(L.setIfInBounds i true).getD sp false=(L.getD sp false||decide (i=sp)):=by rw[gZ _ _ _ (by have:=(eU.1 y).1;omega)];by_cases e:i=sp;simp[e];simp[e]
 have last:∀k u,wF (L.getD sp false) k u w->wF (L.getD sp false||decide (i=sp)) k u F:=λk u h=>by by_cases e:i=sp;subst e;rw[cB rfl]at q;rw[z]at h⊢;simpa using M.x _ _ _ _ h q;rw[cy e]at q;simpa[e]using M.v _ _ _ _ _ h q
 have W:i<ops.size:=(eU.1 y).1;simp only[lX,dW]at U;have g:=mU.1 U.1 i (gR.2 W);rw[y]at g;simp only[dW]at g;refine⟨by rw[mE,f.size],by rw[tX,f.defers],λj p=>?_,λk B d l c b s=>?_,?_,λk l=>?_,λk j l p=>?_,λk B l c b s=>?_,λj p=>?_⟩;rw[qT,f.keep j p];intro e;have:wrote ops j=true:=qv.2 ⟨o,mo y,by rw[e];simp⟩;rw[this]at p;cases p;rw[G];rw[gZ _ _ _ (by omega)]at c;by_cases e:i=k;subst e;rw[y]at b;obtain rfl:=cO b;rw[s,u4];exact V;have n:=g.2;rw[s]at n;simp only[dW,iQ]at n;rw[f.size];exact n.1;rw[cy e]at c;have P:k<ops.size:=(eU.1 b).1;rw[qT];exact last _ _ (f.val k B d l c b s);intro Q;have n:=g.2;rw[Q]at n;simp only[dW,iQ]at n;have H:=mU.1 n.2 k (gR.2 P);rw[b]at H;simp[s,gh e]at H;rw[G];have I:=f.ext;by_cases e:i=sp;subst e;rw[cB rfl]at q;rw[z]at I⊢;simpa using M.rx _ _ I q;rw[cy e]at q;simpa[e]using M.r _ _ _ I q;rw[gZ _ _ _ (by omega),cy (by omega)];exact f.tail k l;rw[gZ _ _ _ (by omega)]at l⊢;split;rfl;by_cases e:i=k;subst e;exact A j p;rw[cy e]at l;exact f.closed k j l p;rw[G];rw[gZ _ _ _ (by omega)]at c;by_cases e:i=k;subst e;rw[y]at b;obtain rfl:=cO b;have X:im ops o (a.put o.dst v)=im ops o a:=by rw[s];rfl
 rw[X,<-O s];exact V;rw[cy e]at c;have C:im ops B (a.put o.dst v)=im ops B a:=by
  refine BB λt Y=>?_;obtain⟨x,I,D⟩:=List.mem_filterMap.1 Y;split at D;rename_i G;refine qT _ _ _ _ λQ=>?_;have Z:waits ops k x.on=true:=by unfold waits;rw[b];exact qv.2 ⟨x,by simpa using I,by simp[G]⟩
  have J:=f.closed k x.on c Z;have R:i≠x.on:=λh=>by rw[<-h,z]at J;cases J
  obtain⟨o2,K,S⟩:=sM.1 D;have T:x.on<ops.size:=(eU.1 K).1;have n:=g.2;rw[Q]at n;simp only[dW,iQ]at n;have H:=mU.1 n.2 x.on (gR.2 T);rw[K]at H;simp[S,gh R]at H;cases D
 rw[C];exact last _ _ (f.valn k B l c b s);rw[qT _ _ _ _ λe=>p i o (by rw[gZ _ _ _ (by omega),cB rfl]) y e];refine f.fresh j λk B l b=>p k B ?_ b;rw[gZ _ _ _ (by omega)];split;rfl;exact l
def wH{id:Nat}(hm:P.follows .mixedOrders=true)(U:lX ops N m=true)(hV:QH E E' Rch wF)(h0:Rch false w0.drew)(hN:a0.tmps.size=N) (hs:∀i o,i<m->ops[i]? =some o->mO E E' Rch sp P ops Q a0 N wF i o)(h1:qW Rch P ops Q a0 N m wF):(Code.region id ops true).wp P Q a0 w0:=by
 refine wp_region_any hm ?_;have V:m=ops.size\/m+1=ops.size:=by simp only[lX,dW,Hp,iQ]at U;exact U.2.2
 have an:m<=ops.size:=by omega
 have M:m+1=ops.size->∀j,j<m->∃k,j<k/\k<=m/\waits ops k j=true:=λao j f=>by have h:=U;simp only[lX,dW]at h;rcases Hp _ _▸h.2.1 with h|h;have:=dO h;omega;have W:=mU.1 h j (gR.2 f);obtain⟨k,hk,H⟩:=List.any_eq_true.1 W;simp only[dW,iQ]at H;have:=gR.1 hk;exact⟨k,H.1,by omega,H.2⟩
 have z:∀(i:Nat) (o:Oper),ops[i]? =some o->∀e∈o.after,Region.binds .any e=true->e.on<i:=λi o r e I hb=>by have q:i<ops.size:=(eU.1 r).1;have X:=U;simp only[lX,dW]at X;have O:=mU.1 X.1 i (gR.2 q);rw[r]at O;simp only[dW]at O;have:=uM.1 O.1 e I;simpa[hb]using this
 have A:∀L:Array Bool,L.size=ops.size->Region.ready .any ops L=[]->∀i,i<ops.size->L.getD i false=true:=by
  intro L Y hr i;induction i using Nat.strongRecOn with
  |_ i ih=>
   intro q;refine Hq λaf=>?_;have r:ops[i]? =some ops[i]:=iY q;have t:i∈Region.ready .any ops L:=by
    unfold Region.ready;refine xq.2 ⟨gR.2 q,?_⟩;simp only[dW,tE];refine⟨?_,?_⟩;have:L.getD i false=false:=by simpa using af
    have B:i<L.size:=by omega
    simp[B]at this⊢;exact this;rw[r];simp only[jJ,jI];refine uM.2 λe I=>?_;cases ag:Region.binds .any e with
    |false=>simp
    |true=>
     have Z:=z i _ r e I ag;rw[ih e.on Z (by omega)];simp
   rw[hr]at t;cases t
 have ah:∀(p:Nat) (L:Array Bool) (a:Act) (w:cn),L.size=ops.size->BC Rch sp ops a0 N m wF L a w->((List.range ops.size).countP λi=>!L.getD i false)<=p->wpAny P .any ops Q p L a w:=by
  intro p;induction p with
  |zero=>
   intro L a w Y g hc
   have n:∀i,i<ops.size->L.getD i false=true:=λi q=>by
    have h0:(List.range ops.size).countP (λi=>!L.getD i false)=0:=by omega
    have:=List.countP_eq_zero.1 h0 i (gR.2 q);simpa using this
   refine⟨?_,?_⟩;unfold Region.ready;refine KQ.2 λi q=>?_;have h:=n i (gR.1 q);have B:i<L.size:=by have:=gR.1 q;omega
   simp[B]at h⊢;intro W;rw[h]at W;cases W;have R:m=ops.size:=by rcases V with h|h;exact h;have H:=n m (by omega);rw[g.tail m (cJ _)]at H;cases H
   exact(h1 _ a w g.size g.defers g.keep (λi d q s=>by obtain⟨o,r,s⟩:=sM.1 s;exact g.val i o d q (n i (by omega)) r s) (λi o q r s=>g.valn i o q (n i (by omega)) r s) g.ext).1 R
  |succ p ih=>
   intro L a w Y g hc;refine⟨λhr=>?_,λi q=>?_⟩;have n:=A L Y hr;have R:m=ops.size:=by rcases V with h|h;exact h;have H:=n m (by omega);rw[g.tail m (cJ _)]at H;cases H
   exact(h1 _ a w g.size g.defers g.keep (λi d q s=>by obtain⟨o,r,s⟩:=sM.1 s;exact g.val i o d q (n i (by omega)) r s) (λi o q r s=>g.valn i o q (n i (by omega)) r s) g.ext).1 R
   unfold Region.ready at q;obtain⟨J,C⟩:=xq.1 q;have J:=gR.1 J;simp only[dW,tE]at C;have r:ops[i]? =some ops[i]:=iY J;rw[r]at C;simp only[jJ,jI]at C;have b:L.getD i false=false:=by
    have h:=C.1;have B:i<L.size:=by omega
    simp[B]at h⊢;exact h
   have u:∀j,(ops[i].after.any λe=>e.on==j&&Region.binds .any e)=true->L.getD j false=true:=λj f=>by obtain⟨e,I,f⟩:=qv.1 f;simp only[dW,ol]at f;have h:=uM.1 C.2 e I;rw[f.2]at h;rw[<-f.1];simpa using h
   have aa:(List.range ops.size).countP (λj=>!(L.setIfInBounds i true).getD j false)<=p:=by
    have Z:(List.range ops.size).countP (λj=>!(L.setIfInBounds i true).getD j false)<(List.range ops.size).countP (λj=>!L.getD j false):=by
     have t:=gR.2 J;generalize List.range ops.size=l at t;have S:∀l:cz,l.countP (λj=>!(L.setIfInBounds i true).getD j false)<=l.countP (λj=>!L.getD j false):=λl=>List.countP_mono_left λx _ hx=>by rw[gZ _ _ _ (by omega)]at hx;split at hx;cases hx;exact hx
     induction l with
     |nil=>cases t
     |cons x l ai=>
      rcases eO.1 t with rfl|D;rw[List.countP_cons_of_neg (by rw[gZ _ _ _ (by omega)];simp),List.countP_cons_of_pos (by rw[b];rfl)];exact Nat.lt_succ_of_le (S l);have W:=ai D;rw[List.countP_cons,List.countP_cons];have H:(if(!(L.setIfInBounds i true).getD x false)=true then 1 else 0)<=(if(!L.getD x false)=true then 1 else 0):=by rw[gZ _ _ _ (by omega)];split;simp;exact cJ _
      omega
    omega
   rcases fj i m with D|D
   have aj:=hs i ops[i] D r (L.getD sp false) a w (λe=>by
    rcases e with e|e;rw[<-e];exact b;cases ab:L.getD sp false with
    |false=>rfl
    |true=>
     rcases e with e|⟨j,e1,e2⟩;rw[g.closed sp i ab e]at b;cases b;rw[g.closed j i (g.closed sp j ab e1) e2]at b;cases b) g.size g.defers (λj f=>g.fresh j λk o hk r e=>by
    have:=g.closed k i hk (f k o r e);rw[b]at this;cases this) (λj d f s=>by
    obtain⟨o',F,s⟩:=sM.1 s;have ap:j<i:=by obtain⟨e,I,f⟩:=qv.1 f;simp only[dW,ol]at f;rw[<-f.1];exact z i _ r e I f.2
    exact g.val j o' d (by omega) (u j f) F s) g.ext
   refine wpOp_mono (λa' w' h=>?_) aj;obtain⟨v,rfl,I,hv,ak⟩:=h;exact ih _ _ _ (by simp[Y]) (g.next U hV Y r D I hv ak b λj f=>u j (by unfold waits at f;rw[r]at f;exact f)) aa;have G:m+1=ops.size:=by omega
   obtain rfl:i=m:=by omega
   have y:∀c j,j+c=i->0<c->L.getD j false=true:=by
    intro c;induction c using Nat.strongRecOn with
    |_ c al=>
     intro j f aq;obtain⟨k,ar,au,K⟩:=M G j (by omega);rcases fj k i with am|am;exact g.closed k j (al (i-k) (by omega) k (by omega) (by omega)) K;obtain rfl:k=i:=by omega
     refine u j ?_;unfold waits at K;rw[r]at K;exact K
   have ac:=(h1 _ a w g.size g.defers g.keep (λj d f s=>by obtain⟨o',F,s⟩:=sM.1 s;exact g.val j o' d f (y (i-j) j (by omega) (by omega)) F s) (λj o' f F s=>g.valn j o' f (y (i-j) j (by omega) (by omega)) F s) g.ext).2 G;refine wpOp_mono (λa' w' h=>?_) ac;have n:∀j,j<ops.size->(L.setIfInBounds i true).getD j false=true:=λj f=>by rw[gZ _ _ _ (by omega)];split;rfl;exact y (i-j) j (by omega) (by omega)
   have ad:Region.ready .any ops (L.setIfInBounds i true)=[]:=by
    unfold Region.ready;refine KQ.2 λj f=>?_;have h:=n j (gR.1 f);have ae:j<(L.setIfInBounds i true).size:=by have:=gR.1 f;simp;omega
    rw[wx,iY ae]at h;rw[wx,iY ae];simp only[jI]at h⊢;rw[h];simp
   cases p with
   |zero=>exact⟨ad,h⟩
   |succ p=>exact⟨λ_=>h,λj f=>by rw[ad]at f;cases f⟩
 refine ah _ _ _ _ (by simp) ⟨hN,rfl,λ_ _=>rfl,λi o d _ T _ _=>?_,?_,λi _=>?_,λi j q _=>?_,λi o _ T _ _=>?_,λ_ _=>rfl⟩ ?_;simp[wx,sj]at T;split at T<;>simp at T;have:(Array.replicate ops.size false).getD sp false=false:=by simp only[wx,sj];split<;>rfl
 rw[this];exact h0;simp only[wx,sj];split<;>rfl;simp[wx,sj]at q;split at q<;>simp at q;simp[wx,sj]at T;split at T<;>simp at T;exact cZ List.countP_le_length (by simp)
end
end Go.Proofs.W
variable{x y z:cq}{D E:Bool}
namespace Go.Proofs.W
open Go.RowKit
abbrev gy:=cq->cn->Prop
def yp{a:Type}(f:a->Bool):List a->Bool
 |[]=>false
 |x::r=>match f x with
  |true=>true
  |false=>yp f r
def QI:Option Nat->Nat->Bool
 |some d,t=>Nat.beq d t
 |none,_=>false
def SC(a:List Oper)(t:Nat):Bool:=yp (λo=>QI o.dst t) a
def wI(a:List Oper)(o:Oper)(t:Nat):Bool:=match SC a t with
 |false=>true
 |true=>yp (λe=>match Region.binds .any e with
  |true=>QI (yh a e.on) t
  |false=>false) o.after.toList
def rd:dw->cz
 | .tmp t=>[t]
 |_=>[]
def Un:List dw->cz
 |[]=>[]
 |x::r=>rd x++Un r
def Va:List (Nat×dw)->cz
 |[]=>[]
 |x::r=>rd x.2++Va r
def Uo:Option dw->cz
 |none=>[]
 |some x=>rd x
def Pa:Op->cz
 | .move x=>rd x
 | .assign x=>rd x
 | .nilCheck x=>rd x
 | .fieldAddr _ x _=>rd x
 | .extract x _=>rd x
 | .field _ x _=>rd x
 | .load _ x=>rd x
 | .box _ x=>rd x
 | .unOp _ _ x=>rd x
 | .convert _ _ x=>rd x
 | .pick c x y=>rd c++(rd x++rd y)
 | .store _ x y=>rd x++rd y
 | .binOp _ _ x y _=>rd x++rd y
 | .makeSlice _ x y=>rd x++rd y
 | .indexAddr _ x y=>rd x++rd y
 | .index _ x y=>rd x++rd y
 | .lookup _ x y _=>rd x++rd y
 | .mapUpdate _ m x y=>rd m++(rd x++rd y)
 | .build _ d=>Va d.toList
 | .buildSlice _ _ d=>Va d.toList
 | .makeFunc _ a b=>Un a.toList++Un b.toList
 | .makeMap _ r=>Uo r
 | .slice _ x a b c=>rd x++(Uo a++(Uo b++Uo c))
 | .call c=>(match c.callee with
  | .value f=>rd f
  |_=>[])++Un c.args.toList
 |_=>[]
def Pb(a:List Oper)(o:Oper):cz:=match o.guard with
 |none=>[]
 |some (g,_)=>match yh a g with
  |some d=>[d]
  |none=>[]
def qX(c:Nat->Bool)(l:L):cz->L
 |[]=>[]
 |t::r=>match c t with
  |true=>(match lk l t with
   |some v=>(t,v)::qX c l r
   |none=>qX c l r)
  |false=>qX c l r
def mw(c:Nat->Bool):List (Nat×gy)->List (Nat×gy)
 |[]=>[]
 |p::r=>match c p.1 with
  |true=>p::mw c r
  |false=>mw c r
def yq(a:List Oper)(o:Oper):cz:=Pa o.op++Pb a o
def wJ:List (Nat×gy)->cn->(L->Prop)->Prop
 |[],_,f=>f []
 |p::r,w,f=>∀v,p.2 v w->wJ r w λl=>f ((p.1,v)::l)
def DU(l:L):cz->Option dr
 |[]=>some []
 |t::r=>match lk l t with
  |some v=>(match DU l r with
   |some a=>some (v::a)
   |none=>none)
  |none=>none
abbrev zW:=List Nat×(List cq->cn->Prop)
def yr:List zW->L->cn->Prop->Prop
 |[],_,_,X=>X
 |p::r,l,w,X=>match DU l p.1 with
  |some a=>p.2 a w->yr r l w X
  |none=>yr r l w X
inductive vS (E E':cn->cn->Prop) (w:cn) (f:cn->(cq->cn->Prop)->Prop) (kx:cq->Prop) (kr:gy->Prop) (kp:gy->Prop) (lb:Bool) (kl:gy->Prop) (ea:Bool):Prop
 |exact(v:cq) (h:∀w1,E' w w1->f w1 λu w2=>u=v/\E w1 w2) (k:kx v)
 |rel (R:gy) (st:∀v a b,R v a->E' a b->R v b) (h:∀w1,E' w w1->f w1 λu w2=>R u w2/\E w1 w2) (k:kr R)
 |Je (R:gy) (st:∀v a b,R v a->E a b->R v b) (h:∀w1,E' w w1->f w1 λu w2=>R u w2/\E w1 w2) (k:kp R)
 |late (hb:lb=true) (R:gy) (st:∀v a b,R v a->E a b->R v b) (h:∀w1,E' w w1->f w1 λu w2=>R u w2/\E w1 w2) (k:kl R)
 |early (he:ea=true) (R:gy) (st:∀v a b,R v a->E a b->R v b) (h:∀w1,E w w1->f w1 λu w2=>R u w2/\E w1 w2) (k:kp R)
 |BD (he:ea=true) (v:cq) (h:∀w1,E w w1->f w1 λu w2=>u=v/\E w1 w2) (k:kx v)
inductive Vb (E1 E2 Es:cn->cn->Prop) (w:cn) (f:cn->(List cq->cn->Prop)->Prop) (kj:(List cq->cn->Prop)->Prop):Prop
 |vT (J:List cq->cn->Prop) (st:∀vs a b,J vs a->Es a b->J vs b) (h:∀w1,E1 w w1->f w1 λvs w2=>J vs w2/\E2 w1 w2) (k:kj J)
def DV:List (Nat×gy)->cz
 |[]=>[]
 |p::r=>p.1::DV r
def Jf:L->dr
 |[]=>[]
 |p::r=>p.2::Jf r
def Mb(T:yg)(e:cz)(l:L):Op->Option cq
 | .move x=>ev l x
 | .assign x=>ev l x
 | .pick (.tmp c) x y=>match lk l c with
  |some (.bool b)=>(match mem c e with
   |true=>(match b with
    |true=>ev l x
    |false=>ev l y)
   |false=>none)
  |_=>none
 | .nilCheck x=>match ev l x with
  |some (.pointer (some f))=>some (.pointer (some f))
  |_=>none
 | .fieldAddr S x i=>match ev l x with
  |some (.pointer (some ⟨b,o,none⟩))=>(match T.off S i with
   |some d=>some (.pointer (some ⟨b,o+d,none⟩))
   |none=>none)
  |_=>none
 | .extract x i=>match ev l x with
  |some (.tuple g)=>nth g.toList i
  |_=>none
 | .makeFunc h first a=>match evs l first.toList with
  |some j=>(match evs l a.toList with
   |some k=>some (.func h j.toArray k.toArray)
   |none=>none)
  |none=>none
 |_=>none
def DX{P:cA}{T:yg}{j:cz}{l:L}{w:cn}{o:Oper}{k:nd}{s:cU}{pan:List PanicEntry->cU}(h:Mb T j l o.op=some x)(e:k x w):Cm P T j l w o k s pan:=by
 unfold Cm;unfold Mb at h;split at h;case h_1 f a=>simp only[a,h];exact e
 case h_2 f a=>simp only[a,h];exact e
 case h_3 c f y a=>
  simp only[a];split at h;rename_i b m;try simp only[m]
  split at h;rename_i n;try simp only[n]
  cases b with
  |true=>simp only at h⊢;simp only[h];exact e
  |false=>simp only at h⊢;simp only[h];exact e
  cases h
  cases h
 case h_4 f a=>
  simp only[a];split at h;rename_i u g;obtain rfl:=cO h;simp only[g];exact e;cases h
 case h_5 S f i a=>
  simp only[a];split at h;rename_i b p g;split at h;rename_i d q;obtain rfl:=cO h;(try simp only[g,q]);exact e;cases h;cases h
 case h_6 f i a=>
  simp only[a];split at h;rename_i v g;simp only[g,h];exact e;cases h
 case h_7 z first cap a=>
  simp only[a];split at h;rename_i A r;split at h;rename_i B t;obtain rfl:=cO h;(try simp only[r,t]);exact e;cases h;cases h
 case h_8=>cases h
def Gv(o:Oper)(r:List Oper):Bool:=match r,o.dst,o.guard with
 |[],none,none=>true
 |_,_,_=>false
def Pc{a:Type}(f:a->Bool):List a->Bool
 |[]=>true
 |x::r=>match f x with
  |true=>Pc f r
  |false=>false
def early0(a:List Oper)(i t:Nat):Bool:=match SC a t with
 |false=>false
 |true=>Pc (λo=>match QI o.dst t with
  |true=>yp (λe=>match Region.binds .any e with
   |true=>Nat.beq e.on i
   |false=>false) o.after.toList
  |false=>true) a
def pD(c e:Nat->Bool)(l a:L):cz->L
 |[]=>[]
 |t::r=>match c t with
  |true=>(match lk l t with
   |some v=>(t,v)::pD c e l a r
   |none=>pD c e l a r)
  |false=>(match e t with
   |true=>(match lk a t with
    |some v=>(t,v)::pD c e l a r
    |none=>pD c e l a r)
   |false=>pD c e l a r)
def Pd(a:List Oper)(i:Nat)(o:Oper)(l b:L):L:=pD (wI a o) (early0 a i) l b (yq a o)
def zX(d:Option Nat)(R:gy)(a:List (Nat×gy)):List (Nat×gy):=match d with
 |some d=>(d,R)::a
 |none=>a
def Mc(a:List Oper)(sp i:Nat):Bool:=match nth a sp with
 |some o=>yp (λe=>match Region.binds .any e with
  |true=>Nat.beq e.on i
  |false=>false) o.after.toList
 |none=>false
def qY(a:List Oper)(sp i:Nat):Bool:=match nth a sp with
 |some o=>yp (λe=>match Region.binds .any e with
  |true=>(match Nat.beq e.on i with
   |true=>true
   |false=>Mc a e.on i)
  |false=>false) o.after.toList
 |none=>false
def RD(b:Bool):List (Nat×gy)->List (Nat×gy)->List (Nat×gy)
 |[],a=>a
 |p::r,a=>match b with
  |true=>p::(r++a)
  |false=>a
def Md{a b:List (Nat×gy)}{p:Nat×gy}(h:p∈RD D a b):p∈b\/(D=true/\p∈a):=by
 cases a with
 |nil=>exact .inl h
 |cons q r=>
  cases D with
  |false=>exact .inl h
  |true=>
   rcases eO.1 h with rfl|h;exact .inr ⟨rfl,iP⟩;rcases jH.1 h with h|h;exact .inr ⟨rfl,iw _ h⟩;exact .inl h
def DY(P:Program)(T:yg)(N:Nat)(pn:List PanicEntry->World->Prop)(E E':World->World->Prop)(a:List Oper)(w:World)(i:Nat)(e:L)(o:Oper)(f:List Nat)(l:L)(b c:List (Nat×gy))(j g:Bool)(d:L->List (Nat×gy)->List (Nat×gy)->Bool->Prop):Prop:=
 match Mb T f (Pd a i o l e) o.op with
 |some v=>d (ins N o.dst v l) b c false
 |none=>vS E E' w (λh k=>wJ (RD g (mw (wI a o) c) (mw (wI a o) b)) h λm=>Cm P T f (m++Pd a i o l e) h o k (λ_=>False) pn)
  (λv=>d (ins N o.dst v l) b c false) (λR=>d l (zX o.dst R b) c false) (λR=>d l b (zX o.dst R c) false) j (λR=>d l (zX o.dst R b) c true) g
def TA(P:cA)(T:yg)(E E':cn->cU)(a:List Oper)(w:cn)(o:Oper)(e:cz)(l:L)(b:List (Nat×gy))(f:zW->Prop):Prop:=
 Vb E' E E' w (λc g=>wJ (mw (wI a o) b) c λd=>Cm P T e (d++qX (wI a o) l (yq a o)) c o (λ_ _=>False) (λh=>g (Jf d) h) λ_ _=>False)
  (λJ=>f (DV (mw (wI a o) b),J))
def runT(P:cA)(T:yg)(E E':cn->cU)(a:List Oper)(w:cn)(o:Oper)(f:cz)(l:L)(b c:List (Nat×gy))(g:zW->Prop):Prop:=
 Vb E E' E w (λd h=>wJ (mw (wI a o) c++mw (wI a o) b) d λe=>Cm P T f (e++qX (wI a o) l (yq a o)) d o (λ_ _=>False) (λi=>h (Jf e) i) λ_ _=>False)
  (λJ=>g (DV (mw (wI a o) c++mw (wI a o) b),J))
inductive Xs (E E':cn->cn->Prop) (w:cn) (f:cn->(cq->cn->Prop)->Prop) (kr:gy->Prop):Prop
 |spec (R:gy) (st:∀v a b,R v a->E a b->R v b) (h:∀w1,E w w1->f w1 λu w2=>R u w2/\E' w1 w2) (k:kr R)
def TB(P:cA)(T:yg)(pn:List PanicEntry->cU)(E E':cn->cU)(a:List Oper)(w:cn)(o:Oper)(c:cz)(l:L)(d e:List (Nat×gy))(f:gy->Prop):Prop:=
 Xs E E' w (λb g=>wJ (mw (wI a o) e++mw (wI a o) d) b λh=>Cm P T c (h++qX (wI a o) l (yq a o)) b o g (λ_=>False) pn) f
def yu:List (Nat×gy)->List (Nat×gy)->List (Nat×gy)
 |[],a=>a
 |p::r,a=>(p.1,λ_ _=>True)::yu r a
def tZ(a:cz)(o:Oper):Bool:=match o.dst with
 |some _=>yp (λe=>match Region.binds .any e with
  |true=>mem e.on a
  |false=>false) o.after.toList
 |none=>false
def Gw(b:Bool)(i:Nat)(a:cz):cz:=match b with
 |true=>i::a
 |false=>a
def H4(o:Oper):Bool:=match o.dst,o.guard with
 |none,none=>(match o.op with
  | .store _ _ _=>true
  | .mapUpdate _ _ _ _=>true
  |_=>false)
 |_,_=>false
def DW(P:cA)(T:yg)(N:Nat)(pn:List PanicEntry->cn->Prop)(E E':cn->cn->Prop)(sp:Nat)(a:List Oper)(w:cn)(j:L)(K:L->cn->Prop):Nat->List Oper->List Nat->L->List (Nat×gy)->List (Nat×gy)->List zW->List Nat->Prop
 |_,[],_,l,h,n,q,k=>∀s,E' w s->wJ h s λm=>yr q m s (K (m++l) s)
 |i,o::r,c,l,h,n,q,k=>match Gv o r with
  |true=>∀s,E' w s->wJ h s λm=>yr q m s (Cm P T [] (m++l) s o (λ_ _=>False) (λv=>K (m++l) v) λ_ _=>False)
  |false=>match H4 o with
  |true=>(match Nat.beq i sp with
   |true=>runT P T E E' a w o c l h n λp=>DW P T N pn E E' sp a w j K (i+1) r c l (yu n h) [] (p::q) k
   |false=>TA P T E E' a w o c l h λp=>DW P T N pn E E' sp a w j K (i+1) r c l h n (p::q) k)
  |false=>SB N o.dst (match o.guard with
   |none=>(match Nat.beq i sp with
    |true=>TB P T pn E E' a w o c l h n λR=>DW P T N pn E E' sp a w j K (i+1) r c l (zX o.dst R (yu n h)) [] q (match o.dst with
     |some _=>[i]
     |none=>[])
    |false=>DY P T N pn E E' a w i j o c l h n (tZ k o) (qY a sp i) λm e f t=>DW P T N pn E E' sp a w j K (i+1) r c m e f q (Gw t i k))
   |some (g,u)=>(match yh a g with
    |none=>False
    |some d=>match wI a o d with
     |false=>False
     |true=>match lk l d with
      |some (.bool b)=>(match mem d c with
       |true=>(match b,u with
        |true,true=>DY P T N pn E E' a w i j o c l h n (tZ k o) (qY a sp i) λm e f t=>DW P T N pn E E' sp a w j K (i+1) r c m e f q (Gw t i k)
        |false,false=>DY P T N pn E E' a w i j o c l h n (tZ k o) (qY a sp i) λm e f t=>DW P T N pn E E' sp a w j K (i+1) r c m e f q (Gw t i k)
        |_,_=>DW P T N pn E E' sp a w j K (i+1) r c (ins N o.dst undef l) h n q k)
       |false=>(match u with
        |true=>(b=true->DY P T N pn E E' a w i j o (d::c) ((d,.bool true)::l) h n (tZ k o) (qY a sp i) λm e f t=>DW P T N pn E E' sp a w j K (i+1) r (d::c) m e f q (Gw t i k))/\
         (b=false->DW P T N pn E E' sp a w j K (i+1) r (d::c) (ins N o.dst undef ((d,.bool false)::l)) h n q k)
        |false=>(b=true->DW P T N pn E E' sp a w j K (i+1) r (d::c) (ins N o.dst undef ((d,.bool true)::l)) h n q k)/\
         (b=false->DY P T N pn E E' a w i j o (d::c) ((d,.bool false)::l) h n (tZ k o) (qY a sp i) λm e f t=>DW P T N pn E E' sp a w j K (i+1) r (d::c) m e f q (Gw t i k))))
      |some (.tuple _)=>DW P T N pn E E' sp a w j K (i+1) r c (ins N o.dst undef l) h n q k
      |_=>False))
def vU(a:List Oper):L->L
 |[]=>[]
 |p::r=>match SC a p.1 with
  |true=>vU a r
  |false=>p::vU a r
def sF:List Oper->Nat
 |[]=>0
 |o::r=>match Gv o r with
  |true=>0
  |false=>sF r+1
section
variable{P:cA}{T:yg}{N m sp:Nat}{pn:List PanicEntry->cn->Prop}{E E':cn->cn->Prop}{ops:Array Oper}{w0:cn}{a0:Act}{K:L->cn->Prop}{Q:Exit->Act->cn->Prop}
theorem lY{a:Type}{f:a->Bool}:∀{l:List a},yp f l=true->∃x∈l,f x=true
 |x::r,h=>by simp only[yp]at h;split at h;rename_i b;exact⟨x,iP,b⟩;obtain⟨y,c,d⟩:=lY h;exact⟨y,iw _ c,d⟩
theorem H5{a:Type}{f:a->Bool}:∀{l:List a} {x:a},x∈l->f x=true->yp f l=true
 |y::r,x,h,b=>by simp only[yp];rcases eO.1 h with rfl|h;rw[b];split;rfl;exact H5 h b
def wY{d:Option Nat}{t:Nat}:QI d t=true↔d=some t:=by
 cases d with
 |none=>simp[QI]
 |some d=>
  simp only[QI,fO];exact⟨gM,λh=>by rw[h];exact vG t⟩
def rR{ops:Array Oper}{t:Nat}:SC ops.toList t=wrote ops t:=by
 cases h:SC ops.toList t with
 |true=>
  obtain⟨o,a,b⟩:=lY h;exact(qv.2 ⟨o,by simpa using a,by simpa using wY.1 b⟩).symm
 |false=>
  cases b:wrote ops t with
  |false=>rfl
  |true=>
   obtain⟨o,a,c⟩:=qv.1 b;have:=H5 (f:=λo=>QI o.dst t) (by simpa using a:o∈ops.toList) (wY.2 (by simpa using c));unfold SC at h;rw[h]at this;cases this
def Jg(e:lX ops N m=true){i j t:Nat}{o f:Oper}(g:ops[i]? =some o)(c:ops[j]? =some f)(h:o.dst=some t)(k:f.dst=some t):i=j:=by have l:i<ops.size:=(eU.1 g).1;have n:j<ops.size:=(eU.1 c).1;simp only[lX,dW]at e;have a:=mU.1 e.1 i (gR.2 l);rw[g]at a;simp only[dW]at a;have d:=a.2;rw[h]at d;simp only[dW,iQ]at d;have b:=mU.1 d.2 j (gR.2 n);rw[c]at b;simp only[k,Hp,iQ]at b;rcases b with b|b;exact b.symm;simp at b
structure Cons(ops:Array Oper)(a0:Act)(i:Nat)(S:Nat->Bool->gy)(l:L)(rs ps:List (Nat×gy))(js:List zW):Prop where
 l:∀t v,lk l t=some v->(wrote ops t=false/\a0.eval (.tmp t)=v)\/∃j o,j<i/\ops[j]? =some o/\o.dst=some t/\∀b u w,S j b u w->u=v
 r:∀p∈rs,∃j o,j<i/\ops[j]? =some o/\o.dst=some p.1/\∀b u w,S j b u w->p.2 u w
 p:∀p∈ps,∃j o,j<i/\ops[j]? =some o/\o.dst=some p.1/\∀u w,S j false u w->p.2 u w
 j:∀p∈js,∃j o,j<i/\ops[j]? =some o/\o.dst=none/\∀b a w,S j b (im ops o a) w->p.2 (p.1.map λt=>a.eval (.tmp t)) w
structure At(ops:Array Oper)(a0:Act)(N i:Nat)(S:Nat->Bool->gy)(b:Bool)(D:Nat->Prop)(a:Act)(w:cn):Prop where
 size:a.tmps.size=N
 defers:a.defers=a0.defers
 keep:∀j,Before ops i j->a.eval (.tmp j)=a0.eval (.tmp j)
 val:∀j d,D j->((ops[j]?).bind (·.dst))=some d->S j b (a.eval (.tmp d)) w
def nB(I:lX ops N m=true){i:Nat}{S n:Nat->Bool->gy}{l:L}{J:List zW}{C E:List (Nat×gy)}(q:Cons ops a0 i S l C E J)(s:∀j,j<i->n j=S j){o:Oper}{a:Act}{w:cn}
 (F:At ops a0 N i n D (λj=>(o.after.any λe=>e.on==j&&Region.binds .any e)=true) a w){t:Nat}(u:wI ops.toList o t=true):(∀v,lk l t=some v->a.eval (.tmp t)=v)/\(∀p∈C,p.1=t->p.2 (a.eval (.tmp t)) w)/\(D=false->∀p∈E,p.1=t->p.2 (a.eval (.tmp t)) w):=by
 have g:wrote ops t=true->∀j f,ops[j]? =some f->f.dst=some t->n j D (a.eval (.tmp t)) w:=λx j f b c=>by
  unfold wI at u;rw[rR,x]at u;obtain⟨e,K,y⟩:=lY u;split at y;rename_i M;have G:=wY.1 y;rw[mN]at G;have H:(ops[e.on]?).bind (·.dst)=some t:=by simpa using G
  obtain⟨P,z,A⟩:=sM.1 H;obtain rfl:=Jg I z b A c;exact F.val _ _ (qv.2 ⟨e,by simpa using K,by simp[M]⟩) H;cases y
 have d:∀{j:Nat} {f:Oper},ops[j]? =some f->f.dst=some t->wrote ops t=true:=λb c=>qv.2 ⟨_,mo b,by simp[c]⟩;refine⟨λv O=>?_,?_,?_⟩;rcases q.l t v O with⟨x,h⟩|⟨j,f,k,b,c,h⟩;rw[F.keep t (Jd x)];exact h;have:=g (d b c) j f b c;rw[s j k]at this;exact h _ _ _ this;rintro p B rfl;obtain⟨j,f,k,b,c,h⟩:=q.r p B;have:=g (d b c) j f b c;rw[s j k]at this;exact h _ _ _ this;rintro rfl p B rfl;obtain⟨j,f,k,b,c,h⟩:=q.p p B;have:=g (d b c) j f b c;rw[s j k]at this;exact h _ _ this
theorem qZ{c:Nat->Bool}{l:L}{a:Act}(h:∀t,c t=true->∀v,lk l t=some v->a.eval (.tmp t)=v):∀(d:cz) (t:Nat) (v:cq),lk (qX c l d) t=some v->a.eval (.tmp t)=v
 |[],t,v,b=>by cases b
 |x::r,t,v,b=>by simp only[qX]at b;split at b;rename_i e;split at b;rename_i u f;simp only[lk]at b;split at b;rename_i g;obtain rfl:=gM g;obtain rfl:=cO b;exact h x e _ f;exact qZ h r t v b;exact qZ h r t v b;exact qZ h r t v b
theorem yw{a:Act}{w:cn}:∀{d:List (Nat×gy)} {f:L->Prop},wJ d w f->(∀p∈d,p.2 (a.eval (.tmp p.1)) w)->∃c,f c/\∀t v,lk c t=some v->a.eval (.tmp t)=v
 |[],f,h,_=>⟨[],h,λt v b=>by cases b⟩
 |p::r,f,h,e=>by obtain⟨c,g,i⟩:=yw (h _ (e p iP)) λq j=>e q (iw _ j);refine⟨_,g,λt v b=>?_⟩;simp only[lk]at b;split at b;rename_i k;obtain rfl:=gM k;exact cO b;exact i t v b
def BE{l a:L}{t:Nat}(h:lk (a++l) t=some x):lk a t=some x\/lk l t=some x:=by
 induction a with
 |nil=>exact .inr h
 |cons p r b=>
  simp only[qx,lk]at h⊢;split at h;exact .inl h;exact b h
theorem fq{c:Nat->Bool}:∀{a:List (Nat×gy)} {p:Nat×gy},p∈mw c a->p∈a/\c p.1=true
 |q::r,p,h=>by simp only[mw]at h;split at h;rename_i b;rcases eO.1 h with rfl|h;exact⟨iP,b⟩;exact⟨iw _ (fq h).1,(fq h).2⟩;exact⟨iw _ (fq h).1,(fq h).2⟩
def oB(o:Oper)(j:Nat):Prop:=(o.after.any λe=>e.on==j&&Region.binds .any e)=true
theorem Cons.ins{i:Nat}{S s:Nat->Bool->gy}{l:L}{A:List zW}{B C:List (Nat×gy)}(v:Cons ops a0 i S l B C A)(y:∀j,j<i->s j=S j){o:Oper}(E:ops[i]? =some o)(F:∀d,o.dst=some d->∀b u w,s i b u w->u=x):Cons ops a0 (i+1) s (W.ins N o.dst x l) B C A:=by
 have e:∀t u,lk l t=some u->(wrote ops t=false/\a0.eval (.tmp t)=u)\/∃j o,j<i+1/\ops[j]? =some o/\o.dst=some t/\∀b D w,s j b D w->D=u:=λt u h=>by rcases v.l t u h with h|⟨j,f,g,k,m,n⟩;exact .inl h;exact .inr ⟨j,f,by omega,k,m,by rw[y j g];exact n⟩
 refine⟨λt u c=>?_,λp q=>?_,λp q=>?_,λp q=>?_⟩;cases z:o.dst with
 |none=>rw[z]at c;exact e t u c
 |some d=>
  rw[z]at c;simp only[W.ins]at c;split at c;simp only[lk]at c;split at c;rename_i G;obtain rfl:=gM G;obtain rfl:=cO c;exact .inr ⟨i,o,by omega,E,z,F _ z⟩;exact e t u c;exact e t u c
 obtain⟨j,f,g,k,m,n⟩:=v.r p q;exact⟨j,f,by omega,k,m,by rw[y j g];exact n⟩;obtain⟨j,f,g,k,m,n⟩:=v.p p q;exact⟨j,f,by omega,k,m,by rw[y j g];exact n⟩;obtain⟨j,f,g,k,m,n⟩:=v.j p q;exact⟨j,f,by omega,k,m,λb a w h=>n b a w (by rw[<-y j g];exact h)⟩
def Cons.u6{i:Nat}{S:Nat->Bool->gy}{l:L}{c:List zW}{e f:List (Nat×gy)}(a:Cons ops a0 i S l e f c){d:Nat}(g:lk l d=some x):Cons ops a0 i S ((d,x)::l) e f c:=by refine⟨λt u b=>?_,a.r,a.p,a.j⟩;simp only[lk]at b;split at b;rename_i h;obtain rfl:=gM h;obtain rfl:=cO b;exact a.l _ _ g;exact a.l t u b
theorem Cons.zX{i:Nat}{S q:Nat->Bool->gy}{l:L}{z:List zW}{y A:List (Nat×gy)}(s:Cons ops a0 i S l y A z)(v:∀j,j<i->q j=S j){o:Oper}(B:ops[i]? =some o){R:gy}(C:∀d,o.dst=some d->∀b u w,q i b u w->R u w):Cons ops a0 (i+1) q l (W.zX o.dst R y) A z:=by
 have n:∀p∈y,∃j o,j<i+1/\ops[j]? =some o/\o.dst=some p.1/\∀b u w,q j b u w->p.2 u w:=λp c=>by obtain⟨j,e,f,g,k,m⟩:=s.r p c;exact⟨j,e,by omega,g,k,by rw[v j f];exact m⟩
 refine⟨λt u h=>?_,λp c=>?_,λp c=>?_,λp c=>?_⟩;rcases s.l t u h with h|⟨j,e,f,g,k,m⟩;exact .inl h;exact .inr ⟨j,e,by omega,g,k,by rw[v j f];exact m⟩;cases x:o.dst with
 |none=>rw[x]at c;exact n p c
 |some d=>
  rw[x]at c;rcases eO.1 c with rfl|c;exact⟨i,o,by omega,B,x,C _ x⟩;exact n p c
 obtain⟨j,e,f,g,k,m⟩:=s.p p c;exact⟨j,e,by omega,g,k,by rw[v j f];exact m⟩;obtain⟨j,e,f,g,k,m⟩:=s.j p c;exact⟨j,e,by omega,g,k,λb a w h=>m b a w (by rw[<-v j f];exact h)⟩
def Cons.Vd{i:Nat}{S q:Nat->Bool->gy}{l:L}{v x:List (Nat×gy)}{y:List zW}(m:Cons ops a0 i S l v x y)(n:∀j,j<i->q j=S j){o:Oper}(z:ops[i]? =some o)(A:o.dst=none){s:zW}(B:∀b a w,q i b (im ops o a) w->s.2 (s.1.map λt=>a.eval (.tmp t)) w):Cons ops a0 (i+1) q l v x (s::y):=by refine⟨λt u h=>?_,λp c=>?_,λp c=>?_,λp c=>?_⟩;rcases m.l t u h with h|⟨j,d,e,f,g,k⟩;exact .inl h;exact .inr ⟨j,d,by omega,f,g,by rw[n j e];exact k⟩;obtain⟨j,d,e,f,g,k⟩:=m.r p c;exact⟨j,d,by omega,f,g,by rw[n j e];exact k⟩;obtain⟨j,d,e,f,g,k⟩:=m.p p c;exact⟨j,d,by omega,f,g,by rw[n j e];exact k⟩;rcases eO.1 c with rfl|c;exact⟨i,o,by omega,z,A,B⟩;obtain⟨j,d,e,f,g,k⟩:=m.j p c;exact⟨j,d,by omega,f,g,λb a w h=>k b a w (by rw[<-n j e];exact h)⟩
theorem AB:∀{b a:List (Nat×gy)} {p:Nat×gy},p∈yu b a->p∈a\/∃q∈b,p=(q.1,λ_ _=>True)
 |[],a,p,h=>.inl h
 |q::r,a,p,h=>by rcases eO.1 h with rfl|h;exact .inr ⟨q,iP,rfl⟩;rcases AB h with h|⟨x,c,d⟩;exact .inl h;exact .inr ⟨x,iw _ c,d⟩
def Cons.Wn{i:Nat}{S:Nat->Bool->gy}{l:L}{c d:List (Nat×gy)}{e:List zW}(a:Cons ops a0 i S l c d e):Cons ops a0 i S l (yu d c) [] e:=by refine⟨a.l,λp b=>?_,(λp b=>by cases b),a.j⟩;rcases AB b with h|⟨q,f,rfl⟩;exact a.r p h;obtain⟨j,o,g,k,m,_⟩:=a.p q f;exact⟨j,o,g,k,m,λ_ _ _ _=>trivial⟩
def Cons.TC{i:Nat}{S q:Nat->Bool->gy}{l:L}{z y:List (Nat×gy)}{A:List zW}(s:Cons ops a0 i S l z y A)(v:∀j,j<i->q j=S j){o:Oper}(B:ops[i]? =some o){R:gy}(C:∀d,o.dst=some d->q i false=R):Cons ops a0 (i+1) q l z (W.zX o.dst R y) A:=by
 have n:∀p∈y,∃j o,j<i+1/\ops[j]? =some o/\o.dst=some p.1/\∀u w,q j false u w->p.2 u w:=λp c=>by obtain⟨j,e,f,g,k,m⟩:=s.p p c;exact⟨j,e,by omega,g,k,by rw[v j f];exact m⟩
 refine⟨λt u h=>?_,λp c=>?_,λp c=>?_,λp c=>?_⟩;rcases s.l t u h with h|⟨j,e,f,g,k,m⟩;exact .inl h;exact .inr ⟨j,e,by omega,g,k,by rw[v j f];exact m⟩;obtain⟨j,e,f,g,k,m⟩:=s.r p c;exact⟨j,e,by omega,g,k,by rw[v j f];exact m⟩;cases x:o.dst with
 |none=>rw[x]at c;exact n p c
 |some d=>
  rw[x]at c;rcases eO.1 c with rfl|c;exact⟨i,o,by omega,B,x,λu w h=>by rw[C _ x]at h;exact h⟩;exact n p c
 obtain⟨j,e,f,g,k,m⟩:=s.j p c;exact⟨j,e,by omega,g,k,λb a w h=>m b a w (by rw[<-v j f];exact h)⟩
structure Told(E E':cn->cn->Prop)(R:Bool->gy):Prop where
 e:∀b v w w',R b v w->E w w'->R b v w'
 x:∀v w w',R false v w->E' w w'->R true v w'
theorem H6{b:Type}{f:b->Bool}:∀{l:List b},Pc f l=true->∀x∈l,f x=true
 |y::r,h,x,a=>by simp only[Pc]at h;split at h;rename_i c;rcases eO.1 a with rfl|a;exact c;exact H6 h x a;cases h
def Jh{i t:Nat}(h:early0 ops.toList i t=true):Before ops i t:=λk o b c=>by unfold early0 at h;split at h;cases h;have:=H6 h o (by simpa using mo b);rw[c,show QI (some t) t=true from vG t]at this;obtain⟨e,d,a⟩:=lY this;split at a;rename_i f;unfold waits;rw[b];exact qv.2 ⟨e,by simpa using d,by simp[gM a,f]⟩;cases a
theorem AC{c e:Nat->Bool}{l i:L}{a:Act}(h:∀t,c t=true->∀v,lk l t=some v->a.eval (.tmp t)=v)(k:∀t,e t=true->∀v,lk i t=some v->a.eval (.tmp t)=v):∀(m:cz) (t:Nat) (v:cq),lk (pD c e l i m) t=some v->a.eval (.tmp t)=v
 |[],t,v,b=>by cases b
 |x::r,t,v,b=>by
  have g:=AC h k r t v;have d:∀u,a.eval (.tmp x)=u->lk ((x,u)::pD c e l i r) t=some v->a.eval (.tmp t)=v:=λu f h=>by simp only[lk]at h;split at h;rename_i n;obtain rfl:=gM n;obtain rfl:=cO h;exact f;exact g h
  simp only[pD]at b;split at b;rename_i j;split at b;rename_i u f;exact d u (h x j u f) b;exact g b;split at b;rename_i j;split at b;rename_i u f;exact d u (k x j u f) b;exact g b;exact g b
def Me(O:mv P T)(A:∀c a w,a.tmps.size=N->a.defers=a0.defers->pn c w->Q (.panic c) a w)(hE:fJ E)(ad:∀a b,E a b->E' a b)(hB:lX ops N m=true){i:Nat}{S:Nat->Bool->gy}{l:L}{rs ps:List (Nat×gy)}{js:List zW}{ks:cz}{o:Oper}{ea:Bool}{l0:L}(ae:∀t v,lk l0 t=some v->a0.eval (.tmp t)=v){go:L->List (Nat×gy)->List (Nat×gy)->Bool->Prop}(J:Cons ops a0 i S l rs ps js)(U:ops[i]? =some o) (h:DY P T N pn E E' ops.toList w0 i l0 o ks l rs ps D ea go):∃R:Bool->gy,Told E E' R/\
  (∀(g:Nat->Bool->gy) (b:Bool),(D=true->b=true)->(∀j,j<i->g j=S j)->∀a w,At ops a0 N i g b (oB o) a w->(ea=true->b=false/\E w0 w)->E' w0 w->o.wp P a w (λa' y=>∃v,a'=a.put o.dst v/\E w y/\R b v y) Q)/\
  ∃l' Y Z aa,go l' Y Z aa/\(aa=true->D=true/\∀u w,¬R false u w)/\∀g:Nat->Bool->gy,(∀j,j<i->g j=S j)->(∀d,o.dst=some d->g i=R)->Cons ops a0 (i+1) g l' Y Z js:=by
 have frame:∀(g:Nat->Bool->gy) (b:Bool),(∀j,j<i->g j=S j)->∀a w,At ops a0 N i g b (oB o) a w->∀x:L,(∀t v,lk x t=some v->a.eval (.tmp t)=v)->uK N (x++Pd ops.toList i o l l0) a:=λg b n a w q x ab=>by refine⟨q.size,λt v ht=>?_⟩;rcases BE ht with h|h;exact ab t v h;exact AC (λt hc v hv=>(nB hB J n q hc).1 v hv) (λt hc v hv=>(q.keep t (Jh hc)).trans (ae t v hv)) _ t v h
 have z:∀(g:Nat->Bool->gy) (b:Bool),(∀j,j<i->g j=S j)->∀a w,At ops a0 N i g b (oB o) a w->(ea=true->b=false)->∀f:L->Prop,wJ (RD ea (mw (wI ops.toList o) ps) (mw (wI ops.toList o) rs)) w f->∃x,f x/\uK N (x++Pd ops.toList i o l l0) a:=λg b n a w q r f hf=>by
  obtain⟨x,B,C⟩:=yw (a:=a) hf λp V=>by rcases Md V with V|⟨H,V⟩;exact(nB hB J n q (fq V).2).2.1 p (fq V).1 rfl;exact(nB hB J n q (fq V).2).2.2 (r H) p (fq V).1 rfl
  exact⟨x,B,frame g b n a w q x C⟩
 unfold DY at h;split at h;rename_i v hv;refine⟨λ_ u _=>u=v,⟨λ_ _ _ _ h _=>h,λ_ _ _ h _=>h⟩,λg b _ n a w q r H=>?_,_,_,_,_,h,(λh=>by cases h),λg n F=>J.ins n U λd G b u w K=>by rw[F d G]at K;exact K⟩;refine iv O (frame g b n a w q [] λt v ht=>by cases ht) (DX (k:=λu w2=>u=v/\w2=w) (s:=λ_=>False) (pan:=λ_ _=>False) hv ⟨rfl,rfl⟩) ?_ (λ_ h=>h.elim) λ_ _ h=>h.elim;rintro u y ⟨rfl,rfl⟩;exact⟨u,rfl,hE.refl _,rfl⟩;cases h with
 |exact v h k=>
  refine⟨λ_ u _=>u=v,⟨λ_ _ _ _ h _=>h,λ_ _ _ h _=>h⟩,λg b _ n a w q r H=>?_,_,_,_,_,k,(λh=>by cases h),λg n F=>J.ins n U λd G b u w K=>by rw[F d G]at K;exact K⟩;obtain⟨x,B,I⟩:=z g b n a w q (λe=>(r e).1) _ (h w H);refine iv O I B ?_ (λ_ h=>h.elim) λc y h=>A c a y q.size q.defers h;rintro u y ⟨rfl,C⟩;exact⟨u,rfl,C,rfl⟩
 |rel R M h k=>
  refine⟨λ_=>R,⟨λ_ _ _ _ h e=>M _ _ _ h (ad _ _ e),λ_ _ _ h e=>M _ _ _ h e⟩,λg b _ n a w q r H=>?_,_,_,_,_,k,(λh=>by cases h),λg n F=>J.zX n U λd G b u w h=>by rw[F d G]at h;exact h⟩;obtain⟨x,B,I⟩:=z g b n a w q (λe=>(r e).1) _ (h w H);refine iv O I B ?_ (λ_ h=>h.elim) λc y h=>A c a y q.size q.defers h;rintro u y ⟨C,W⟩;exact⟨u,rfl,W,C⟩
 |Je R M h k=>
  refine⟨λb u w=>b=true\/R u w,⟨λ_ _ _ _ h e=>h.imp id λh=>M _ _ _ h e,λ_ _ _ _ _=>.inl rfl⟩,λg b _ n a w q r H=>?_,_,_,_,_,k,(λh=>by cases h),λg n F=>J.TC n U λd G=>by rw[F d G];funext u w;simp⟩;obtain⟨x,B,I⟩:=z g b n a w q (λe=>(r e).1) _ (h w H);refine iv O I B ?_ (λ_ h=>h.elim) λc y h=>A c a y q.size q.defers h;rintro u y ⟨C,W⟩;exact⟨u,rfl,W,.inr C⟩
 |late ac R M h k=>
  refine⟨λb u w=>b=true/\R u w,⟨λ_ _ _ _ h e=>⟨h.1,M _ _ _ h.2 e⟩,λ_ _ _ h _=>by cases h.1⟩,λg b hb n a w q r H=>?_,_,_,_,_,k,λ_=>⟨ac,λu w h=>by cases h.1⟩,λg n F=>J.zX n U λd G b u w h=>by rw[F d G]at h;exact h.2⟩;obtain⟨x,B,I⟩:=z g b n a w q (λe=>(r e).1) _ (h w H);refine iv O I B ?_ (λ_ h=>h.elim) λc y h=>A c a y q.size q.defers h;rintro u y ⟨C,W⟩;exact⟨u,rfl,W,hb ac,C⟩
 |early X R M h k=>
  refine⟨λb u w=>b=true\/R u w,⟨λ_ _ _ _ h e=>h.imp id λh=>M _ _ _ h e,λ_ _ _ _ _=>.inl rfl⟩,λg b _ n a w q r H=>?_,_,_,_,_,k,(λh=>by cases h),λg n F=>J.TC n U λd G=>by rw[F d G];funext u w;simp⟩;obtain⟨x,B,I⟩:=z g b n a w q (λe=>(r e).1) _ (h w (r X).2);refine iv O I B ?_ (λ_ h=>h.elim) λc y h=>A c a y q.size q.defers h;rintro u y ⟨C,W⟩;exact⟨u,rfl,W,.inr C⟩
 |BD X v h k=>
  refine⟨λ_ u _=>u=v,⟨λ_ _ _ _ h _=>h,λ_ _ _ h _=>h⟩,λg b _ n a w q r H=>?_,_,_,_,_,k,(λh=>by cases h),λg n F=>J.ins n U λd G b u w K=>by rw[F d G]at K;exact K⟩;obtain⟨x,B,I⟩:=z g b n a w q (λe=>(r e).1) _ (h w (r X).2);refine iv O I B ?_ (λ_ h=>h.elim) λc y h=>A c a y q.size q.defers h;rintro u y ⟨rfl,C⟩;exact⟨u,rfl,C,rfl⟩
theorem u9{a:Act}{w:cn}{e:L}{X:Prop}(f:∀t v,lk e t=some v->a.eval (.tmp t)=v):∀{k:List zW},yr k e w X->(∀p∈k,p.2 (p.1.map λt=>a.eval (.tmp t)) w)->X
 |[],h,_=>h
 |p::r,h,g=>by
  have b:∀(d:List Nat) (c:List cq),DU e d=some c->(d.map λt=>a.eval (.tmp t))=c:=by
   intro d;induction d with
   |nil=>intro c h;simp only[DU,fO]at h;subst h;rfl
   |cons t r l=>
    intro c h;simp only[DU]at h;split at h;rename_i v m;split at h;rename_i n o;simp only[fO]at h;subst h;simp[f t v m,l n o];cases h;cases h
  simp only[yr]at h;split at h;rename_i c i;exact u9 f (h (b _ _ i▸g p iP)) λq j=>g q (iw _ j);exact u9 f h λq j=>g q (iw _ j)
theorem ve{a:Act}{w:cn}:∀{d:List (Nat×gy)} {f:L->Prop},wJ d w f->(∀p∈d,p.2 (a.eval (.tmp p.1)) w)->∃c,f c/\(∀t v,lk c t=some v->a.eval (.tmp t)=v)/\Jf c=(DV d).map λt=>a.eval (.tmp t)
 |[],f,h,_=>⟨[],h,(λt v b=>by cases b),rfl⟩
 |p::r,f,h,e=>by obtain⟨c,g,i,j⟩:=ve (h _ (e p iP)) λq k=>e q (iw _ k);refine⟨_,g,λt v b=>?_,by simp[Jf,DV,j]⟩;simp only[lk]at b;split at b;rename_i l;obtain rfl:=gM l;exact cO b;exact i t v b
theorem DZ:∀{a:List (Nat×gy)} {t:Nat},t∈DV a->∃p∈a,p.1=t
 |p::r,t,h=>by rcases eO.1 h with rfl|h;exact⟨p,iP,rfl⟩;obtain⟨q,b,c⟩:=DZ h;exact⟨q,iw _ b,c⟩
def H7{o:Oper}{t:Nat}(d:wrote ops t=true)(a:wI ops.toList o t=true):t∈Gu ops o:=by
 unfold wI at a;rw[rR,d]at a;obtain⟨e,f,b⟩:=lY a;split at b;rename_i g;have c:=wY.1 b;rw[mN]at c;have h:(ops[e.on]?).bind (·.dst)=some t:=by simpa using c
 exact List.mem_filterMap.2 ⟨e,f,by rw[cB g];exact h⟩;cases b
def AD(hT:mv P T)(G:lX ops N m=true){E1 E2 H:cn->cU}(ab:∀a b,E a b->E' a b){i:Nat}{S:Nat->Bool->gy}{l:L}{I K:List (Nat×gy)}{js:List zW}{ks:cz}{o:Oper}(y:Bool)(M:∀a b,E a b->H a b)(O:y=false->∀a b,E' a b->H a b){C:List (Nat×gy)}(hq:∀p∈C,(p∈I\/(y=true/\p∈K))/\wI ops.toList o p.1=true){go:zW->Prop}(x:Cons ops a0 i S l I K js)(ho:ops[i]? =some o)(f:o.dst=none)
 (h:Vb E1 E2 H w0 (λw1 κ=>wJ C w1 λl'=>Cm P T ks (l'++qX (wI ops.toList o) l (yq ops.toList o)) w1 o (λ_ _=>False) (λw2=>κ (Jf l') w2) λ_ _=>False) (λJ=>go (DV C,J))):∃R:Bool->gy,Told E E' R/\
  (∀(g:Nat->Bool->gy) (b U:Bool),(y=true->b=false/\U=true)->(∀j,j<i->g j=S j)->∀a w,At ops a0 N i g b (oB o) a w->E1 w0 w->o.wp P a w (λa' V=>∃v,a'=a.put o.dst v/\E2 w V/\R U v V/\v=im ops o a) Q)/\
  ∃p,go p/\∀g:Nat->Bool->gy,(∀j,j<i->g j=S j)->g i=R->Cons ops a0 (i+1) g l I K (p::js):=by
 obtain⟨J,st,h,k⟩:=h;let D:=DV C;have W:∀t∈D,t∈Gu ops o:=λt z=>by obtain⟨p,X,rfl⟩:=DZ z;obtain⟨d,e⟩:=hq p X;rcases d with d|⟨_,d⟩;obtain⟨j,o',hj,q,s,_⟩:=x.r p d;exact H7 (qv.2 ⟨_,mo q,by simp[s]⟩) e;obtain⟨j,o',hj,q,s,_⟩:=x.p p d;exact H7 (qv.2 ⟨_,mo q,by simp[s]⟩) e
 refine⟨λb v w=>(y=true->b=true)/\∃a:Act,v=im ops o a/\J (D.map λt=>a.eval (.tmp t)) w,⟨λ_ v a b ⟨h0,c,u,n⟩ A=>⟨h0,c,u,st _ _ _ n (M _ _ A)⟩,λv a b ⟨h0,c,u,n⟩ A=>⟨λ_=>rfl,c,u,st _ _ _ n (O (by cases y<;>simp_all) _ _ A)⟩⟩,λg b U hb B a w F A=>?_,_,k,λg B hi=>x.Vd B ho f λb a w hs=>?_⟩;obtain⟨Y,u,n,h3⟩:=ve (a:=a) (h w A) λp X=>by obtain⟨d,e⟩:=hq p X;rcases d with d|⟨Z,d⟩;exact(nB G x B F e).2.1 p d rfl;exact(nB G x B F e).2.2 (hb Z).1 p d rfl
 have hF:uK N (Y++qX (wI ops.toList o) l (yq ops.toList o)) a:=by refine⟨F.size,λt v z=>?_⟩;rcases BE z with h|h;exact n t v h;exact qZ (λt hc v hv=>(nB G x B F hc).1 v hv) _ t v h
 refine iv hT hF u (λ_ _ h=>h.elim) (λV hw=>?_) λ_ _ h=>h.elim;obtain⟨hJ,aa⟩:=hw;rw[h3]at hJ;exact⟨_,by rw[f];rfl,aa,⟨λZ=>(hb Z).2,a,rfl,hJ⟩,rfl⟩;rw[hi]at hs;obtain⟨_,b,u,n⟩:=hs;have:(D.map λt=>b.eval (.tmp t))=D.map λt=>a.eval (.tmp t):=List.map_congr_left λt z=>(Jc u (W t z)).symm;rw[this]at n;exact n
def Mf(B:mv P T)(n:∀c a w,a.tmps.size=N->a.defers=a0.defers->pn c w->Q (.panic c) a w)(q:lX ops N m=true){i:Nat}{S:Nat->Bool->gy}{l:L}{y z:List (Nat×gy)}{C:List zW}{D:cz}{o:Oper}{A:gy->Prop}(r:Cons ops a0 i S l y z C)(U:ops[i]? =some o) (h:TB P T pn E E' ops.toList w0 o D l y z A):∃R:gy,(∀v a b,R v a->E a b->R v b)/\A R/\
  (∀s:Nat->Bool->gy,(∀j,j<i->s j=S j)->∀a w,At ops a0 N i s false (oB o) a w->E w0 w->o.wp P a w (λF f=>∃v,F=a.put o.dst v/\E' w f/\R v f) Q):=by
 obtain⟨R,G,h,k⟩:=h;refine⟨R,G,k,λs u a w e H=>?_⟩;obtain⟨x,I,J,V⟩:=ve (a:=a) (h w H) λp d=>by rcases jH.1 d with d|d;exact(nB q r u e (fq d).2).2.2 rfl p (fq d).1 rfl;exact(nB q r u e (fq d).2).2.1 p (fq d).1 rfl
 have K:uK N (x++qX (wI ops.toList o) l (yq ops.toList o)) a:=by refine⟨e.size,λt v M=>?_⟩;rcases BE M with h|h;exact J t v h;exact qZ (λt O v g=>(nB q r u e O).1 v g) _ t v h
 refine iv B K I (λv f g=>?_) (λ_ h=>h.elim) λc f h=>n c a f e.size e.defers h;exact⟨v,rfl,g.2,g.1⟩
def Gx{a:Act}{g d:Nat}(e:(ops[g]?).bind (·.dst)=some d)(b:a.eval (.tmp d)=.bool D):yielded ops a.tmps g=some D:=by
 rw[kg]at b;unfold yielded;rw[e];simp only[sN];cases c:a.tmps[d]? with
 |none=>rw[c]at b;simp[undef]at b
 |some x=>rw[c]at b;simp at b;subst b;rfl
def Mg(ops:Array Oper)(i:Nat)(S:Nat->Bool->gy)(a:cz):Prop:=∀j∈a,∃o d,j<i/\ops[j]? =some o/\o.dst=some d/\∀u w,¬S j false u w
def Mg.next{ops:Array Oper}{i:Nat}{S a:Nat->Bool->gy}{b:cz}(h:Mg ops i S b)(c:∀j,j<i->a j=S j):Mg ops (i+1) a b:=λj e=>by obtain⟨o,d,f,g,k,l⟩:=h j e;exact⟨o,d,by omega,g,k,by rw[c j f];exact l⟩
theorem mem_iff{n:Nat}:∀{l:cz},mem n l=true->n∈l
 |x::r,h=>by simp only[mem]at h;split at h;rename_i a;rw[gM a];exact iP;exact iw _ (mem_iff h)
def RE{l0:L}(aL:∀t v,lk l0 t=some v->a0.eval (.tmp t)=v)(hT:mv P T)(aB:∀c a w,a.tmps.size=N->a.defers=a0.defers->pn c w->Q (.panic c) a w)(hE:fJ E)(ae:∀a b,E a b->E' a b)(hB:lX ops N m=true)(hK:∀l a w,pk a0.defers N l a->K l w->Q .normal a w):∀(r:List Oper) (i:Nat) (A:List Nat) (l:L) (M Z:List (Nat×gy)) (I:List zW) (lt:List Nat) (S:Nat->Bool->gy),(∀j,r[j]? =ops[i+j]?)->i+sF r=m->Cons ops a0 i S l M Z I->(∀j,Told E E' (S j))->Mg ops i S lt->DW P T N pn E E' sp ops.toList w0 l0 K i r A l M Z I lt->
  ∃f:Nat->Bool->gy,(∀j,j<i->f j=S j)/\(∀j,Told E E' (f j))/\(∀j o,i<=j->j<m->ops[j]? =some o->mO E E' (λb w=>(b=true\/E w0 w)/\E' w0 w) sp P ops Q a0 N (λb j=>f j b) j o)/\qW (λb w=>(b=true\/E w0 w)/\E' w0 w) P ops Q a0 N m (λb j=>f j b):=by
 have aC:∀(b:Bool) (i:Nat) (S:Nat->Bool->gy) (l:L) (M Z:List (Nat×gy)) (I:List zW),i=m->Cons ops a0 i S l M Z I->∀a w,a.tmps.size=N->a.defers=a0.defers->(∀j,wrote ops j=false->a.eval (.tmp j)=a0.eval (.tmp j))->
  (∀i d,i<m->((ops[i]?).bind (·.dst))=some d->S i b (a.eval (.tmp d)) w)->(∀i o,i<m->ops[i]? =some o->o.dst=none->S i b (im ops o a) w)->∀X:L->Prop,(wJ M w λl'=>yr I l' w (X l'))->∃l',X l'/\pk a0.defers N (l'++l) a:=by
  rintro b i S l M Z I rfl B a w hz y hk hv ag X hf;obtain⟨l',h1,h2⟩:=yw (a:=a) hf λp hp=>by obtain⟨j,o,J,H,y,h⟩:=B.r p hp;exact h _ _ _ (hv j p.1 J (by rw[H];exact y))
  refine⟨l',u9 h2 h1 (λp hp=>?_),⟨hz,λt v ht=>?_⟩,y⟩;obtain⟨j,o,J,H,y,h⟩:=B.j p hp;exact h _ _ _ (ag j o J H y);rcases BE ht with h|h;exact h2 t v h;rcases B.l t v h with⟨hw,h⟩|⟨j,o,J,H,y,h⟩;rw[hk t hw];exact h;exact h _ _ _ (hv j t J (by rw[H];exact y))
 intro r;induction r with
 |nil=>
  intro i A l M Z I lt S hr hi B an G h;have ao:i=m:=by simpa[sF]using hi
  refine⟨S,λ_ _=>rfl,an,λj o h1 h2=>by omega,λb a w hz y hk hv ag he=>?_⟩;have aT:ops.size<=m:=by have:=hr 0;simp only[List.getElem?_nil,mX]at this;have:=Array.getElem?_eq_none_iff.1 this.symm;omega
  refine⟨λ_=>?_,λh=>by omega⟩;obtain⟨l',h1,hF⟩:=aC b i S l M Z I ao B a w hz y hk hv ag _ (h w he.2);exact hK _ a w hF h1
 |cons o r ih=>
  intro i A l M Z I lt S hr hi B an G h;have H:ops[i]? =some o:=(hr 0).symm;have aU:i<ops.size:=(eU.1 H).1;have aM:∀j,r[j]? =ops[i+1+j]? :=λj=>by have:=hr (j+1);simpa[vF,Nat.add_comm 1 j]using this
  unfold DW at h;split at h;rename_i ht;have ao:i=m:=by simpa[sF,ht]using hi
  refine⟨S,λ_ _=>rfl,an,λj o h1 h2=>by omega,λb a w hz y hk hv ag he=>⟨λh=>by omega,λ_=>?_⟩⟩;obtain⟨l',h1,hF⟩:=aC b i S l M Z I ao B a w hz y hk hv ag _ (h w he.2);have aD:o.dst=none/\o.guard=none:=by unfold Gv at ht;split at ht;rename_i h1 h2;exact⟨h1,h2⟩;cases ht
  unfold wpOp;rw[<-ao,H];simp only[Region.wanted,aD.2,dF];refine .inl (iv hT hF.b h1 (λ_ _ h=>h.elim) (λO h'=>?_) λ_ _ h=>h.elim);rw[aD.1];exact hK _ a O hF h';rename_i ht;have aN:i+1+sF r=m:=by simp only[sF,ht]at hi;omega
  have aa:∀(R:Bool->gy) (ax:List Nat) (l':L) (ab ac:List (Nat×gy)) (ap:List zW) (aq:List Nat),Told E E' R->(∀f:Nat->Bool->gy,(∀j,j<i->f j=S j)->f i=R->Cons ops a0 (i+1) f l' ab ac ap)->(∀f:Nat->Bool->gy,(∀j,j<i->f j=S j)->f i=R->Mg ops (i+1) f aq)->DW P T N pn E E' sp ops.toList w0 l0 K (i+1) r ax l' ab ac ap aq->
   (∀f:Nat->Bool->gy,(∀j,j<i->f j=S j)->f i=R->mO E E' (λb w=>(b=true\/E w0 w)/\E' w0 w) sp P ops Q a0 N (λb j=>f j b) i o)->
   ∃f:Nat->Bool->gy,(∀j,j<i->f j=S j)/\(∀j,Told E E' (f j))/\(∀j o,i<=j->j<m->ops[j]? =some o->mO E E' (λb w=>(b=true\/E w0 w)/\E' w0 w) sp P ops Q a0 N (λb j=>f j b) j o)/\qW (λb w=>(b=true\/E w0 w)/\E' w0 w) P ops Q a0 N m (λb j=>f j b):=by
   intro R ax l' ab ac ap aq hR af aE h' n;let S1:Nat->Bool->gy:=λj=>if j=i then R else S j
   have ay:∀j,j<i->S1 j=S j:=λj J=>by simp only[S1];rw[cy (by omega)]
   have ah:S1 i=R:=by show(if i=i then _ else _)=_;rw[cB rfl]
   obtain⟨f,h1,h2,h3,h4⟩:=ih (i+1) ax l' ab ac ap aq S1 aM aN (af S1 ay ah) (λj=>by simp only[S1];split;exact hR;exact an j) (aE S1 ay ah) h';have z:∀j,j<i->f j=S j:=λj J=>(h1 j (by omega)).trans (ay j J);refine⟨f,z,h2,λj o' J aO az=>?_,h4⟩;rcases Nat.eq_or_lt_of_le J with rfl|J;rw[H]at az;obtain rfl:=cO az;exact n f z ((h1 i (by omega)).trans ah);exact h3 j o' J aO az
  split at h;rename_i ai;have ar:o.dst=none/\o.guard=none:=by unfold H4 at ai;split at ai;rename_i h1 h2;exact⟨h1,h2⟩;cases ai
  split at h;rename_i s;have s:=gM s;unfold runT at h;obtain⟨R,hR,n,p,h',af⟩:=AD (E:=E) (Q:=Q) (go:=λp=>DW P T N pn E E' sp ops.toList w0 l0 K (i+1) r A l (yu Z M) [] (p::I) lt) hT hB ae true (λ_ _ h=>h) (λh=>by cases h) (λp hp=>(jH.1 hp).elim (λh=>⟨.inr ⟨rfl,(fq h).1⟩,(fq h).2⟩) λh=>⟨.inl (fq h).1,(fq h).2⟩) B H ar.1 h;refine aa R A l (yu Z M) [] (p::I) lt hR (λf q hi=>(af f q hi).Wn) (λf q _=>G.next q) h' λf z U b a w hb hz V hk hv he=>?_;obtain rfl:=hb (.inl s);have hs:=n f false true (λ_=>⟨rfl,rfl⟩) z a w ⟨hz,V,hk,hv⟩ (he.1.resolve_left (by simp));unfold wpOp;rw[H];simp only[Region.wanted,ar.2,dF];refine .inl ?_;simp only[cB s];rw[U];refine Oper.wp_mono (λa' O hx=>?_) hs;obtain⟨v,q1,q2,q3,q4⟩:=hx;exact⟨v,q1,q2,by simpa[s]using q3,λ_=>q4⟩;rename_i s;have s:=uN s;unfold TA at h;obtain⟨R,hR,n,p,h',af⟩:=AD (E:=E) (Q:=Q) (go:=λp=>DW P T N pn E E' sp ops.toList w0 l0 K (i+1) r A l M Z (p::I) lt) hT hB ae false ae (λ_ _ _ h=>h) (λp hp=>⟨.inl (fq hp).1,(fq hp).2⟩) B H ar.1 h;refine aa R A l M Z (p::I) lt hR af (λf q _=>G.next q) h' λf z U b a w hb hz V hk hv he=>?_;have hs:=n f b b (λh=>by cases h) z a w ⟨hz,V,hk,hv⟩ he.2;unfold wpOp;rw[H];simp only[Region.wanted,ar.2,dF];refine .inl ?_;simp only[cy s];rw[U];refine Oper.wp_mono (λa' O hx=>?_) hs;obtain⟨v,q1,q2,q3,q4⟩:=hx;exact⟨v,q1,q2,by simpa[s]using q3,λ_=>q4⟩;rename_i aS;obtain⟨h,y⟩:=wX h
  have aj:∀(A:List Nat) (l:L),Cons ops a0 i S l M Z I->(∀(f:Nat->Bool->gy) (b:Bool),(∀j,j<i->f j=S j)->∀a w,At ops a0 N i f b (oB o) a w->Region.wanted o (yielded ops a.tmps)=true)->DY P T N pn E E' ops.toList w0 i l0 o A l M Z (tZ lt o) (qY ops.toList sp i) (λl' ab ac lb=>DW P T N pn E E' sp ops.toList w0 l0 K (i+1) r A l' ab ac I (Gw lb i lt))->
   ∃f:Nat->Bool->gy,(∀j,j<i->f j=S j)/\(∀j,Told E E' (f j))/\(∀j o,i<=j->j<m->ops[j]? =some o->mO E E' (λb w=>(b=true\/E w0 w)/\E' w0 w) sp P ops Q a0 N (λb j=>f j b) j o)/\qW (λb w=>(b=true\/E w0 w)/\E' w0 w) P ops Q a0 N m (λb j=>f j b):=by
   intro A l B hw h;obtain⟨R,hR,n,l',ab,ac,aF,h',aG,af⟩:=Me (Q:=Q) hT aB hE ae hB aL B H h;let R1:Bool->gy:=λb v w=>o.dst=none\/R b v w;have aH:∀d,o.dst=some d->R1=R:=λd y=>by funext b v w;simp only[R1,y];simp
   refine aa R1 A l' ab ac I (Gw aF i lt) ⟨λb v w O h e=>h.imp id λh=>hR.e b v w O h e,λv w O h e=>h.imp id λh=>hR.x v w O h e⟩ (λf q hi=>af f q λd y=>hi.trans (aH d y)) (λf q hi=>by
    cases aF with
    |false=>exact G.next q
    |true=>
     obtain⟨h1,h2⟩:=aG rfl;intro j J;rcases eO.1 J with rfl|J;cases y:o.dst with
     |none=>unfold tZ at h1;rw[y]at h1;cases h1
     |some d=>exact⟨o,d,Nat.lt_succ_self _,H,y,by rw[hi,aH d y];exact h2⟩
     exact G.next q j J) h' λf z U b a w hb hz V hk hv he=>?_
   have F:At ops a0 N i f b (oB o) a w:=⟨hz,V,hk,hv⟩
   have aP:tZ lt o=true->b=true:=λau=>by
    unfold tZ at au;split at au;obtain⟨e,ak,D⟩:=lY au;split at D;rename_i al;obtain⟨o2,d2,g1,g2,g3,g4⟩:=G _ (mem_iff D);have av:=hv e.on d2 (qv.2 ⟨e,by simpa using ak,by simp[al]⟩) (by rw[g2];exact g3);cases b with
    |true=>rfl
    |false=>
     simp only[z _ g1]at av;exact absurd av (g4 _ _)
    cases D
    cases au
   have aQ:qY ops.toList sp i=true->b=false/\E w0 w:=λC=>by
    skip
    have aR:∀{k j:Nat},Mc ops.toList k j=true->waits ops k j=true:=λ{k j} C=>by
     unfold Mc at C;unfold waits;rw[wW]at C;have hg:ops.toList[k]? =ops[k]? :=by simp
     rw[hg]at C;split at C;rename_i o2 aA;obtain⟨e,ak,D⟩:=lY C;rw[aA];split at D;rename_i al;exact qv.2 ⟨e,by simpa using ak,by simp[gM D,al]⟩;cases D;cases C
    have hw:QG ops sp i:=by
     unfold qY at C;rw[wW]at C;have hg:ops.toList[sp]? =ops[sp]? :=by simp
     rw[hg]at C;split at C;rename_i o2 aA;obtain⟨e,ak,D⟩:=lY C;split at D;rename_i al;have aI:waits ops sp e.on=true:=by unfold waits;rw[aA];exact qv.2 ⟨e,by simpa using ak,by simp[al]⟩
     split at D;rename_i hx;rw[<-gM hx];exact .inl aI;exact .inr ⟨e.on,aI,aR D⟩;cases D;cases C
    exact⟨hb (.inr hw),he.1.resolve_left (by rw[hb (.inr hw)];simp)⟩
   have hs:=n f b aP z a w F aQ he.2;unfold wpOp;rw[H];simp only[hw f b z a w F,dF];refine .inl ?_;rw[U];refine Oper.wp_mono (λa' O hx=>?_) hs;obtain⟨v,q1,q2,q3⟩:=hx;have q5:if i=sp then E' w O else E w O:=by split;exact ae _ _ q2;exact q2
   have q6:R1 (b||decide (i=sp)) v O:=by by_cases e:i=sp;rw[hb (.inl e)]at q3;have:=hR.x v O O q3 (ae _ _ (hE.refl O));simpa[e,hb (.inl e)]using(Or.inr this:R1 true v O);simpa[e]using(Or.inr q3:R1 b v O)
   cases ad:o.dst with
   |none=>exact⟨im ops o a,by rw[q1,ad];rfl,q5,.inl ad,λ_=>rfl⟩
   |some d=>exact⟨v,by rw[q1,ad],q5,q6,λh=>by cases h⟩
  have skip:∀(A:List Nat) (l:L),Cons ops a0 i S l M Z I->(∀(f:Nat->Bool->gy) (b:Bool),(∀j,j<i->f j=S j)->∀a w,At ops a0 N i f b (oB o) a w->Region.wanted o (yielded ops a.tmps)=false)->DW P T N pn E E' sp ops.toList w0 l0 K (i+1) r A (W.ins N o.dst undef l) M Z I lt->
   ∃f:Nat->Bool->gy,(∀j,j<i->f j=S j)/\(∀j,Told E E' (f j))/\(∀j o,i<=j->j<m->ops[j]? =some o->mO E E' (λb w=>(b=true\/E w0 w)/\E' w0 w) sp P ops Q a0 N (λb j=>f j b) j o)/\qW (λb w=>(b=true\/E w0 w)/\E' w0 w) P ops Q a0 N m (λb j=>f j b):=by
   intro A l B hw h';let R1:Bool->gy:=λ_ u _=>o.dst=none\/u=undef;refine aa R1 A _ M Z I lt ⟨λ_ _ _ _ h _=>h,λ_ _ _ h _=>h⟩ (λf q hi=>B.ins q H λd y b u w hu=>by rw[hi]at hu;rcases hu with hu|hu;rw[y]at hu;cases hu;exact hu) (λf q _=>G.next q) h' λf z U b a w hb hz V hk hv he=>?_;have F:At ops a0 N i f b (oB o) a w:=⟨hz,V,hk,hv⟩;unfold wpOp;rw[H];simp only[hw f b z a w F,ik,eF];rw[U];have q5:if i=sp then E' w w else E w w:=by split;exact ae _ _ (hE.refl w);exact hE.refl w
   cases ad:o.dst with
   |none=>exact⟨im ops o a,rfl,q5,.inl ad,λ_=>rfl⟩
   |some d=>exact⟨undef,rfl,q5,.inr rfl,λh=>by cases h⟩
  split at h;rename_i hg;split at h;rename_i s;have s:=gM s;obtain⟨R,hR,h',n⟩:=Mf (Q:=Q) hT aB hB B H h
  refine aa (λb v w=>o.dst=none\/(b=true/\R v w)) A l _ [] I _ ⟨λb v w O h e=>h.imp (λh=>h) λh=>⟨h.1,hR _ _ _ h.2 e⟩,λv w O h _=>h.imp (λh=>h) λh=>by cases h.1⟩ (λf q hi=>B.Wn.zX q H λd y b u w hu=>by
   rw[hi]at hu;rcases hu with hu|hu;rw[y]at hu;cases hu;exact hu.2) (λf q hi=>by
   intro j J;cases y:o.dst with
   |none=>rw[y]at J;cases J
   |some d=>
    rw[y]at J;obtain rfl:=iJ.1 J;exact⟨o,d,Nat.lt_succ_self _,H,y,λu w hx=>by rw[hi]at hx;rcases hx with hx|hx;rw[y]at hx;cases hx;cases hx.1⟩) h' λf z U b a w hb hz V hk hv he=>?_
  obtain rfl:=hb (.inl s);have hs:=n f z a w ⟨hz,V,hk,hv⟩ (he.1.resolve_left (by simp));unfold wpOp;rw[H];simp only[Region.wanted,hg,dF];refine .inl ?_;simp only[cB s];rw[U];refine Oper.wp_mono (λa' O hx=>?_) hs;obtain⟨v,q1,q2,q3⟩:=hx;cases ad:o.dst with
  |none=>exact⟨im ops o a,by rw[q1,ad];rfl,q2,.inl rfl,λ_=>rfl⟩
  |some d=>exact⟨v,by rw[q1,ad],q2,.inr ⟨by simp[s],q3⟩,λh=>by cases h⟩
  exact aj A l B (λ_ _ _ _ _ _=>by simp[Region.wanted,hg]) h;rename_i g am hg;split at h;exact h.elim;rename_i d aJ;rw[mN]at aJ;have aK:(ops[g]?).bind (·.dst)=some d:=by simpa using aJ
  split at h;exact h.elim;rename_i aw;split at h;rename_i b hb;have hw:∀(f:Nat->Bool->gy) (Y:Bool),(∀j,j<i->f j=S j)->∀a w,At ops a0 N i f Y (oB o) a w->Region.wanted o (yielded ops a.tmps)=(b==am):=λf Y q a w F=>by have:=(nB hB B q F aw).1 _ hb;simp[Region.wanted,hg,Gx aK this]
  split at h;cases b<;>cases am<;>simp only at h;exact aj A l B (λf Y q a w F=>by rw[hw f Y q a w F];rfl) h;exact skip A l B (λf Y q a w F=>by rw[hw f Y q a w F];rfl) h;exact skip A l B (λf Y q a w F=>by rw[hw f Y q a w F];rfl) h;exact aj A l B (λf Y q a w F=>by rw[hw f Y q a w F];rfl) h;cases am<;>simp only at h<;>cases b;exact aj (d::A) ((d,.bool false)::l) (B.u6 hb) (λf Y q a w F=>by rw[hw f Y q a w F];rfl) (h.2 rfl);exact skip (d::A) ((d,.bool true)::l) (B.u6 hb) (λf Y q a w F=>by rw[hw f Y q a w F];rfl) (h.1 rfl);exact skip (d::A) ((d,.bool false)::l) (B.u6 hb) (λf Y q a w F=>by rw[hw f Y q a w F];rfl) (h.2 rfl);exact aj (d::A) ((d,.bool true)::l) (B.u6 hb) (λf Y q a w F=>by rw[hw f Y q a w F];rfl) (h.1 rfl);rename_i vs hb;exact skip A l B (λf Y q a w F=>by have:=qV aK ((nB hB B q F aw).1 _ hb);simp[Region.wanted,hg,this]) h;exact h.elim
def D5(F:mv P T)(q:∀c a w,a.tmps.size=N->a.defers=a0.defers->pn c w->Q (.panic c) a w)(s:fJ E)(f:fJ E')(g:∀a b,E a b->E' a b)(G:P.follows .mixedOrders=true){l:L}{H:Nat}(A:lX ops N m=true)(u:sF ops.toList=m)(y:uK N l a0)(I:∀l a w,pk a0.defers N l a->K l w->Q .normal a w) (h:DW P T N pn E E' sp ops.toList w0 l K 0 ops.toList [] (vU ops.toList l) [] [] [] []):(Code.region H ops true).wp P Q a0 w0:=by
 have drop:∀(l:L),∀t v,lk (vU ops.toList l) t=some v->wrote ops t=false/\lk l t=some v:=by
  intro l;induction l with
  |nil=>intro t v h;cases h
  |cons p r B=>
   intro t v h;simp only[vU]at h;split at h;rename_i d;obtain⟨C,n⟩:=B t v h;refine⟨C,?_⟩;simp only[lk];split;rename_i z;obtain rfl:=gM z;rw[rR,C]at d;cases d;exact n;rename_i d;simp only[lk]at h⊢;split at h;rename_i z;obtain rfl:=gM z;rw[rR]at d;exact⟨d,h⟩;exact B t v h
 obtain⟨U,_,n,J,M⟩:=RE (Q:=Q) (a0:=a0) (sp:=sp) y.at_ F q s g A I ops.toList 0 [] _ [] [] [] [] (λ_ _ _ _=>True) (λj=>by simp) (by simpa using u)
  ⟨λt v D=>.inl ⟨(drop l t v D).1,y.at_ t v (drop l t v D).2⟩,(λp d=>by cases d),(λp d=>by cases d),λp d=>by cases d⟩ (λ_=>⟨λ_ _ _ _ _ _=>trivial,λ_ _ _ _ _=>trivial⟩) (λj O=>by cases O) h
 refine wH (E:=E) (E':=E') (sp:=sp) (Rch:=λb w=>(b=true\/E w0 w)/\E' w0 w) G A ⟨λb i v w k=>(n i).e b v w k,λi v w k=>(n i).x v w k,λb w k h e=>⟨h.1.imp (λh=>h) λh=>s.trans _ _ _ h e,f.trans _ _ _ h.2 (g _ _ e)⟩,λw k h e=>⟨.inl rfl,f.trans _ _ _ h.2 e⟩⟩ ⟨.inr (s.drew _),f.drew _⟩ y.size (λi o R S=>J i o (fV _) R S) M
end
end Go.Proofs.W
variable{m k i j o p s d:Nat}{a:Option Go.Addr}{h:Go.Addr}
namespace Go.Proofs.W
open Go.RowKit
def TD:List (Nat×cz):=[(24,[0,1,2,3,4,5,6]),(29,[0,1]),(56,[0,1]),(81,[0,1,2]),(84,[0,1,2]),(101,[0,1,2,3]),(121,[0,1,2]),(125,[0,1,2,3,4]),(141,[0,1,2]),(166,[0,1,2,3,4,7]),(173,[0,1,2,3,4]),(184,[0,1]),(186,[0,7,43,44,45]),(199,[0,1,2,3]),(207,[0,1,2,3]),(220,[0,1]),(245,[0,1,2,8]),(247,[0,1])]
def Pe:List (Nat×cz)->Nat->Nat->Option Nat
 |[],_,_=>none
 |p::r,S,i=>match Nat.beq p.1 S with
  |true=>nth p.2 i
  |false=>Pe r S i
def Co:yg:=⟨Pe TD⟩
noncomputable def H8(p:Nat×cz):Bool:=match Tryz.prog.underlying p.1 with
 |some (.struct a)=>(List.range p.2.length).all λi=>match nth p.2 i,a[i]? with
  |some d,some f=>f.offset==d&&(match Tryz.prog.info? f.type with
   |some x=>x.size !=0
   |none=>false)
  |_,_=>false
 |_=>false
def Ve:TD.all H8=true:=by kernel_rfl
theorem D8:∀(l:List (Nat×cz)) (S i d:Nat),Pe l S i=some d->∃p∈l,p.1=S/\nth p.2 i=some d
 |p::r,S,i,d,h=>by simp only[Pe]at h;split at h;rename_i a;exact⟨p,iP,gM a,h⟩;obtain⟨q,b,c⟩:=D8 r S i d h;exact⟨q,iw _ b,c⟩
theorem Mh{a:Type}:∀{l:List a} {i:Nat} {d:a},nth l i=some d->i<l.length
 |_::_,0,_,_=>Nat.succ_pos _
 |_::r,n+1,_,h=>Nat.succ_lt_succ (Mh (l:=r) h)
def gB{t:cw}{d:TypeDesc}(h:Tryz.prog.underlying t=some d)(w:cn):Sem.run V.prog (underlying t) w=.ok d w:=by rw[V.uO];unfold underlying;rw[Sem.run_bind,run_program,Result.andThen_ok,h,Sem.run_pure]
def Ea{t:cw}{x:TypeInfo}(h:Tryz.prog.info? t=some x)(w:cn):Sem.run V.prog (typeInfo t) w=.ok x w:=by rw[V.CE];unfold typeInfo;rw[Sem.run_bind,run_program,Result.andThen_ok,h,Sem.run_pure]
def Gy{t:cw}{x:TypeInfo}(h:Tryz.prog.info? t=some x)(w:cn):Sem.run V.prog (sizeOf t) w=.ok x.size w:=by unfold sizeOf;rw[Sem.run_bind,Ea h,Result.andThen_ok,Sem.run_pure]
def Mi{t:cw}{x:TypeInfo}{z:cq}(h:Tryz.prog.info? t=some x)(a:x.zero=some z)(w:cn):Sem.run V.prog (zeroValue t) w=.ok z w:=by unfold zeroValue;rw[Sem.run_bind,Ea h,Result.andThen_ok,a,Sem.run_pure]
def dj:mv V.prog Co:=⟨λS i d h b o w=>by
 obtain⟨p,l,rfl,k⟩:=D8 _ _ _ _ h;have c:=mU.1 Ve p l;unfold H8 at c;split at c;rename_i r m;have a:=mU.1 c i (gR.2 (Mh k));rw[k]at a;split at a;rename_i s f e n;obtain rfl:=cO e;simp only[dW,ol]at a;obtain⟨rfl,g⟩:=a;split at g;rename_i x q;have j:x.size≠0:=by simpa using g
 unfold Instr.fieldAt;rw[Sem.run_bind,gB m,Result.andThen_ok];simp only[n,Instr.sureAddr,pure_bind,fieldPlace,Sem.run_bind,Gy q,Result.andThen_ok,cy j,Sem.run_pure];simp[Addr.add];cases g;cases a;cases c⟩
structure TI where
 kd:Nat
 sz:Nat
 es:Nat
 ln:Nat
def Wo:List (Nat×TI):=[(3,⟨0,1,0,0⟩),(4,⟨0,1,0,0⟩),(22,⟨3,1,3,0⟩),(24,⟨1,7,0,0⟩),(25,⟨3,1,3,0⟩),(26,⟨3,1,2,0⟩),(27,⟨3,1,1,0⟩),(29,⟨1,2,0,0⟩),(31,⟨0,1,0,0⟩),(38,⟨0,1,0,0⟩),(43,⟨3,1,7,0⟩),(44,⟨3,1,1,0⟩),(45,⟨3,1,1,0⟩),(56,⟨1,2,0,0⟩),(60,⟨0,1,0,0⟩),(64,⟨3,1,1,0⟩),(66,⟨3,1,1,0⟩),(81,⟨1,3,0,0⟩),(84,⟨1,3,0,0⟩),(95,⟨3,1,4,0⟩),(101,⟨1,4,0,0⟩),(112,⟨0,1,0,0⟩),(117,⟨3,1,1,0⟩),(119,⟨0,1,0,0⟩),(121,⟨1,3,0,0⟩),(125,⟨1,5,0,0⟩),(133,⟨0,1,0,0⟩),(138,⟨0,1,0,0⟩),(139,⟨3,1,8,0⟩),(141,⟨1,3,0,0⟩),(154,⟨0,1,0,0⟩),(164,⟨2,3,1,3⟩),(166,⟨1,8,0,0⟩),(173,⟨1,5,0,0⟩),(178,⟨2,6,1,6⟩),(179,⟨2,36,6,6⟩),(180,⟨0,1,0,0⟩),(181,⟨0,1,0,0⟩),(182,⟨0,1,0,0⟩),(184,⟨1,2,0,0⟩),(186,⟨1,47,0,0⟩),(199,⟨1,4,0,0⟩),(200,⟨0,1,0,0⟩),(204,⟨2,6,1,6⟩),(205,⟨2,32,1,32⟩),(207,⟨1,35,0,0⟩),(209,⟨0,1,0,0⟩),(217,⟨2,5,1,5⟩),(220,⟨1,2,0,0⟩),(222,⟨3,1,1,0⟩),(225,⟨3,1,1,0⟩),(243,⟨0,1,0,0⟩),(245,⟨1,12,0,0⟩),(247,⟨1,5,0,0⟩),(248,⟨3,1,4,0⟩)]
def Up:List (Nat×TI)->Nat->Option TI
 |[],_=>none
 |p::r,S=>match Nat.beq p.1 S with
  |true=>some p.2
  |false=>Up r S
def ty(t:Nat):Option TI:=Up Wo t
noncomputable def yx(t n:Nat):Bool:=match Tryz.prog.info? t with
 |some x=>x.size==n
 |none=>false
noncomputable def SD(p:Nat×TI):Bool:=yx p.1 p.2.sz&&(match Tryz.prog.underlying p.1 with
 |some (.struct _)=>p.2.kd==1
 |some (.array n e)=>p.2.kd==2&&p.2.ln==n&&yx e p.2.es
 |some (.slice e)=>p.2.kd==3&&yx e p.2.es
 |some _=>p.2.kd==0
 |none=>false)
def Vf:Wo.all SD=true:=by kernel_rfl
theorem H9:∀(l:List (Nat×TI)) (S:Nat) (d:TI),Up l S=some d->(S,d)∈l
 |p::r,S,d,h=>by simp only[Up]at h;split at h;rename_i a;obtain rfl:=gM a;obtain rfl:=cO h;exact iP;exact iw _ (H9 r S d h)
def Ia{t:Nat}{x:TI}(h:ty t=some x):SD (t,x)=true:=mU.1 Vf _ (H9 _ _ _ h)
def lJ{t n:Nat}(h:yx t n=true)(w:cn):Sem.run V.prog (sizeOf t) w=.ok n w:=by unfold yx at h;split at h;rename_i x a;rw[Gy a,ol.1 h];cases h
def Pf{t:Nat}{x:TI}(h:ty t=some x)(w:cn):Sem.run V.prog (sizeOf t) w=.ok x.sz w:=by have:=Ia h;simp only[SD,dW]at this;exact lJ this.1 w
def RF{t:Nat}{x:TI}(h:ty t=some x)(w:cn):Sem.run V.prog (isAgg t) w=.ok (x.kd==1||x.kd==2) w:=by
 have:=Ia h;simp only[SD,dW]at this;have a:=this.2;unfold isAgg;cases b:Tryz.prog.underlying t with
 |none=>rw[b]at a;cases a
 |some d=>
  rw[b]at a;rw[Sem.run_bind,gB b,Result.andThen_ok];cases d<;>simp only[dW,ol]at a<;>simp[a]
def re{t:Nat}{x:TI}(h:ty t=some x)(c:x.kd=3):∃e,Tryz.prog.underlying t=some (.slice e)/\yx e x.es=true:=by
 have:=Ia h;simp only[SD,dW]at this;have a:=this.2;cases b:Tryz.prog.underlying t with
 |none=>rw[b]at a;cases a
 |some d=>
  rw[b]at a;cases d<;>simp only[dW,ol]at a<;>first|(exfalso;omega)|skip
  exact⟨_,rfl,a.2⟩
def Eb{t:Nat}{x:TI}(h:ty t=some x)(c:x.kd=2):∃e,Tryz.prog.underlying t=some (.array x.ln e)/\yx e x.es=true:=by
 have:=Ia h;simp only[SD,dW]at this;have a:=this.2;cases b:Tryz.prog.underlying t with
 |none=>rw[b]at a;cases a
 |some d=>
  rw[b]at a;cases d<;>simp only[dW,ol]at a<;>first|(exfalso;omega)|skip
  exact⟨_,by rw[a.1.2],a.2⟩
def zL:List (Nat×dr):=[(3,[.int .i64 0]),(24,[.int .i64 0,.int .i64 0,.int .i64 0,.int .i64 0,.int .i64 0,.int .i64 0,.slice none 0 0]),(27,[.slice none 0 0]),(29,[.int .i64 0,.slice none 0 0]),(31,[.nilFunc]),(56,[.int .i64 0,.int .i64 0]),(66,[.slice none 0 0]),(81,[.int .i64 0,.int .i64 0,.int .i64 0]),(84,[.int .i64 0,.int .i64 0,.bool false]),(101,[.int .i64 0,.int .i64 0,.bool false,.bool false]),(125,[.bool false,.int .i64 0,.int .i64 0,.slice none 0 0,.slice none 0 0]),(141,[.pointer none,.slice none 0 0,.int .i64 0]),(166,[.int .i64 0,.int .i64 0,.int .i64 0,.bool false,.bool false,.bool false,.bool false,.bool false]),(173,[.bool false,.int .i64 0,.int .i64 0,.int .i64 0,.int .i64 0]),(178,[.int .i64 0,.int .i64 0,.int .i64 0,.int .i64 0,.int .i64 0,.int .i64 0]),(186,[.int .i64 0,.int .i64 0,.int .i64 0,.int .i64 0,.int .i64 0,.int .i64 0,.slice none 0 0,.int .i64 0,.int .i64 0,.int .i64 0,.int .i64 0,.int .i64 0,.int .i64 0,.int .i64 0,.int .i64 0,.int .i64 0,.int .i64 0,.int .i64 0,.int .i64 0,.int .i64 0,.int .i64 0,.int .i64 0,.int .i64 0,.int .i64 0,.int .i64 0,.int .i64 0,.int .i64 0,.int .i64 0,.int .i64 0,.int .i64 0,.int .i64 0,.int .i64 0,.int .i64 0,.int .i64 0,.int .i64 0,.int .i64 0,.int .i64 0,.int .i64 0,.int .i64 0,.int .i64 0,.int .i64 0,.int .i64 0,.int .i64 0,.map none,.map none,.nilFunc,.nilFunc]),(199,[.slice none 0 0,.int .i64 0,.int .i64 0,.bool false]),(204,[.int .u8 0,.int .u8 0,.int .u8 0,.int .u8 0,.int .u8 0,.int .u8 0]),(209,[.nilFunc]),(217,[.bool false,.bool false,.bool false,.bool false,.bool false]),(220,[.slice none 0 0,.bool false]),(225,[.slice none 0 0]),(247,[.int .i64 0,.slice none 0 0,.int .i64 0,.int .i64 0,.bool false])]
def zG:List (Nat×dr)->Nat->Option dr
 |[],_=>none
 |p::r,S=>match Nat.beq p.1 S with
  |true=>some p.2
  |false=>zG r S
def zc(t:Nat):Option dr:=zG zL t
noncomputable def Uq(t:Nat):Option cq:=(Tryz.prog.info? t).bind (·.zero)
def Xt:(zL.map λp=>(Uq p.1).map (·.cells.toList))=zL.map λp=>some p.2:=by kernel_rfl
theorem QJ:∀(l:List (Nat×dr)),(l.map λp=>(Uq p.1).map (·.cells.toList))=(l.map λp=>some p.2)->∀t a,zG l t=some a->(Uq t).map (·.cells.toList)=some a
 |p::r,h,t,a,b=>by simp only[lq,pZ]at h;simp only[zG]at b;split at b;rename_i c;obtain rfl:=gM c;obtain rfl:=cO b;exact h.1;exact QJ r h.2 t a b
def RG{t:Nat}{b:dr}(h:zc t=some b):∃z,z.cells=b.toArray/\∀w,Sem.run V.prog (zeroValue t) w=.ok z w:=by
 have a:=QJ _ Xt t b h;unfold Uq at a;cases c:Tryz.prog.info? t with
 |none=>rw[c]at a;cases a
 |some x=>
  rw[c]at a;simp only[sN]at a;cases d:x.zero with
  |none=>rw[d]at a;cases a
  |some z=>
   rw[d]at a;refine⟨z,?_,λw=>Mi c d w⟩;have:=cO a;rw[<-this]
section
variable{w:cn}{k:cq->cn->Prop}{s:cn->Prop}
def Pg(a b:Nat):(a==b)=Nat.beq a b:=by
 cases h:Nat.beq a b with
 |true=>simpa using gM h
 |false=>simpa using uN h
def Ec(t:Nat):Option Bool:=match ty t with
 |some x=>match Nat.beq x.kd 1 with
  |true=>some true
  |false=>some (Nat.beq x.kd 2)
 |none=>none
def yy{t:Nat}{b:Bool}(h:Ec t=some b)(w:cn):Sem.run V.prog (isAgg t) w=.ok b w:=by
 unfold Ec at h;split at h;rename_i x c;rw[RF c];split at h;rename_i a;obtain rfl:=cO h;have:x.kd=1:=gM a;simp[this];rename_i a;obtain rfl:=cO h;have:x.kd≠1:=uN a;have e:(x.kd==1)=false:=by simpa using this
 rw[e,Bool.false_or,Pg];cases h
def NX(t:Nat):Option Nat:=match ty t with
 |some x=>some x.sz
 |none=>none
def BG{t n:Nat}(h:NX t=some n)(w:cn):Sem.run V.prog (sizeOf t) w=.ok n w:=by unfold NX at h;split at h;rename_i x a;obtain rfl:=cO h;exact Pf a w;cases h
def cu{t:cw}{v:cq}(c:w.cell? h=some v)(a:k v w)(b:Ec t=some false:=by rfl):jj V.prog (Instr.loadAt t (.pointer (some h))) w k:=by refine⟨v,w,?_,a⟩;simp only[Instr.loadAt,Instr.sureAddr,pure_bind,loadVar,Sem.run_bind,yy b,Result.andThen_ok,ik,eF];go_simp
def iB(b o j:Nat):(⟨b,o,none⟩:Addr).add j=⟨b,o+j,none⟩:=by unfold Addr.add;split<;>simp_all
def dJ{t:cw}{vs:dr}(a:∀j v,vs[j]? =some v->w.cell? ⟨i,o+j,none⟩=some v)(h:k (.agg vs.toArray) w)(b:Ec t=some true:=by rfl)(c:NX t=some vs.length:=by rfl):
 jj V.prog (Instr.loadAt t (.pointer (some ⟨i,o,none⟩))) w k:=by
 refine⟨_,w,?_,h⟩;have d:=run_loadCells_list (P:=jD) w (cY i o) vs λj v e=>by rw[iB];exact a j v e
 simp only[Instr.loadAt,Instr.sureAddr,pure_bind,loadVar,Sem.run_bind,yy b,BG c,Result.andThen_ok,dF,d,Sem.run_pure]
def gl(a:dU)(o:Nat):dr->dU
 |[]=>a
 |v::r=>gl (a.setIfInBounds o v) (o+1) r
theorem rh:∀(d:dr) (w:cn) (b o:Nat) (a:dU) (t:cw) (c:Nat×Nat),w.heap[b]? =some (.cells a t c)->(w.setCells b o d).heap[b]? =some (.cells (gl a o d) t c)
 |[],w,b,o,a,t,c,h=>h
 |v::r,w,b,o,a,t,c,h=>rh r (w.setCell (cY b o) v) b (o+1) (a.setIfInBounds o v) t c (by simp[World.setCell,mR,h])
theorem oC:∀(c:dr) (w a:cn) (b o:Nat),cW (λx=>x=b) a w->cW (λx=>x=b) a (w.setCells b o c)
 |[],_,_,_,_,h=>h
 |v::r,w,a,b,o,h=>oC r _ a b (o+1) (h.setCell _ _ λ_=>rfl)
def iT{t:cw}{v:cq}{b:dU}{a:cw}(c:w.heap[i]? =some (.cells b a))(m:o+v.cells.size<=b.size)(h:∀d,cW (λx=>x=i) w d->d.heap[i]? =some (.cells (gl b o v.cells.toList) a)->s d)
 (g:∀u∈v.cells.toList,u.oneCell'=true:=by simp[Value.cells])(k:NX t=some v.cells.size:=by rfl):DO V.prog (Instr.storeAt t (.pointer (some ⟨i,o,none⟩)) v) w s:=by
 have l:=run_storeCells_cells (P:=jD) i o v.cells.toList 0 w (λj f=>by
  have e:o+0+j<b.size:=by
   have:j<v.cells.size:=by simpa using f
   omega
  simp only[World.cell?,c];simpa using e) (λj f=>by simp[World.frozen?,c]) g
 refine⟨_,?_,h (w.setCells i o v.cells.toList) (oC _ _ _ _ _ (cW.refl _ w)) (rh _ _ _ _ _ _ _ c)⟩;simp only[Instr.storeAt,Instr.sureAddr,pure_bind,storeVar,Sem.run_bind,BG k,Result.andThen_ok,ne_eq,not_true_eq_false,eF];exact l
def ri:dr->Bool
 |[]=>true
 |v::r=>match v.oneCell' with
  |true=>ri r
  |false=>false
theorem fK:∀{l:dr},ri l=true->∀u∈l,u.oneCell'=true
 |v::r,h,u,a=>by simp only[ri]at h;split at h;rename_i b;rcases eO.1 a with rfl|a;exact b;exact fK h u a;cases h
def dq{t:cw}{v:cq}{b:dU}{a:cw}(d:w.heap[i]? =some (.cells b a))(h:∀c,cW (λx=>x=i) w c->c.heap[i]? =some (.cells (gl b o v.cells.toList) a)->s c)
 (e:Nat.ble (o+v.cells.size) b.size=true:=by rfl)(f:ri v.cells.toList=true:=by rfl)(g:NX t=some v.cells.size:=by rfl):DO V.prog (Instr.storeAt t (.pointer (some ⟨i,o,none⟩)) v) w s:=
 iT d (qb e) h (fK f) g
def pm(t:Nat):dr:=match zc t with
 |some a=>a
 |none=>[]
def Vg(t:Nat):Bool:=match zc t with
 |some _=>true
 |none=>false
def eD{t:cw}(h:∀a b,Ext w a->w.heap.size<=b->a.heap[b]? =some (.cells (pm t).toArray t)->k (.pointer (some ⟨b,0,none⟩)) a)(c:Vg t=true:=by rfl):jj V.prog (Instr.alloc t true (.tuple #[])) w k:=by
 unfold Vg at c;cases d:zc t with
 |none=>rw[d]at c;cases c
 |some f=>
  have e:pm t=f:=by simp[pm,d]
  obtain⟨z,g,i⟩:=RG d;rw[e]at h;refine⟨_,w.alloc (.cells f.toArray t),?_,h _ w.me (Ext.alloc _ _) (cJ _) (fp _ _)⟩;simp only[Instr.alloc,Sem.run_bind,i,Result.andThen_ok,newVar,newRow,g];go_simp
def ej{t:cw}{v:cq}(h:∀a b,Ext w a->w.heap.size<=b->a.heap[b]? =some (.cells v.cells t)->k (.pointer (some ⟨b,0,none⟩)) a):jj V.prog (Instr.box t v) w k:=by refine⟨_,w.alloc (.cells v.cells t),?_,h _ w.me (Ext.alloc _ _) (cJ _) (fp _ _)⟩;simp only[Instr.box,newVar,newRow];go_simp
def eN{t b o l c:Nat}(a g:Nat){i:Int}(q:a<l)(h:k (.pointer (some ⟨b,o+a*g,none⟩)) w)(j:i=(a:Nat):=by rfl)(m:ty t=some ⟨3,1,g,0⟩:=by rfl):jj V.prog (Instr.indexAt t (.slice (some ⟨b,o,none⟩) l c) (.int .i64 i)) w k:=by
 subst j;obtain⟨e,n,p⟩:=re m rfl;refine⟨_,w,?_,h⟩;have d:(a:Int)<(l:Int):=by omega
 have f:(0:Int)<=(a:Int):=by omega
 unfold Instr.indexAt;simp only[asIntOf,pure_bind,Sem.run_bind,gB n,Result.andThen_ok,Sem.run_pure,f,d,and_self,dF,lJ p,mT,iB]
def wZ{t b o:Nat}(a f n:Nat){g:Int}(q:a<n)(h:k (.pointer (some ⟨b,o+a*f,none⟩)) w)(j:g=(a:Nat):=by rfl)(l:ty t=some ⟨2,i,f,n⟩:=by rfl):jj V.prog (Instr.indexAt t (.pointer (some ⟨b,o,none⟩)) (.int .i64 g)) w k:=by
 subst j;obtain⟨e,m,p⟩:=Eb l rfl;refine⟨_,w,?_,h⟩;have c:(a:Int)<(n:Int):=by omega
 have d:(0:Int)<=(a:Int):=by omega
 unfold Instr.indexAt;simp only[asIntOf,Instr.sureAddr,pure_bind,Sem.run_bind,gB m,Result.andThen_ok,Sem.run_pure,d,c,and_self,dF,lJ p,mT,iB]
def fw{t b o l c:Nat}(a:Nat){i:Int}(d:a<l)(h:k (.pointer (some ⟨b,o+a,none⟩)) w)(e:i=(a:Nat):=by rfl)(f:ty t=some ⟨3,1,1,0⟩:=by rfl):jj V.prog (Instr.indexAt t (.slice (some ⟨b,o,none⟩) l c) (.int .i64 i)) w k:=
 eN a 1 d (by rw[oi];exact h) e f
def th{t b o:Nat}(a n:Nat){i:Int}(c:a<n)(h:k (.pointer (some ⟨b,o+a,none⟩)) w)(d:i=(a:Nat):=by rfl)(e:ty t=some ⟨2,n,1,n⟩:=by rfl):jj V.prog (Instr.indexAt t (.pointer (some ⟨b,o,none⟩)) (.int .i64 i)) w k:=
 wZ a 1 n c (by rw[oi];exact h) d e
def cS{t b:cw}{c:Array Bool}(h:k (.int .i64 i) w)(d:ty b=some ⟨3,1,o,0⟩:=by rfl):zV V.prog (builtin .len #[b] t c #[.slice a i j]) w k:=by
 obtain⟨e,f,_⟩:=re d rfl;refine⟨_,w,?_,h⟩;have g:Sem.run jD (Builtin.len_ #[b] t #[.slice a i j]) w=.ok (i64 i) w:=by unfold Builtin.len_;simp only[Cv,Hr,Sem.run_bind,gB f,Result.andThen_ok,Sem.run_pure];rfl
 unfold builtin;simp only[Sem.run_bind,g,Result.andThen_ok,Sem.run_pure]
def ei{b:Bool}(h:k (.bool (!b)) w):jj V.prog (Op.unary .not (.bool b)) w k:=⟨_,w,by go_simp,h⟩
section
variable{t:cw}{x y:dw}{m n:Int}{κ:IntKind}
def cF(h:k (.int .i64 (m+n)) w)(a: -9223372036854775808<=m+n/\m+n<=9223372036854775807:=by omega):jj V.prog (do eqGuard .add t x y (.int .i64 m) (.int .i64 n);binOp .add t (.int .i64 m) (.int .i64 n)) w k:=
 ⟨_,w,by go_simp;exact IntWalk.i64_in _ a,h⟩
def fx(h:k (.int .i64 (m-n)) w)(a: -9223372036854775808<=m-n/\m-n<=9223372036854775807:=by omega):jj V.prog (do eqGuard .sub t x y (.int .i64 m) (.int .i64 n);binOp .sub t (.int .i64 m) (.int .i64 n)) w k:=
 ⟨_,w,by go_simp;exact IntWalk.i64_in _ a,h⟩
def pE(h:k (.int .i64 (m*n)) w)(a: -9223372036854775808<=m*n/\m*n<=9223372036854775807:=by omega):jj V.prog (do eqGuard .mul t x y (.int .i64 m) (.int .i64 n);binOp .mul t (.int .i64 m) (.int .i64 n)) w k:=
 ⟨_,w,by go_simp;exact IntWalk.i64_in _ a,h⟩
def du(h:k (.bool (decide (m<n))) w):jj V.prog (do eqGuard .lss t x y (.int κ m) (.int κ n);binOp .lss t (.int κ m) (.int κ n)) w k:=⟨_,w,by go_simp,h⟩
def ue(h:k (.bool (decide (m<=n))) w):jj V.prog (do eqGuard .leq t x y (.int κ m) (.int κ n);binOp .leq t (.int κ m) (.int κ n)) w k:=⟨_,w,by go_simp,h⟩
def lZ(h:k (.bool (decide (n<m))) w):jj V.prog (do eqGuard .gtr t x y (.int κ m) (.int κ n);binOp .gtr t (.int κ m) (.int κ n)) w k:=⟨_,w,by go_simp,h⟩
def yz(h:k (.bool (decide (n<=m))) w):jj V.prog (do eqGuard .geq t x y (.int κ m) (.int κ n);binOp .geq t (.int κ m) (.int κ n)) w k:=⟨_,w,by go_simp,h⟩
def ff(h:k (.bool (decide (m=n))) w):jj V.prog (do eqGuard .eql t x y (.int κ m) (.int κ n);binOp .eql t (.int κ m) (.int κ n)) w k:=⟨_,w,by go_simp;rw[Bool.eq_iff_iff];simp,h⟩
def fD(h:k (.bool (decide (m≠n))) w):jj V.prog (do eqGuard .neq t x y (.int κ m) (.int κ n);binOp .neq t (.int κ m) (.int κ n)) w k:=⟨_,w,by go_simp;rw[Bool.eq_iff_iff];simp,h⟩
end
@[simp] def Xu (v:cq):one [v]=v:=rfl
@[simp] def Xv (u v:cq):one [u,v]=.tuple #[u,v]:=rfl
def rj{a:Array cw}{t:cw}{b:Array Bool}{m n:Int}(h:k (.int .i64 (max m n)) w):zV V.prog (builtin .max a t b #[.int .i64 m,.int .i64 n]) w k:=by
 refine⟨_,w,?_,h⟩;have c:Sem.run jD (Builtin.max_ a t #[i64 m,i64 n]) w=.ok (i64 (max m n)) w:=by unfold Builtin.max_;simp only[List.foldlM_cons,List.foldlM_nil,Builtin.max2,pure_bind,Sem.run_pure];congr 2;show(if n>m then n else m)=_;omega
 unfold builtin;simp only[Sem.run_bind,c,Result.andThen_ok,Sem.run_pure]
def pF{t:cw}(b:Nat){x:Int}(n:b<=j)(h:k (.slice a b j) w)(f:x=(b:Nat):=by rfl)(g:ty t=some ⟨3,1,o,0⟩:=by rfl):jj V.prog (Instr.sliceAt t (.slice a i j) none (some (.int .i64 x)) none) w k:=by
 subst f;obtain⟨e,l,m⟩:=re g rfl;refine⟨_,w,?_,h⟩;have c:(b:Int)<=(j:Int):=by omega
 have d:(0:Int)<=(b:Int):=by omega
 unfold Instr.sliceAt Instr.slice;simp only[Sem.run_bind,gB l,Result.andThen_ok,Instr.sliceBounds,Instr.sliceBound,asIntOf,pure_bind,d,c,and_self,dF,Sem.run_pure,lJ m,mT,Nat.sub_zero];cases a<;>simp[Addr.add]
def fi(R:nd):Ending->cU:=λe w=>∃v,e=.returned v/\R v w
def cD{a:dr}{R:nd}{c:List PanicEntry->cU}(g:Calls V.prog K a.toArray w (fi R))(h:∀v b,R v b->k v b)(d:∀f w,Sem.run V.prog (callFunc K f) w=.ok (.enter K f) w:=by intro _ _;kernel_rfl):O9 V.prog K a w k c:=by refine⟨d,g.mono ?_⟩;rintro e b ⟨v,rfl,i⟩;exact h v b i
end
def dg{a:dr}{d:cq}{w:cn}{k:nd}{b:List PanicEntry->cU}(g:Calls V.prog K a.toArray w (fi λv e=>v=d/\e=w))(h:k d w)(c:∀f w,Sem.run V.prog (callFunc K f) w=.ok (.enter K f) w:=by intro _ _;kernel_rfl):O9 V.prog K a w k b:=
 cD g (λv e i=>by obtain⟨rfl,rfl⟩:=i;exact h) c
def dG{a:dr}{v0:cq}{w:cn}{k:nd}{c:List PanicEntry->cU}(g:Calls V.prog K a.toArray w (fi λv b=>v=v0/\Ext w b))(h:∀b,Ext w b->k v0 b)(d:∀f w,Sem.run V.prog (callFunc K f) w=.ok (.enter K f) w:=by intro _ _;kernel_rfl):O9 V.prog K a w k c:=
 cD g (λv b e=>by obtain⟨rfl,e⟩:=e;exact h _ e) d
def jZ{b:Bool}{A B:Prop}(h:b=true)(k:A):(b=true->A)/\(b=false->B):=⟨λ_=>k,λa=>by rw[h]at a;cases a⟩
def lx{b:Bool}{A B:Prop}(h:b=false)(k:B):(b=true->A)/\(b=false->B):=⟨λa=>(by rw[h]at a;cases a),λ_=>k⟩
def eE{N b A c n:Nat}{f h B:Code}{l:L}{w:cn}{Q:QW}(d:Nat->L)(J:Nat->cU)(C:Sub (d 0) l/\J 0 w)
 (s:∀k w,k<=n->J k w->WC V.prog Co N f (λe r i=>e=.normal/\lk r c=some (.bool (decide ((k:Int)<(n:Int))))/\Sub (d k) r/\J k i) (d k) w)
 (m:∀k w,k<n->J k w->WC V.prog Co N (.seq (.block A h) B) (λe r i=>match e with
  | .normal=>Sub (d (k+1)) r/\J (k+1) i
  |e=>jg b Q e r i) (d k) w)
 (t:∀w,J n w->Q .normal (d n) w):dM V.prog N (Code.block b (Code.loop (f.seq ((Code.cond (.tmp c) Code.skip (Code.exit b)).seq ((Code.block A h).seq B))))) l w Q:=by
 refine⟨λa v=>?_⟩;refine wp_block<|mF (λj a w=>∃k,k<=n/\j=n-k/\Fr N (d k) a/\J k w) n ⟨0,fV _,by omega,v.sub C.1,C.2⟩ ?_;rintro j a w ⟨k,E,rfl,v,F⟩;refine jX (kz (iA dj _ _ _ a w v (s k w E F)) ?_);rintro e G i ⟨r,o,rfl,H,D,u⟩;refine jX (wp_cond_split (o.at_ c _ H) (λI=>?_) λK=>?_);have x:k<n:=by simpa using I
 refine wp_skip<|kz (iA dj _ _ _ G i (o.sub D) (m k i x u)) ?_;rintro e O P ⟨y,g,p⟩;cases e with
 |normal=>exact⟨n-(k+1),by omega,k+1,by omega,rfl,g.sub p.1,p.2⟩
 |exit j=>
  simp only[Exit.then,Exit.inBlock];by_cases q:j=b;subst q;rw[cB rfl];simp only[jg,vG]at p;exact⟨y,g,p⟩;rw[cy q];have:Nat.beq j b=false:=by
   cases M:Nat.beq j b with
   |false=>rfl
   |true=>exact absurd (gM M) q
  simp only[jg,this]at p;exact⟨y,g,p⟩
 |_=>exact⟨y,g,p⟩
 have z:k=n:=by
  have:¬k<n:=by simpa using K
  omega
 subst z;refine wp_exit ?_;simp only[Exit.then,Exit.inBlock,dF];exact⟨_,o.sub D,t i u⟩
def gT{y:Type}{N b E c n:Nat}{f h F:Code}{l:L}{w:cn}{Q:QW}(d:Nat->y->L)(J:Nat->y->cU)(z:y)(G:Sub (d 0 z) l/\J 0 z w)
 (t:∀k s w,k<=n->J k s w->WC V.prog Co N f (λe q i=>e=.normal/\lk q c=some (.bool (decide ((k:Int)<(n:Int))))/\Sub (d k s) q/\J k s i) (d k s) w)
 (m:∀k s w,k<n->J k s w->WC V.prog Co N (.seq (.block E h) F) (λe q i=>match e with
  | .normal=>∃x,Sub (d (k+1) x) q/\J (k+1) x i
  |e=>jg b Q e q i) (d k s) w)
 (u:∀s w,J n s w->Q .normal (d n s) w):dM V.prog N (Code.block b (Code.loop (f.seq ((Code.cond (Operand.tmp c) Code.skip (Code.exit b)).seq ((Code.block E h).seq F))))) l w Q:=by
 refine⟨λa A=>?_⟩;refine wp_block<|mF (λj a w=>∃k s,k<=n/\j=n-k/\Fr N (d k s) a/\J k s w) n ⟨0,z,fV _,by omega,A.sub G.1,G.2⟩ ?_;rintro j a w ⟨k,s,I,rfl,A,K⟩;refine jX (kz (iA dj _ _ _ a w A (t k s w I K)) ?_);rintro e M i ⟨q,o,rfl,O,H,v⟩;refine jX (wp_cond_split (o.at_ c _ O) (λP=>?_) λR=>?_);have B:k<n:=by simpa using P
 refine wp_skip<|kz (iA dj _ _ _ M i (o.sub H) (m k s i B v)) ?_;rintro e W X ⟨C,g,r⟩;cases e with
 |normal=>
  obtain⟨x,S,T⟩:=r;exact⟨n-(k+1),by omega,k+1,x,by omega,rfl,g.sub S,T⟩
 |exit j=>
  simp only[Exit.then,Exit.inBlock];by_cases p:j=b;subst p;rw[cB rfl];simp only[jg,vG]at r;exact⟨C,g,r⟩;rw[cy p];have:Nat.beq j b=false:=by
   cases U:Nat.beq j b with
   |false=>rfl
   |true=>exact absurd (gM U) p
  simp only[jg,this]at r;exact⟨C,g,r⟩
 |_=>exact⟨C,g,r⟩
 have D:k=n:=by
  have:¬k<n:=by simpa using R
  omega
 subst D;refine wp_exit ?_;simp only[Exit.then,Exit.inBlock,dF];exact⟨_,o.sub H,u s i v⟩
def go{a:Func}{c:Code}{b:dU}{w:cn}{R:Ending->cU}(e:V.prog.funcs[K]? =some a)(f:a.ntmps=i)(h:WC V.prog Co i c (QR V.prog a.results.toList R) (b.toList.zipIdx.map λp=>(p.2,p.1)) w)
 (g:a.body=some c:=by rfl)(d:Nat.ble b.toList.length i=true:=by rfl):Calls V.prog K b w R:=by
 have:=Tz dj (args:=b.toList) i e g f (qb d) h;simpa using this
def RH{a:Type}{b c:Array a}{v f:a}{n k:Nat}(h:c=b.setIfInBounds n v)(d:k≠n)(e:b[k]? =some f):c[k]? =some f:=by subst h;rw[eo (gh d)];exact e
def V.Mj:V.prog.funcs=Tryz.prog.funcs.setIfInBounds 163 V.f163:=by kernel_rfl
def V.fn{k:Nat}{f:Func}(h:Tryz.prog.funcs[k]? =some f)(a:k≠163):V.prog.funcs[k]? =some f:=RH V.Mj a h
def gd{a:Func}{c:Code}{b:dU}{w:cn}{R:Ending->cU}(e:Tryz.prog.funcs[K]? =some a)(f:a.ntmps=i)(h:WC V.prog Co i c (QR V.prog a.results.toList R) (b.toList.zipIdx.map λp=>(p.2,p.1)) w)
 (g:a.body=some c:=by rfl)(d:Nat.ble b.toList.length i=true:=by rfl)(j:K≠163:=by decide):Calls V.prog K b w R:=go (V.fn e j) f h g d
def Gz{b:dU}{w:cn}{v:cq}{S:cU}(h:Calls V.prog K b w λe a=>e=.returned v/\S a):Calls V.prog K b w (fi λu a=>u=v/\S a):=h.mono λe a h=>⟨v,h.1,rfl,h.2⟩
def fi.same{a:dU}{w:cn}{v:cq}(h:Calls V.prog K a w (fi λu w'=>u=v/\w'=w)):Calls V.prog K a w (fi λu w'=>u=v/\Ext w w'):=h.mono λe w' ⟨v,h,b,c⟩=>⟨v,h,b,c▸Ext.refl _⟩
def hH{e:Array Oper}{l:L}{w:cn}{Q:QW}{E g:cn->cU}(p:Nat)(q:fJ E)(k:fJ g)(m:∀a b,E a b->g a b)(h:DW V.prog Co i (λc n=>Q (.panic c) [] n) E g p e.toList w l (λl n=>Q .normal l n) 0 e.toList [] (vU e.toList l) [] [] [] [])(r:lX e i (sF e.toList)=true:=by kernel_rfl):
 dM V.prog i (.region j e true) l w Q:=
 ⟨λa o=>D5 dj (λc a w s u x=>⟨[],⟨s,u.trans o.defers,λt v y=>by cases y⟩,x⟩) q k m (by kernel_rfl) r rfl o.b (λl A w f z=>⟨l,⟨f.b.size,f.d.trans o.defers,f.b.at_⟩,z⟩) h⟩
def cX{a:Array Oper}{l:L}{w:cn}{Q:QW}{E:cn->cU}(d:fJ E)(h:DW V.prog Co i (λc b=>Q (.panic c) [] b) E E 1000 a.toList w l (λl b=>Q .normal l b) 0 a.toList [] (vU a.toList l) [] [] [] [])(e:lX a i (sF a.toList)=true:=by kernel_rfl):
 dM V.prog i (.region j a true) l w Q:=hH 1000 d d (λ_ _ h=>h) h e
section
variable{E:cn->cn->Prop}{w:cn}{kx:cq->Prop}{kr kp kl:gy->Prop}{lb ea:Bool}
def dx{s:Sem cq}(v:cq)(h:∀a,E w a->jj V.prog s a λu b=>u=v/\E a b)(k:kx v):vS E E w (λa κ=>jj V.prog s a κ) kx kr kp lb kl ea:=.exact v h k
def Ur{s:Sem Next}(v:cq)(h:∀a,E w a->zV V.prog s a λu b=>u=v/\E a b)(k:kx v):vS E E w (λa κ=>zV V.prog s a κ) kx kr kp lb kl ea:=.exact v h k
def fh{a:dr}{c:List PanicEntry->cU}(v:cq)(g:∀b,E w b->Calls V.prog K a.toArray b (fi λu i=>u=v/\E b i))(k:kx v)(d:∀f w,Sem.run V.prog (callFunc K f) w=.ok (.enter K f) w:=by intro _ _;kernel_rfl):vS E E w (λb κ=>O9 V.prog K a b κ c) kx kr kp lb kl ea:=
 .exact v (λb e=>cD (g b e) (λ_ _ h=>h) d) k
def iC{a:dr}{c:List PanicEntry->cU}(i:fJ E)(v:cq)(j:∀b,E w b->Calls V.prog K a.toArray b (fi λu f=>u=v/\f=b))(k:kx v)(d:∀g w,Sem.run V.prog (callFunc K g) w=.ok (.enter K g) w:=by intro _ _;kernel_rfl):vS E E w (λb κ=>O9 V.prog K a b κ c) kx kr kp lb kl ea:=
 .exact v (λb e=>cD (j b e) (λu f h=>⟨h.1,by rw[h.2];exact i.refl _⟩) d) k
def cK{t:cw}{v:cq}(b:w.cell? h=some v)(k:kx v)(c:Ec t=some false:=by rfl):vS Ext Ext w (λa κ=>jj V.prog (Instr.loadAt t (.pointer (some h))) a κ) kx kr kp lb kl ea:=
 dx v (λa e=>cu (e.cell b) qm c) k
variable{t:cw}{x y:dw}{m n:Int}{κ:IntKind}
def kF{b:Bool}(h:kx (.bool (!b)))(c:fJ E:=by first|exact cV|exact iF _):vS E E w (λa f=>jj V.prog (Op.unary .not (.bool b)) a f) kx kr kp lb kl ea:=
 dx _ (λa _=>ei ⟨rfl,c.refl _⟩) h
def vf(h:kx (.int .i64 (m+n)))(b: -9223372036854775808<=m+n/\m+n<=9223372036854775807:=by omega)(c:fJ E:=by first|exact cV|exact iF _):vS E E w (λa f=>jj V.prog (do eqGuard .add t x y (.int .i64 m) (.int .i64 n);binOp .add t (.int .i64 m) (.int .i64 n)) a f) kx kr kp lb kl ea:=
 dx _ (λa _=>cF ⟨rfl,c.refl _⟩ b) h
def ti(h:kx (.int .i64 (m-n)))(b: -9223372036854775808<=m-n/\m-n<=9223372036854775807:=by omega)(c:fJ E:=by first|exact cV|exact iF _):vS E E w (λa f=>jj V.prog (do eqGuard .sub t x y (.int .i64 m) (.int .i64 n);binOp .sub t (.int .i64 m) (.int .i64 n)) a f) kx kr kp lb kl ea:=
 dx _ (λa _=>fx ⟨rfl,c.refl _⟩ b) h
def GA(h:kx (.int .i64 (m*n)))(b: -9223372036854775808<=m*n/\m*n<=9223372036854775807:=by omega)(c:fJ E:=by first|exact cV|exact iF _):vS E E w (λa f=>jj V.prog (do eqGuard .mul t x y (.int .i64 m) (.int .i64 n);binOp .mul t (.int .i64 m) (.int .i64 n)) a f) kx kr kp lb kl ea:=
 dx _ (λa _=>pE ⟨rfl,c.refl _⟩ b) h
def Mk(h:kx (.bool (decide (m<n))))(b:fJ E:=by first|exact cV|exact iF _):vS E E w (λa f=>jj V.prog (do eqGuard .lss t x y (.int κ m) (.int κ n);binOp .lss t (.int κ m) (.int κ n)) a f) kx kr kp lb kl ea:=
 dx _ (λa _=>du ⟨rfl,b.refl _⟩) h
def TE(h:kx (.bool (decide (m<=n))))(b:fJ E:=by first|exact cV|exact iF _):vS E E w (λa f=>jj V.prog (do eqGuard .leq t x y (.int κ m) (.int κ n);binOp .leq t (.int κ m) (.int κ n)) a f) kx kr kp lb kl ea:=
 dx _ (λa _=>ue ⟨rfl,b.refl _⟩) h
def yA(h:kx (.bool (decide (n<m))))(b:fJ E:=by first|exact cV|exact iF _):vS E E w (λa f=>jj V.prog (do eqGuard .gtr t x y (.int κ m) (.int κ n);binOp .gtr t (.int κ m) (.int κ n)) a f) kx kr kp lb kl ea:=
 dx _ (λa _=>lZ ⟨rfl,b.refl _⟩) h
def YC(h:kx (.bool (decide (n<=m))))(b:fJ E:=by first|exact cV|exact iF _):vS E E w (λa f=>jj V.prog (do eqGuard .geq t x y (.int κ m) (.int κ n);binOp .geq t (.int κ m) (.int κ n)) a f) kx kr kp lb kl ea:=
 dx _ (λa _=>yz ⟨rfl,b.refl _⟩) h
def Ed(h:kx (.bool (decide (m=n))))(b:fJ E:=by first|exact cV|exact iF _):vS E E w (λa f=>jj V.prog (do eqGuard .eql t x y (.int κ m) (.int κ n);binOp .eql t (.int κ m) (.int κ n)) a f) kx kr kp lb kl ea:=
 dx _ (λa _=>ff ⟨rfl,b.refl _⟩) h
def QK(h:kx (.bool (decide (m≠n))))(b:fJ E:=by first|exact cV|exact iF _):vS E E w (λa f=>jj V.prog (do eqGuard .neq t x y (.int κ m) (.int κ n);binOp .neq t (.int κ m) (.int κ n)) a f) kx kr kp lb kl ea:=
 dx _ (λa _=>fD ⟨rfl,b.refl _⟩) h
def gE{t b o l c:Nat}(a d:Nat){i:Int}(g:a<l)(h:kx (.pointer (some ⟨b,o+a*d,none⟩)))(j:i=(a:Nat):=by rfl)(k:ty t=some ⟨3,1,d,0⟩:=by rfl)(m:fJ E:=by first|exact cV|exact iF _):vS E E w (λe f=>jj V.prog (Instr.indexAt t (.slice (some ⟨b,o,none⟩) l c) (.int .i64 i)) e f) kx kr kp lb kl ea:=
 dx _ (λe _=>eN a d g ⟨rfl,m.refl _⟩ j k) h
def Ib{t b o:Nat}(a c n:Nat){d:Int}(g:a<n)(h:kx (.pointer (some ⟨b,o+a*c,none⟩)))(j:d=(a:Nat):=by rfl)(k:ty t=some ⟨2,i,c,n⟩:=by rfl)(l:fJ E:=by first|exact cV|exact iF _):vS E E w (λe f=>jj V.prog (Instr.indexAt t (.pointer (some ⟨b,o,none⟩)) (.int .i64 d)) e f) kx kr kp lb kl ea:=
 dx _ (λe _=>wZ a c n g ⟨rfl,l.refl _⟩ j k) h
def iK{t b o l c:Nat}(a:Nat){i:Int}(e:a<l)(h:kx (.pointer (some ⟨b,o+a,none⟩)))(g:i=(a:Nat):=by rfl)(j:ty t=some ⟨3,1,1,0⟩:=by rfl)(k:fJ E:=by first|exact cV|exact iF _):vS E E w (λd f=>jj V.prog (Instr.indexAt t (.slice (some ⟨b,o,none⟩) l c) (.int .i64 i)) d f) kx kr kp lb kl ea:=
 dx _ (λd _=>fw a e ⟨rfl,k.refl _⟩ g j) h
def pG{t b o:Nat}(a n:Nat){i:Int}(d:a<n)(h:kx (.pointer (some ⟨b,o+a,none⟩)))(e:i=(a:Nat):=by rfl)(g:ty t=some ⟨2,n,1,n⟩:=by rfl)(j:fJ E:=by first|exact cV|exact iF _):vS E E w (λc f=>jj V.prog (Instr.indexAt t (.pointer (some ⟨b,o,none⟩)) (.int .i64 i)) c f) kx kr kp lb kl ea:=
 dx _ (λc _=>th a n d ⟨rfl,j.refl _⟩ e g) h
def kX{t b:cw}{d:Array Bool}(h:kx (.int .i64 i))(e:ty b=some ⟨3,1,o,0⟩:=by rfl)(g:fJ E:=by first|exact cV|exact iF _):vS E E w (λc f=>zV V.prog (builtin .len #[b] t d #[.slice a i j]) c f) kx kr kp lb kl ea:=
 Ur _ (λc _=>cS ⟨rfl,g.refl _⟩ e) h
end
end Go.Proofs.W
variable{l f:List Nat}
namespace Go.Proofs.W
open Go.RowKit
def kP(n a b:Int):Bool:=decide (a<=n)&&decide (n<=b)
def eY(n a b:Int)(w:cn):Calls V.prog 106 #[.int .i64 n,.int .i64 a,.int .i64 b] w (fi λv c=>v=.bool (kP n a b)/\c=w):=by refine gd Tryz.func106 Tryz.ntmps106 ?_;refine ue ⟨λh=>ue ⟨_,rfl,?_,rfl⟩,λh=>⟨_,rfl,?_,rfl⟩⟩<;>simp[kP,h]
def xd(l:cz)(k:Nat):Nat:=if k=0 then 0 else l.getD (k-1) 0+1
def wK(W:Nat->Nat->Int)(l:cz):Nat->Int
 |0=>0
 |k+1=>wK W l k+W (xd l k) (l.getD k 0+1)
def pH(W:Nat->Nat->Int)(l:cz):Int:=wK W l l.length+W (xd l l.length) 0
def Ml(h:∀d∈l,d<5)(k:Nat)(b:k<=l.length):xd l k<6:=by
 unfold xd;split;omega;have a:k-1<l.length:=by omega
 have:=h _ (ef a);rw[jG,eV a];simp only[jI];omega
theorem xe{W:Nat->Nat->Int}(a:∀i j,0<=W i j/\W i j<=1000)(l:cz):∀k,0<=wK W l k/\wK W l k<=1000*k
 |0=>by simp[wK]
 |k+1=>by have b:=xe a l k;have c:=a (xd l k) (l.getD k 0+1);simp only[wK];omega
def tj{W:Nat->Nat->Int}(a:∀i j,0<=W i j/\W i j<=1000)(l:cz):0<=pH W l/\pH W l<=1000*l.length+1000:=by have b:=xe a l l.length;have c:=a (xd l l.length) 0;unfold pH;omega
def BH(W:Nat->Nat->Int)(a:Int)(l:cz):Int:=pH W l+(l.length:Int)*a
def getD_eq{a:Type}{l:List a}{d:a}(h:k<l.length):l.getD k d=l[k]:=by rw[jG,eV h];rfl
def yB(m:Nat)(W:Nat->Nat->Int)(l:List Nat)(p:Option Addr)(s:Nat)(w:cn)(a:∀i j,i<6->j<6->w.cell? ⟨m,7+i*6+j,none⟩=some (.int .i64 (W i j)))(q:∀i j,0<=W i j/\W i j<=1000) (r:∀d∈l,d<5)(t:l.length<=100000)(f:∀k (h:k<l.length),∃b o,p=some ⟨b,o,none⟩/\w.cell? ⟨b,o+k,none⟩=some (.int .i64 l[k])):
 Calls V.prog 161 #[.pointer (some ⟨m,0,none⟩),.slice p l.length s] w (fi λv e=>v=.int .i64 (pH W l)/\e=w):=by
 have u:=xe q l;refine gd Tryz.func161 Tryz.ntmps161 ?_;refine cS (eE (n:=l.length) (λk=>[(0,.pointer (some ⟨m,0,none⟩)),(9,.slice p l.length s),(10,i64 l.length),(11,i64 k),(5,i64 (wK W l k)),(6,i64 (xd l k))]) (λ_ e=>e=w) ?_ ?_ ?_ ?_);exact⟨by trivial,rfl⟩;rintro k e g rfl;exact du ⟨rfl,rfl,by trivial,rfl⟩;rintro k e g rfl;obtain⟨b,o,rfl,y⟩:=f k g;have B:=r _ (ef g);have c:=Ml r k (by omega);have z:=u k;have A:=q (xd l k) (l[k]+1);refine fw k g (cu y (cF (wZ (xd l k) 6 6 c (th (l[k]+1) 6 (by omega) (cu (a _ (l[k]+1) c (by omega)) (cF (cF (cF ?_))))))));have x:l.getD k 0=l[k]:=getD_eq g;refine⟨⟨rfl,rfl,rfl,rfl,?_,?_,trivial⟩,rfl⟩;show _=some (Value.int .i64 (wK W l k+W (xd l k) (l.getD k 0+1)));rw[x];rfl;show _=some (Value.int .i64 ((l.getD k 0+1:Nat):Int));rw[x];rfl;rintro e rfl;have c:=Ml r l.length (cJ _);have z:=u l.length;have A:=q (xd l l.length) 0;exact wZ (xd l l.length) 6 6 c (th 0 6 (by omega) (cu (a _ 0 c (by omega)) (cF ⟨_,rfl,rfl,rfl⟩)))
def Ji(m:Nat)(W:Nat->Nat->Int)(n:Int)(l:List Nat)(p:Option Addr)(r:Nat)(w:cn)(q:w.cell? ⟨m,2,none⟩=some (.int .i64 n))(a:∀i j,i<6->j<6->w.cell? ⟨m,7+i*6+j,none⟩=some (.int .i64 (W i j)))(s:∀i j,0<=W i j/\W i j<=1000) (y:∀d∈l,d<5)(c:l.length<=100000)(f:∀k (h:k<l.length),∃b o,p=some ⟨b,o,none⟩/\w.cell? ⟨b,o+k,none⟩=some (.int .i64 l[k]))(g:0<=n/\n<=1000):
 Calls V.prog 114 #[.pointer (some ⟨m,0,none⟩),.slice p l.length r] w (fi λv z=>v=.int .i64 (BH W n l)/\Ext w z):=by
 have t:=tj s l;have u:=Int.mul_le_mul_of_nonneg_left g.2 (Int.natCast_nonneg l.length);have C:=Cu (Int.natCast_nonneg l.length) g.1;refine gd Tryz.func114 Tryz.ntmps114 ?_;refine cX cV ?_;refine iC cV _ (λx e=>yB m W l p r x (λi j A B=>e.cell (a i j A B)) s y c λk h=>by obtain⟨b,o,t,u⟩:=f k h;exact⟨b,o,t,e.cell u⟩) (kX (cK q (GA (vf λx e=>⟨_,rfl,rfl,e⟩))))
end Go.Proofs.W
variable{w t e:cn}
namespace Go.Proofs.W
open Go.RowKit
def tk(a b:Int):Int:=max (a-b) (b-a)
def Ic(a b:Int)(w:cn)(d:0<=a/\a<=1000000)(e:0<=b/\b<=1000000):Calls V.prog 178 #[.int .i64 a,.int .i64 b] w (fi λv c=>v=.int .i64 (tk a b)/\c=w):=by refine gd Tryz.func178 Tryz.ntmps178 ?_;exact fx (fx (rj ⟨_,rfl,rfl,rfl⟩))
def GB(b:Nat)(n T:Int)(w:cn)(a:w.cell? ⟨b,5,none⟩=some (.int .i64 T)):Calls V.prog 179 #[.int .i64 n,.pointer (some ⟨b,0,none⟩)] w (fi λv c=>v=.bool (decide (T<=n))/\c=w):=by refine gd Tryz.func179 Tryz.ntmps179 ?_;exact cu a (yz ⟨_,rfl,rfl,rfl⟩)
def GC(b:Nat)(m n T:Int)(w:cn)(c:w.cell? ⟨b,5,none⟩=some (.int .i64 T)):Calls V.prog 180 #[.int .i64 m,.int .i64 n,.pointer (some ⟨b,0,none⟩)] w (fi λv d=>v=.bool (decide (T<2)||(decide (0<m)&&decide (0<n)))/\d=w):=by refine gd Tryz.func180 Tryz.ntmps180 ?_;refine cu c (du ⟨λh=>?_,λh=>?_⟩);exact⟨_,rfl,by simp[h],rfl⟩;refine lZ ⟨λa=>lZ ⟨_,rfl,by simp[h,a],rfl⟩,λa=>⟨_,rfl,by simp[h,a],rfl⟩⟩
def Mm(a:Nat)(D:Int)(w:cn)(b:w.cell? ⟨a,4,none⟩=some (.int .i64 D))(d:0<=D/\D<=1000):Calls V.prog 107 #[.pointer (some ⟨a,0,none⟩)] w (fi λv c=>v=.int .i64 (2*D-1)/\c=w):=by refine gd Tryz.func107 Tryz.ntmps107 ?_;exact cu b (pE (fx ⟨_,rfl,rfl,rfl⟩))
def gF(w:cn)(a:ek)(l:gC):Prop:=∀k (h:k<l.length),∃b o,a=some ⟨b,o,none⟩/\w.cell? ⟨b,o+k,none⟩=some (.int .i64 l[k])
def gF.ext{l:gC}(h:gF w a l)(e:Ext w t):gF t a l:=λk c=>by obtain⟨b,o,d,f⟩:=h k c;exact⟨b,o,d,e.cell f⟩
theorem gF.take{l:gC}(h:gF w a l)(i:Nat):gF w a (l.take i):=λk d=>by
 have c:k<l.length:=by simp at d;omega
 obtain⟨b,o,e,f⟩:=h k c;exact⟨b,o,e,by rw[f];simp⟩
def Ee(x:Int):gC->Nat->Int
 |[],_=> -1
 |y::r,i=>if x=y then i else Ee x r (i+1)
def Jj(x:Int)(l:gC)(k:Nat)(a:k<l.length):Ee x (l.drop k) k=if x=l[k]then(k:Int)else Ee x (l.drop (k+1)) (k+1):=by rw[sn a];rfl
def Jk(l:List Int)(x:Int)(e:Option Addr)(f:Nat)(w:cn)(i:gF w e l)(g:l.length<=100000):Calls V.prog 176 #[.slice e l.length f,.int .i64 x] w (fi λv c=>v=.int .i64 (Ee x l 0)/\c=w):=by
 refine gd Tryz.func176 Tryz.ntmps176 ?_;refine cS (eE (n:=l.length) (λk=>[(0,.slice e l.length f),(1,i64 x),(7,i64 l.length),(8,i64 k)]) (λk c=>c=w/\Ee x l 0=Ee x (l.drop k) k) ⟨by trivial,rfl,rfl⟩ ?_ ?_ ?_);rintro k c d ⟨rfl,a⟩;exact du ⟨rfl,rfl,by trivial,rfl,a⟩;rintro k c d ⟨rfl,a⟩;obtain⟨b,o,rfl,j⟩:=i k d;rw[Jj x l k d]at a;refine fw k d (cu j (ff ⟨λh=>?_,λh=>?_⟩));have h:x=l[k]:=by simpa using h
 exact⟨_,rfl,by rw[a,cB h];rfl,rfl⟩;have h:¬x=l[k]:=by simpa using h
 rw[cy h]at a;exact cF ⟨by trivial,rfl,a⟩;rintro c ⟨rfl,a⟩;exact⟨_,rfl,by rw[a];simp[Ee],rfl⟩
structure Dr where
 st:Int
 at_:Int
 talk:Int
structure Gd where
 streets:Int
 corner:Int
 knock:Int
 minutes:Int
 days:Int
 tries:Int
 doors:List Dr
def dL(d:Dr):dr:=[.int .i64 d.st,.int .i64 d.at_,.int .i64 d.talk]
def fZ(w:cn)(a:ek)(l:List Dr):Prop:=∀k (h:k<l.length),∃b o,a=some ⟨b,o,none⟩/\w.cell? ⟨b,o+k*3,none⟩=some (.int .i64 l[k].st)/\w.cell? ⟨b,o+k*3+1,none⟩=some (.int .i64 l[k].at_)/\w.cell? ⟨b,o+k*3+2,none⟩=some (.int .i64 l[k].talk)
def fZ.ext{l:List Dr}(h:fZ w a l)(e:Ext w t):fZ t a l:=λk c=>by obtain⟨b,o,d,f,g,i⟩:=h k c;exact⟨b,o,d,e.cell f,e.cell g,e.cell i⟩
def gL(G:Gd)(a:ek)(b:Nat):dr:=[.int .i64 G.streets,.int .i64 G.corner,.int .i64 G.knock,.int .i64 G.minutes,.int .i64 G.days,.int .i64 G.tries,.slice a G.doors.length b]
def gV(G:Gd)(a:ek)(b:Nat):cq:=.agg (gL G a b).toArray
def jV(G:Gd):Bool:=kP G.streets 1 3&&(kP G.corner 1 9&&(kP G.knock 1 5&&(kP G.minutes 1 90&&(kP G.days 1 3&&kP G.tries 1 G.days))))
def nC(n:Int)(d:Dr):Int:=if kP d.st 0 (n-1)then(if kP d.at_ 0 20&&kP d.talk 1 9 then 0 else 1)else 3
def lK(n:Int):List Dr->Int
 |[]=>0
 |d::r=>if nC n d=0 then lK n r else nC n d
def dK(G:Gd):Int:=if jV G then(if(5:Int)<G.doors.length then 6 else lK G.streets G.doors)else 1
def vV(n:Int)(l:List Dr)(k:Nat)(a:k<l.length):lK n (l.drop k)=if nC n l[k]=0 then lK n (l.drop (k+1))else nC n l[k]:=by rw[sn a];rfl
def Jl(G:Gd)(t:Option Addr)(D:Nat)(w:cn)(H:fZ w t G.doors)(E:G.doors.length<=100000):Calls V.prog 146 #[gV G t D] w (fi λv m=>v=.int .i64 (dK G)/\Ext w m):=by
 refine gd Tryz.func146 Tryz.ntmps146 ?_;refine ej λu I f J c=>?_;have a:∀{b:Bool},jV G=false->∃v,Ending.returned (one [Value.int .i64 1])=.returned v/\v=Value.int .i64 (dK G)/\Ext w u:=λh=>⟨_,rfl,by simp[dK,h],f⟩;refine cu (cr c rfl) (dg (eY _ _ _ _) (ei ⟨λh=>jZ h (a (b:=true) (by simp at h;simp[jV,h])),λg=>?_⟩));refine cu (cr c rfl) (dg (eY _ _ _ _) (ei ⟨λh=>jZ h (a (b:=true) (by simp at h;simp[jV,h])),λq=>?_⟩));refine cu (cr c rfl) (dg (eY _ _ _ _) (ei ⟨λh=>jZ h (a (b:=true) (by simp at h;simp[jV,h])),λr=>?_⟩));refine cu (cr c rfl) (dg (eY _ _ _ _) (ei ⟨λh=>jZ h (a (b:=true) (by simp at h;simp[jV,h])),λK=>?_⟩));refine cu (cr c rfl) (dg (eY _ _ _ _) (ei ⟨λh=>jZ h (a (b:=true) (by simp at h;simp[jV,h])),λL=>?_⟩));refine cu (cr c rfl) (cu (cr c rfl) (dg (eY _ _ _ _) (ei ⟨λh=>(a (b:=true) (by simp at h;simp[jV,h])),λM=>?_⟩)));have S: -1000000<=G.streets/\G.streets<=1000000:=by simp[kP]at g;omega
 have F:jV G=true:=by simp at g q r K L M;simp[jV, *]
 refine cu (cr c rfl) (cS (lZ ⟨λh=>⟨_,rfl,by simp at h;simp[dK,F,h],f⟩,λx=>?_⟩));have x:¬(5:Int)<G.doors.length:=by simpa using x
 have y:dK G=lK G.streets G.doors:=by simp[dK,F,x]
 refine cu (cr c rfl) (cS (eE (n:=G.doors.length) (λk=>[(1,.pointer (some ⟨I,0,none⟩)),(38,.slice t G.doors.length D),(39,i64 G.doors.length),(40,i64 k)]) (λk m=>Ext u m/\dK G=lK G.streets (G.doors.drop k)) ⟨by trivial,Ext.refl _,by rw[y];rfl⟩ ?_ ?_ ?_));rintro k m s ⟨e,d⟩;exact du ⟨rfl,rfl,by trivial,e,d⟩;rintro k m s ⟨e,d⟩;obtain⟨b,o,rfl,N,z,O⟩:=(H.ext (f.trans e)) k s;rw[vV _ _ k s]at d;refine eN k 3 s (dJ (vs:=dL G.doors[k]) (λj v i=>?_) (eD λT U P A B=>dq B λQ R l=>?_));match j,i with
 |0,i=>cases i;exact N
 |1,i=>cases i;exact z
 |2,i=>cases i;exact O
 have p:Ext u Q:=(e.trans P).cC R (cZ e.size A);have C:=p.at_ c;refine cu (cr l rfl) (cu (cr C rfl) (fx (dg (eY _ _ _ _) (ei ⟨λh=>?_,λg=>?_⟩))));exact⟨_,rfl,by simp at h;rw[d];simp[nC,h],f.trans p⟩;simp at g;refine cu (cr l rfl) (dg (eY _ _ _ _) (ei ⟨λh=>jZ h ?_,λq=>?_⟩));exact⟨_,rfl,by simp at h;rw[d];simp[nC,g,h],f.trans p⟩;simp at q;refine cu (cr l rfl) (dg (eY _ _ _ _) (ei ⟨λh=>?_,λr=>?_⟩));exact⟨_,rfl,by simp at h;rw[d];simp[nC,g,h],f.trans p⟩;simp at r;exact cF ⟨by trivial,p,by rw[d];simp[nC,g,q,r]⟩;rintro m ⟨e,d⟩;exact⟨_,rfl,by rw[d];simp[lK],f.trans e⟩
end Go.Proofs.W
variable{T U:cw}
namespace Go.Proofs.W
open Go.RowKit
section
variable{w:cn}{k:cq->cn->Prop}
def QL(h:∀a b,Ext w a->w.heap.size<=b->a.heap[b]? =some (.map #[] 0)->k (.map (some b)) a):jj V.prog (Instr.makeMap T none) w k:=
 ⟨_,_,run_makeMap T w,h _ w.me (Ext.alloc _ _) (cJ _) (fp _ _)⟩
def dS{s:Sem cq}(v:cq)(h:k v w)(a:∀w,Sem.run V.prog s w=.ok v w:=by intro _;kernel_rfl):jj V.prog s w k:=⟨v,w,a w,h⟩
def eg{a:Array (Nat×cq)}(d:dr)(e:cw)(h:∀b c,Ext w b->w.heap.size<=c->b.heap[c]? =some (.cells d.toArray e)->k (.slice (some ⟨c,0,none⟩) m m) b)
 (f:∀w,Sem.run V.prog (Instr.buildSlice T m a) w=.ok (.slice (some ⟨w.heap.size,0,none⟩) m m) (w.alloc (.cells d.toArray e)):=by intro _;kernel_rfl):jj V.prog (Instr.buildSlice T m a) w k:=
 ⟨_,_,f w,h _ w.me (Ext.alloc _ _) (cJ _) (fp _ _)⟩
def Ef(b e:cw)(a:dr):Prop:=V.prog.underlying b=some (.slice e)/\∃i z,V.prog.info? e=some i/\i.zero=some z/\z.cells=a.toArray/\i.size=a.length/\i.bytes<=256/\0<a.length
def Ph:Ef 22 81 [.int .i64 0,.int .i64 0,.int .i64 0]:=⟨by kernel_rfl,Tryz.t81,_,by kernel_rfl,rfl,by kernel_rfl,by kernel_rfl,by decide+kernel,by decide⟩
def sg:Ef 27 3 [.int .i64 0]:=⟨by kernel_rfl,Tryz.t3,_,by kernel_rfl,rfl,by kernel_rfl,by kernel_rfl,by decide+kernel,by decide⟩
def Pi:Ef 66 27 [.slice none 0 0]:=⟨by kernel_rfl,Tryz.t27,_,by kernel_rfl,rfl,by kernel_rfl,by kernel_rfl,by decide+kernel,by decide⟩
def GD{e:cw}{l:dr}{q:Array Bool}(r:Ef T e l){v:cq}{o:dr}(s:cR i e l w v j o)(n:i<=w.heap.size){m c:Nat}{news:dr}(t:news.length=m*l.length)(x:0<m) (a:∀p u,news[p]? =some u->w.cell? (h.add p)=some u)(y:∀u∈news,u.oneCell'=true)(g:j+m<=1000000) (A:∀d f,cR i e l f d (j+m) (o++news)->cW (cH v) w f->(∀b,cH d b->cH v b\/w.heap.size<=b)->k d f):zV V.prog (builtin .append #[T,T] U q #[v,.slice (some h) m c]) w k:=by obtain⟨B,M,z,C,D,E,F,G,H⟩:=r;obtain⟨d,f,I,J,K,L⟩:=Gt (ty:=U) B C D E F G H s n (c:=c) t x a y g;refine⟨d,f,?_,A d f J K L⟩;unfold builtin;simp only[Sem.run_bind,I,Result.andThen_ok,Sem.run_pure]
def gq{e:cw}{d:dr}{p:Array Bool}(q:Ef T e d){v:cq}{n:dr}(h:cR m e d w v i n)(f:m<=w.heap.size){b:dr}{a:cw}(r:w.heap[j]? =some (.cells b.toArray a))(c:i+1<=1000000)
 (s:∀g l,cR m e d l g (i+1) (n++b)->cW (cH v) w l->(∀j,cH g j->cH v j\/w.heap.size<=j)->k g l)(t:Nat.beq b.length d.length=true:=by rfl)(x:ri b=true:=by rfl):zV V.prog (builtin .append #[T,T] U p #[v,.slice (some ⟨j,0,none⟩) 1 o]) w k:=
 GD q h f (by rw[Nat.one_mul];exact gM t) (by omega) (λz u y=>by rw[iB,cG];exact cr r (by simpa using y)) (fK x) c s
def BI{e:cw}{f:dr}{g:Array Bool}(l:Ef T e f){b:ek}(n:m<=i)(h:k (.slice a m i) w):zV V.prog (builtin .append #[T,T] U g #[.slice a m i,.slice b 0 j]) w k:=by
 obtain⟨c,o,z,d,r,s,t,u,v⟩:=l;refine⟨_,w,?_,h⟩;rw[V.sB]at c;rw[V.Hx]at d;have p:Sem.run jD (sizeOf e) w=.ok o.size w:=Gy d w;have q:Sem.run jD (Builtin.append_ #[T,T] U #[.slice a m i,.slice b 0 j]) w=.ok (.slice a m i) w:=by unfold Builtin.append_;simp only[Cv,Hr,Ad,Sem.run_bind,gB c,Result.andThen_ok,p,Sem.run_pure];simp only[ik,eF,Builtin.lenOf,Sem.run_pure,Result.andThen_ok,mX,n,dF,Bool.not_false];cases b<;>cases a<;>simp[Builtin.firstCells,loadCells,loadCellsFrom,storeCells,Sem.run_bind,Sem.run_pure]<;>(intro h;omega)
 unfold builtin;simp only[Sem.run_bind,q,Result.andThen_ok,Sem.run_pure]
end
end Go.Proofs.W
variable{H N:Go.Proofs.W.Gd}{I J:Int}{S:cn->Prop}
namespace Go.Proofs.W
open Go.RowKit
def dV(G:Gd):List Dr:=⟨0,0,0⟩::G.doors
def BJ(c:Int)(a b:Dr):Int:=if a.st=b.st then tk a.at_ b.at_ else a.at_+b.at_+c*tk a.st b.st
def lj(G:Gd)(i j:Nat):Int:=match(dV G)[i]?,(dV G)[j]? with
 |some a,some b=>BJ G.corner a b
 |_,_=>0
def QM(f a:Nat):cq:=.func (.func f) #[] #[.pointer (some ⟨a,0,none⟩)]
def Eg(G:Gd)(a:ek)(dc mk ms:Nat)(b c:cq)(f:Nat->Nat->Int)(j:Nat):cq:=
 if j<7 then(gL G a dc).getD j undef else if j<43 then .int .i64 (f ((j-7)/6) ((j-7)%6))else if j=43 then .map (some mk)else if j=44 then .map (some ms)else if j=45 then b else c
structure nD(gp:Nat)(C:Nat->cq)(w:cn):Prop where
 out:∃cs,w.heap[gp]? =some (.cells cs 186)/\cs.size=47/\∀j,j<47->cs[j]? =some (C j)
def nD.cell{C:Nat->cq}(h:nD m C w)(j:Nat)(a:j<47:=by omega):w.cell? ⟨m,j,none⟩=some (C j):=by obtain⟨d,b,e,c⟩:=h.out;exact cr b (c j a)
def nD.ext{C:Nat->cq}(h:nD m C w)(e:Ext w t):nD m C t:=by obtain⟨a,b,c,d⟩:=h.out;exact⟨a,e.at_ b,c,d⟩
def nD.mono{C a:Nat->cq}(h:nD m C w)(e:∀j,j<47->C j=a j):nD m a w:=by obtain⟨c,d,f,g⟩:=h.out;exact⟨c,d,f,λj b=>by rw[g j b,e j b]⟩
theorem nE:∀(b:dr) (a:dU) (o j:Nat),o+b.length<=a.size->(gl a o b)[j]? =if o<=j/\j<o+b.length then b[j-o]? else a[j]?
 |[],a,o,j,_=>by simp[gl];omega
 |v::r,a,o,j,h=>by simp only[eI]at h;have e:=nE r (a.setIfInBounds o v) (o+1) j (by simp;omega);simp only[gl,e,eI];by_cases c:o+1<=j/\j<o+1+r.length;rw[cB c,cB (by omega)];rw[show j-o=(j-(o+1))+1 by omega];simp;rw[cy c];by_cases d:o=j;subst d;rw[cB (by omega),kI (by omega)];simp;rw[cy (by omega),eo d]
theorem n5:∀(b:dr) (a:dU) (o:Nat),(gl a o b).size=a.size
 |[],_,_=>rfl
 |v::r,a,o=>by rw[gl,n5 r];simp
def Mn{C:Nat->cq}(h:nD m C w)(p:o+x.cells.size<=47)(b:∀a,cW (λc=>c=m) w a->nD m (λj=>if o<=j/\j<o+x.cells.size then x.cells.toList.getD (j-o) undef else C j) a->S a)
 (d:ri x.cells.toList=true:=by rfl)(e:NX T=some x.cells.size:=by rfl):DO V.prog (Instr.storeAt T (.pointer (some ⟨m,o,none⟩)) x) w S:=by
 obtain⟨q,f,g,i⟩:=h.out;refine iT f (by omega) (λa k l=>b a k ⟨_,l,by rw[n5];exact g,λj n=>?_⟩) (fK d) e;rw[nE _ _ _ _ (by simp;omega)];simp only[Array.length_toList];split;rename_i r;have:j-o<x.cells.toList.kq:=by simp;omega
 rw[jG,eV this];rfl;exact i j n
structure oK(gp mk ms:Nat)(G:Gd)(w:cn):Prop where
 at_:∃da dc gb,nD gp (Eg G da dc mk ms (QM 179 gb) (QM 180 gb) (lj G)) w/\fZ w da G.doors/\w.cell? ⟨gb,5,none⟩=some (.int .i64 G.tries)
 ok:dK G=0
 mlt:mk<w.heap.size
 slt:ms<w.heap.size
 ne:mk≠ms
 gk:gp≠mk/\gp≠ms
theorem oK.ext{gp mk ms:Nat}(h:oK gp mk ms H w)(e:Ext w t):oK gp mk ms H t:=by obtain⟨a,b,c,d,f,g⟩:=h.at_;exact⟨⟨a,b,c,d.ext e,f.ext e,e.cell g⟩,h.ok,dE h.mlt e.size,dE h.slt e.size,h.ne,h.gk⟩
structure Gd.Ok(G:Gd):Prop where
 streets:1<=G.streets/\G.streets<=3
 corner:1<=G.corner/\G.corner<=9
 knock:1<=G.knock/\G.knock<=5
 minutes:1<=G.minutes/\G.minutes<=90
 days:1<=G.days/\G.days<=3
 tries:1<=G.tries/\G.tries<=G.days
 many:G.doors.length<=5
 door:∀d∈G.doors,(0<=d.st/\d.st<=2)/\(0<=d.at_/\d.at_<=20)/\1<=d.talk/\d.talk<=9
theorem AE(c:I<=3):∀{l:List Dr},lK I l=0->∀d∈l,(0<=d.st/\d.st<=2)/\(0<=d.at_/\d.at_<=20)/\1<=d.talk/\d.talk<=9
 |x::r,h,d,b=>by simp only[lK]at h;split at h;rename_i a;rcases eO.1 b with rfl|b;simp only[nC]at a;split at a;split at a;rename_i e f;simp[kP]at e f;omega;omega;omega;exact AE c h d b;rename_i a;exact absurd h a
def eQ(h:dK H=0):H.Ok:=by simp only[dK]at h;split at h;rename_i a;split at h;omega;rename_i b;simp[jV,kP]at a;refine⟨by omega,by omega,by omega,by omega,by omega,by omega,by omega,AE (by omega) h⟩;omega
def uf(h:H.Ok)(i j:Nat):0<=lj H i j/\lj H i j<=1000:=by
 have f:∀d∈dV H,(0<=d.st/\d.st<=2)/\(0<=d.at_/\d.at_<=20):=λd c=>by rcases eO.1 c with rfl|c;simp;exact⟨(h.door d c).1,(h.door d c).2.1⟩
 unfold lj;split;rename_i a b g k;have m:=f a (vD g);have n:=f b (vD k);have l:=h.corner;unfold BJ;split;unfold tk;omega;have e:0<=tk a.st b.st/\tk a.st b.st<=2:=by unfold tk;omega
 have:=Int.mul_le_mul l.2 e.2 e.1 (by omega);have:=Cu (show 0<=H.corner by omega) e.1;omega;omega
end Go.Proofs.W
variable{A B C:Nat->Prop}
namespace Go.Proofs.W
open Go.RowKit
def oZ(G:Gd)(i k a b:Nat):Int:=if a<i\/(a=i/\b<k)then lj G a b else 0
def Eh(G:Gd)(h:(dV G).length<=m\/(dV G).length<=k):lj G m k=0:=by unfold lj;rcases h with h|h;rw[Hs h];rw[Hs h];split<;>simp_all
def Pj(G:Gd)(a:m<(dV G).length)(b:k<(dV G).length):lj G m k=BJ G.corner (dV G)[m] (dV G)[k]:=by unfold lj;rw[eV a,eV b]
def Mo(G:Gd)(a:ek)(dc mk ms:Nat)(b c:cq)(i k:Nat)(l:i<6)(m:k<6)(n:Int)(g:n=lj G i k)(j:Nat)(o:j<47):
 (if 7+i*6+k<=j/\j<7+i*6+k+1 then([Value.int .i64 n]:dr).getD (j-(7+i*6+k)) undef else Eg G a dc mk ms b c (oZ G i k) j)=Eg G a dc mk ms b c (oZ G i (k+1)) j:=by
 split;rename_i h;obtain rfl:j=7+i*6+k:=by omega
 simp only[mZ,List.getD_cons_zero,Eg];rw[cy (by omega),cB (by omega)];have d:(7+i*6+k-7)/6=i:=by omega
 have f:(7+i*6+k-7)%6=k:=by omega
 rw[d,f];simp[oZ,g];rename_i h;simp only[Eg];split;rfl;split;rename_i d f;have:¬((j-7)/6=i/\(j-7)%6=k):=by omega
 congr 1;simp only[oZ];have e:((j-7)/6<i\/(j-7)/6=i/\(j-7)%6<k)↔((j-7)/6<i\/(j-7)/6=i/\(j-7)%6<k+1):=by omega
 simp only[e];rfl
def Pk{ds:List Dr}(h:cR m 81 [.int .i64 0,.int .i64 0,.int .i64 0] w x k (ds.flatMap dL))(p:k=ds.length):∃a c,x=.slice a k c/\fZ w a ds/\∀b o,a=some ⟨b,o,none⟩->m<=b:=by
 subst p;have j:∀(ds:List Dr) (f:Nat) (g:f<ds.length),(ds.flatMap dL)[f*3]? =some (i64 ds[f].st)/\(ds.flatMap dL)[f*3+1]? =some (i64 ds[f].at_)/\(ds.flatMap dL)[f*3+2]? =some (i64 ds[f].talk):=by
  intro ds;induction ds with
  |nil=>intro f g;simp at g
  |cons d r q=>
   intro f g;cases f with
   |zero=>simp[dL]
   |succ f=>
    have:=q f (by simpa using g);have e:(f+1)*3=f*3+3:=by omega
    simpa[dL,e]using this
 obtain⟨s,⟨t,rfl⟩|⟨b,c,z,A,rfl,i,B,C,D,l,E⟩⟩:=h;exact⟨none,0,by rw[t],λf g=>by omega,λ_ _ h=>by cases h⟩;refine⟨_,c,rfl,λf g=>⟨b,0,rfl,?_⟩,λ_ _ h=>by injection h with h;injection h with F i;omega⟩;have n:(ds.flatMap dL).length=ds.length*3:=by simpa using s
 obtain⟨u,v,y⟩:=j ds f g;refine⟨cr i ?_,cr i ?_,cr i ?_⟩;rw[cG,l _ (by omega)];exact u;rw[cG,l _ (by omega)];exact v;rw[cG,l _ (by omega)];exact y
theorem ug:∀(a:List Dr) (k:Nat) (b:k<a.length),(a.flatMap dL)[k*3]? =some (.int .i64 a[k].st)/\(a.flatMap dL)[k*3+1]? =some (.int .i64 a[k].at_)/\(a.flatMap dL)[k*3+2]? =some (.int .i64 a[k].talk)
 |d::r,0,_=>by simp[dL]
 |d::r,k+1,b=>by
  have:=ug r k (by simpa using b);have e:(k+1)*3=k*3+3:=by omega
  simpa[dL,e]using this
theorem yC:∀a:List Dr,(a.flatMap dL).length=a.length*3
 |[]=>rfl
 |d::r=>by have:=yC r;simp[dL,this];omega
def GF{b:List Dr}(h:fZ w (some ⟨m,o,none⟩) b)(j:Nat)(u:cq)(a:(b.flatMap dL)[j]? =some u):w.cell? ⟨m,o+j,none⟩=some u:=by
 have t:j<b.kq*3:=by rw[<-yC];exact(iI.1 a).1
 have d:j/3<b.kq:=by omega
 obtain⟨f,g,e,i,k,l⟩:=h (j/3) d;obtain⟨rfl,rfl⟩:m=f/\o=g:=by injection e with e;injection e with n p;exact⟨n,p⟩
 obtain⟨q,r,s⟩:=ug b (j/3) d;have c:j%3=0\/j%3=1\/j%3=2:=by omega
 rcases c with c|c|c;have e:j=j/3*3:=by omega
 rw[e]at a⊢;rw[q]at a;cases a;exact i;have e:j=j/3*3+1:=by omega
 rw[e]at a⊢;rw[r]at a;cases a;exact k;have e:j=j/3*3+2:=by omega
 rw[e]at a⊢;rw[s]at a;cases a;exact l
def Pm{s:nd}{z:Array Bool}{f e:List Dr}(h:cR m 81 [.int .i64 0,.int .i64 0,.int .i64 0] w x k (f.flatMap dL))(q:m<=w.heap.size)(t:fZ w a e)(g:k+e.length<=1000000) (v:∀n l,cR m 81 [.int .i64 0,.int .i64 0,.int .i64 0] l n (k+e.length) ((f++e).flatMap dL)->cW (cH x) w l->s n l):zV V.prog (builtin .append #[22,22] T z #[x,.slice a e.length i]) w s:=by
 rcases e with _|⟨d,r⟩;have A:∃y c,x=.slice y k c/\k<=c:=by obtain⟨_,⟨rfl,rfl⟩|⟨b,c,G,_,rfl,_,_,B,_⟩⟩:=h;exact⟨_,_,rfl,cJ _⟩;exact⟨_,_,rfl,B⟩
 obtain⟨y,c,rfl,C⟩:=A;exact BI Ph C (v _ _ (by simpa using h) (cW.refl _ w));obtain⟨b,o,rfl,_⟩:=t 0 (by simp);refine GD Ph h q (news:=(d::r).flatMap dL) (yC _) (by simp) (λj u D=>by rw[iB];exact GF t j u D) (λu p=>?_) g λn l E F _=>v n l (by simpa using E) F;obtain⟨H,_,p⟩:=sq.1 p;simp[dL]at p;rcases p with rfl|rfl|rfl<;>rfl
def fZ.keep{c:List Dr}(h:fZ w a c)(k:cW A w t)(d:∀b o,a=some ⟨b,o,none⟩->¬A b):fZ t a c:=λi e=>by obtain⟨b,o,rfl,f,g,j⟩:=h i e;have:=d b o rfl;exact⟨b,o,rfl,k.eP f this,k.eP g this,k.eP j this⟩
def nD.keep{C:Nat->cq}(h:nD m C w)(k:cW A w t)(a:¬A m):nD m C t:=by obtain⟨b,c,d,e⟩:=h.out;exact⟨b,k.fe c a,d,e⟩
def Ei(h:H.Ok)(d:Dr)(a:d∈dV H):(0<=d.st/\d.st<=2)/\(0<=d.at_/\d.at_<=20):=by rcases eO.1 a with rfl|a;simp;exact⟨(h.door d a).1,(h.door d a).2.1⟩
def Mp(h:cW (cH (.slice (some ⟨m,o,none⟩) k i)) w t):cW (λx=>x=m) w t:=
 ⟨h.os,h.tape,h.output,h.size,h.drawn,λx a b=>h.block x a λ⟨c,d,e⟩=>b (by injection e with e;exact(cT Addr.block (cO e)).symm)⟩
def Us(G:Gd)(a:ek)(dc mk ms:Nat):dr:=gL G a dc++(List.replicate 36 (Value.int .i64 0)++[Value.map (some mk),Value.map (some ms),Value.nilFunc,Value.nilFunc])
def Jm(G:Gd)(l:Option Addr)(p:Nat)(w:cn)(hd:fZ w l G.doors)(W:G.doors.length<=100000):
 Calls V.prog 144 #[gV G l p] w (fi λv z=>Ext w z/\((dK G≠0/\v=.tuple #[.pointer none,.int .i64 (dK G)])\/(dK G=0/\∃d mk m,v=.tuple #[.pointer (some ⟨d,0,none⟩),.int .i64 0]/\oK d mk m G z/\
  w.heap.size<=d/\w.heap.size<=mk/\w.heap.size<=m/\z.heap[mk]? =some (.map #[] 0)/\z.heap[m]? =some (.map #[] 0)))):=by
 refine gd Tryz.func144 Tryz.ntmps144 ?_;refine ej λX F H aI hb=>?_;refine dJ (vs:=gL G l p) (λj v f=>by rw[cG];exact cr hb (by simpa[gV,Value.cells]using f)) ?_;refine dG (Jl G l p X (hd.ext H) W) λw2 I=>?_;refine fD ⟨λh=>⟨_,rfl,H.trans I,.inl ⟨by simpa using h,rfl⟩⟩,λh=>?_⟩;have P:dK G=0:=by simpa using h
 have ok:=eQ P;have A:=I.at_ hb;refine dJ (vs:=gL G l p) (λj v f=>by rw[cG];exact cr A (by simpa[gV,Value.cells]using f)) ?_;refine QL λw3 mk N aJ hm=>QL λw4 m J aK Y=>?_;refine dS (.agg (Us G l p mk m).toArray) ?_;refine ej λw5 d e5 al hg=>?_;have E5:Ext w w5:=(((H.trans I).trans N).trans J).trans e5;refine dS (.agg #[i64 0,i64 0,i64 0]) ?_;refine eg (dL ⟨0,0,0⟩) 81 λw6 pb e6 am hp=>?_;have an:fZ w6 l G.doors:=hd.ext (E5.trans e6);refine cu (cr ((N.trans (J.trans (e5.trans e6))).at_ A) rfl) ?_;have ao:nD d (Eg G l p mk m .nilFunc .nilFunc (oZ G 0 0)) w5:=by
  refine⟨_,hg,by simp[Value.cells,Us,gL],λj f=>?_⟩;show(Us G l p mk m).toArray[j]? =_;have h0:∀a b,oZ G 0 0 a b=0:=λa b=>by simp[oZ]
  rw[Cv];unfold Us Eg;split;rename_i h7;rw[nT (by simpa[gL]using h7),jG,eV (by simpa[gL]using h7)];rfl;rename_i h7;rw[oM (by simp[gL];omega)];have hl:(gL G l p).length=7:=rfl;rw[hl];split;rename_i ap;rw[nT (by simp;omega),List.getElem?_replicate,cB (by omega),h0]
  ·rename_i ap;rw[oM (by simp;omega),List.length_replicate];obtain rfl|rfl|rfl|rfl:j=43\/j=44\/j=45\/j=46:=by omega
   all_goals rfl
 have aq:cR pb 81 [i64 0,i64 0,i64 0] w6 (.slice (some ⟨pb,0,none⟩) 1 1) 1 (([⟨0,0,0⟩]:List Dr).flatMap dL):=
  ⟨rfl,.inr ⟨pb,1,_,cJ _,rfl,hp,rfl,cJ _,by decide,λj f=>by simp[List.flatMap],λj h1 h2=>by simp[dL]at h1 h2;omega⟩⟩
 have aH:=cP.lt_of_heap hp;refine Pm aq (by omega) an (by omega) λv w7 ar k7=>?_;have e7:Ext w5 w7:=e6.cC (Mp k7) am;have Z:(dV G).length=1+G.doors.length:=by simp[dV];omega
 obtain⟨pa,pc,rfl,au,av⟩:=Pk (ds:=dV G) ar Z.symm;rw[<-Z];have aw:=ao.ext e7;have ax:=(N.trans (J.trans (e5.trans e7))).at_ A;have h6:(dV G).length<=6:=by have:=ok.many;omega
 have lb:F<w2.heap.size:=cP.lt_of_heap A;have lm:mk<w3.heap.size:=cP.lt_of_heap hm;have ls:m<w4.heap.size:=cP.lt_of_heap Y;have lg:d<w5.heap.size:=cP.lt_of_heap hg;have s3:=N.size;have s4:=J.size;have B:d≠mk/\d≠m/\F≠d/\mk≠m:=by omega
 refine cS (eE (n:=(dV G).length) (λk=>[(1,.pointer (some ⟨F,0,none⟩)),(5,.pointer (some ⟨d,0,none⟩)),(6,.slice pa (dV G).length pc),(26,.slice pa (dV G).length pc),(27,i64 (dV G).length),(28,i64 k)])
  (λi z=>cW (λx=>x=d) w7 z/\nD d (Eg G l p mk m .nilFunc .nilFunc (oZ G i 0)) z) ⟨by trivial,cW.refl _ _,aw⟩ ?_ ?_ ?_)
 rintro k z T ⟨k',U⟩;exact du ⟨rfl,rfl,by trivial,k',U⟩;rintro i z U ⟨c,Q⟩;have aa:∀b o,pa=some ⟨b,o,none⟩->¬(b=d):=λb o h=>by have:=av b o h;omega
 have ac:fZ z pa (dV G):=au.keep c aa;obtain⟨b,o,R,h1,h2,h3⟩:=ac i U;subst R;have aL:=Ei ok _ (ef U)
 refine eN i 3 U (dJ (vs:=dL (dV G)[i]) (λj u f=>by
  match j,f with
  |0,f=>cases f;exact h1
  |1,f=>cases f;exact h2
  |2,f=>cases f;exact h3) (eD λw8 ab e8 ay az=>dq az λw9 k9 ad=>?_))
 have kw:=c.size;have s7:=e7.size;have ae:i<6:=by omega
 have aA:=(Q.ext e8).keep k9 (show¬(d=ab) by omega);have aM:=cP.lt_of_heap ad;have e9:Ext z w9:=e8.cC k9 ay
 refine cS (eE (n:=(dV G).length) (λk=>[(1,.pointer (some ⟨F,0,none⟩)),(5,.pointer (some ⟨d,0,none⟩)),(6,.slice (some ⟨b,o,none⟩) (dV G).length pc),(7,i64 i),(8,.pointer (some ⟨ab,0,none⟩)),(26,.slice (some ⟨b,o,none⟩) (dV G).length pc),(27,i64 (dV G).length),(28,i64 i),
  (33,.slice (some ⟨b,o,none⟩) (dV G).length pc),(34,i64 (dV G).length),(35,i64 k)]) (λk S=>cW (λx=>x=d) w9 S/\nD d (Eg G l p mk m .nilFunc .nilFunc (oZ G i k)) S) ⟨by trivial,cW.refl _ _,aA⟩ ?_ ?_ ?_)
 rintro k S T ⟨K,C⟩;exact du ⟨rfl,rfl,by trivial,K,C⟩;rintro k S T ⟨K,C⟩;have aN:=Ei ok _ (ef T);have af:k<6:=by omega
 have aB:fZ S (some ⟨b,o,none⟩) (dV G):=(ac.ext e9).keep K aa;obtain⟨b2,o2,R,g1,g2,g3⟩:=aB k T;obtain⟨rfl,rfl⟩:b=b2/\o=o2:=by injection R with e;injection e with H I;exact⟨H,I⟩
 refine eN k 3 T (dJ (vs:=dL (dV G)[k]) (λj u f=>by
  match j,f with
  |0,f=>cases f;exact g1
  |1,f=>cases f;exact g2
  |2,f=>cases f;exact g3) (eD λaO bb aC aD ag=>dq ag λL aE s=>?_))
 have M:Ext S L:=aC.cC aE aD;have sk:=K.size;have t:L.heap[ab]? =some (.cells (gl (pm 81).toArray 0 (dL (dV G)[i])) 81):=M.at_ (K.fe ad (show¬(ab=d) by omega));have O:=C.ext M;have ah:L.cell? ⟨F,1,none⟩=some (i64 G.corner):=M.cell (K.eP (e9.cell (c.eP (cr ax rfl) B.2.2.1)) B.2.2.1)
 have ai:∀q g,Ext L q->∀n:Int,n=lj G i k->cW (λx=>x=d) q g->nD d (λj=>if 7+i*6+k<=j/\j<7+i*6+k+1 then([Value.int .i64 n]:List cq).getD (j-(7+i*6+k)) undef else Eg G l p mk m .nilFunc .nilFunc (oZ G i k) j) g->
  cW (λx=>x=d) w9 g/\nD d (Eg G l p mk m .nilFunc .nilFunc (oZ G i (k+1))) g:=λq g e n hn D hg=>by
  refine⟨(K.trans ((M.trans e).keep λx=>x=d) (λ_ _ h=>h) λ_ _ h=>h).trans D (λ_ _ h=>h) λ_ _ h=>h,hg.mono λj f=>Mo G l p mk m _ _ i k (by omega) (by omega) n hn j f⟩
 have aj:lj G i k=BJ G.corner (dV G)[i] (dV G)[k]:=Pj G U T;refine cu (cr t rfl) (cu (cr s rfl) (ff ⟨λh=>?_,λh=>?_⟩));refine cX cV (cK (cr t rfl) (cK (cr s rfl) (iC cV _ (λX e=>Ic _ _ X (by omega) (by omega)) (Ib i 6 6 ae (pG k 6 af λq e=>Mn (O.ext e) (by simp[Value.cells];omega) λg D E=>?_)))));have h:(dV G)[i].st=(dV G)[k].st:=dO h;exact cF ⟨by trivial,ai q g e _ (by rw[aj];simp[BJ,h]) D E⟩;have h:¬(dV G)[i].st=(dV G)[k].st:=ee h;have hf:0<=tk (dV G)[i].st (dV G)[k].st/\tk (dV G)[i].st (dV G)[k].st<=2:=by unfold tk;omega
 have hc:=ok.corner;have m1:=Int.mul_le_mul hc.2 hf.2 hf.1 (by omega);have m2:=Cu (show 0<=G.corner by omega) hf.1
 refine cX cV (cK (cr t rfl) (cK (cr s rfl) (vf (cK ah (cK (cr t rfl) (cK (cr s rfl) (iC cV _ (λX e=>Ic _ _ X (by omega) (by omega)) (GA (vf (Ib i 6 6 ae (pG k 6 af λq e=>
  Mn (O.ext e) (by simp[Value.cells];omega) λg D E=>?_)))))))))))
 exact cF ⟨by trivial,ai q g e _ (by rw[aj];simp[BJ,h]) D E⟩;rintro S ⟨K,C⟩;refine cF ⟨by trivial,c.trans (((e9.keep λx=>x=d).trans K (λ_ _ h=>h) λ_ _ h=>h)) (λ_ _ h=>h) λ_ _ h=>h,C.mono λj f=>?_⟩;simp only[Eg];split;rfl;split;congr 1;simp only[oZ];generalize (j-7)/6=x;generalize hy:(j-7)%6=y;by_cases hx:x<i\/x=i/\y<(dV G).length;rw[cB hx,cB (by omega)];rw[cy hx];split;rw[Eh G (by omega)];rfl;rfl;rintro z ⟨c,Q⟩;have ak:nD d (Eg G l p mk m .nilFunc .nilFunc (lj G)) z:=Q.mono λj f=>by simp only[Eg];split;rfl;split;congr 1;simp only[oZ];split;rfl;rw[Eh G (by omega)];rfl
 refine dS (.agg #[QM 179 F,QM 180 F]) (Mn ak (qb rfl) λw8 k8 aF=>?_);have aG:cW (λx=>x=d) w7 w8:=c.trans k8 (λ_ _ h=>h) λ_ _ h=>h;have r:Ext w4 w8:=(e5.trans e7).cC aG al;refine⟨_,rfl,((H.trans I).trans (N.trans J)).trans r,.inr ⟨P,d,mk,m,rfl,⟨⟨l,p,F,aF.mono λj f=>?_,hd.ext (((H.trans I).trans (N.trans J)).trans r),?_⟩,P,?_,?_,B.2.2.2,B.1,B.2.1⟩,?_,?_,?_,?_,?_⟩⟩;show(if 45<=j/\j<45+2 then([QM 179 F,QM 180 F]:List cq).getD (j-45) undef else _)=_;split
 ·obtain rfl|rfl:j=45\/j=46:=by omega
  all_goals simp[Eg]
 ·simp only[Eg];repeat' split
  all_goals first|rfl|omega
 exact(r.trans (Ext.refl _)).cell ((N.trans J).cell (cr A rfl));have:=r.size;omega;have:=r.size;omega;have:=(H.trans I).size;have:=(N.trans J).size;omega;have:=(H.trans I).size;omega;have:=(H.trans I).size;omega;exact r.at_ (J.at_ hm);exact r.at_ Y
def fN(w:cn)(a:ek)(l:cz):Prop:=∀k (h:k<l.length),∃b o,a=some ⟨b,o,none⟩/\w.cell? ⟨b,o+k,none⟩=some (.int .i64 l[k])
def fN.ext{w c:cn}{a:ek}{l:cz}(h:fN w a l)(e:Ext w c):fN c a l:=λk d=>by obtain⟨b,o,f,g⟩:=h k d;exact⟨b,o,f,e.cell g⟩
def pI(l:cz):gC:=l.map λn:Nat=>(n:Int)
def fN.ints{w:cn}{a:ek}{l:cz}(h:fN w a l):gF w a (pI l):=λk d=>by
 have c:k<l.kq:=by simpa[pI]using d
 obtain⟨b,o,e,f⟩:=h k c;exact⟨b,o,e,by rw[f];simp[pI]⟩
section
variable{gp mk ms:Nat}{G:Gd}{w:cn}
def oK.uh(h:oK gp mk ms G w):G.Ok:=eQ h.ok
def oK.ways(h:oK gp mk ms G w)(i j:Nat)(d:i<6)(e:j<6):w.cell? ⟨gp,7+i*6+j,none⟩=some (.int .i64 (lj G i j)):=by
 obtain⟨f,g,k,a,_⟩:=h.at_;rw[a.cell (7+i*6+j)];simp only[Eg];rw[cy (by omega),cB (by omega)];have b:(7+i*6+j-7)/6=i:=by omega
 have c:(7+i*6+j-7)%6=j:=by omega
 rw[b,c]
def oK.c2(h:oK gp mk ms G w):w.cell? ⟨gp,2,none⟩=some (.int .i64 G.knock):=by obtain⟨b,c,d,a,_⟩:=h.at_;exact a.cell 2
def oK.c3(h:oK gp mk ms G w):w.cell? ⟨gp,3,none⟩=some (.int .i64 G.minutes):=by obtain⟨b,c,d,a,_⟩:=h.at_;exact a.cell 3
def oK.c4(h:oK gp mk ms G w):w.cell? ⟨gp,4,none⟩=some (.int .i64 G.days):=by obtain⟨b,c,d,a,_⟩:=h.at_;exact a.cell 4
def oK.c5(h:oK gp mk ms G w):w.cell? ⟨gp,5,none⟩=some (.int .i64 G.tries):=by obtain⟨b,c,d,a,_⟩:=h.at_;exact a.cell 5
def oK.c6(h:oK gp mk ms G w):∃a b,w.cell? ⟨gp,6,none⟩=some (.slice a G.doors.length b)/\fZ w a G.doors:=by obtain⟨a,b,e,c,d,_⟩:=h.at_;exact⟨a,b,c.cell 6,d⟩
def oK.Wp(h:oK gp mk ms G w):w.cell? ⟨gp,43,none⟩=some (.map (some mk)):=by obtain⟨b,c,d,a,_⟩:=h.at_;exact a.cell 43
def oK.Wq(h:oK gp mk ms G w):w.cell? ⟨gp,44,none⟩=some (.map (some ms)):=by obtain⟨b,c,d,a,_⟩:=h.at_;exact a.cell 44
def oK.fn(h:oK gp mk ms G w):∃a,w.cell? ⟨gp,45,none⟩=some (QM 179 a)/\w.cell? ⟨gp,46,none⟩=some (QM 180 a)/\w.cell? ⟨a,5,none⟩=some (.int .i64 G.tries):=by obtain⟨d,e,a,b,_,c⟩:=h.at_;exact⟨a,b.cell 45,b.cell 46,c⟩
def GG(G:Gd)(l:cz):Int:=pH (lj G) l
def iG(G:Gd)(l:cz):Int:=BH (lj G) G.knock l
def n6(G:Gd)(l:cz):Int:=(l.map λd=>((G.doors[d]?).map (·.talk)).getD 0).sum
def iU(G:Gd)(l:cz):Int:=iG G l+n6 G l
variable{l:List Nat}{la:Option Addr}{lc:Nat}
def Jn(h:oK gp mk ms G w)(b:∀d∈l,d<G.doors.length)(a:l.length<=100000)(c:fN w la l):Calls V.prog 161 #[.pointer (some ⟨gp,0,none⟩),.slice la l.length lc] w (fi λv e=>v=.int .i64 (GG G l)/\e=w):=by have:=h.uh.many;exact yB gp (lj G) l la lc w h.ways (uf h.uh) (λd f=>by have:=b d f;omega) a c
def Ej(h:oK gp mk ms G w)(b:∀d∈l,d<G.doors.length)(a:l.length<=100000)(c:fN w la l):Calls V.prog 114 #[.pointer (some ⟨gp,0,none⟩),.slice la l.length lc] w (fi λv e=>v=.int .i64 (iG G l)/\Ext w e):=by have:=h.uh.many;have:=h.uh.knock;exact Ji gp (lj G) G.knock l la lc w h.c2 h.ways (uf h.uh) (λd f=>by have:=b d f;omega) a c (by omega)
def AF(a:G.Ok)(l:cz)(b:l.length<=100000):0<=iG G l/\iG G l<=1000000000:=by have d:=tj (uf a) l;have c:=a.knock;have e:=Int.mul_le_mul_of_nonneg_left c.2 (Int.natCast_nonneg l.length);have f:=Cu (Int.natCast_nonneg l.length) (show 0<=G.knock by omega);unfold iG BH;omega
def yD(G:Gd)(l:cz)(k:Nat)(a:k<l.length)(b:l[k]<G.doors.length):n6 G (l.take (k+1))=n6 G (l.take k)+G.doors[l[k]].talk:=by unfold n6;rw[jc a,vB,List.sum_append];simp[eV b]
theorem yE(a:G.Ok):∀(l:cz),0<=n6 G l/\n6 G l<=9*l.length
 |[]=>by simp[n6]
 |d::r=>by
  have:=yE a r
  have b:0<=((G.doors[d]?).map (·.talk)).getD 0/\((G.doors[d]?).map (·.talk)).getD 0<=9:=by
   cases h:G.doors[d]? with
   |none=>simp
   |some x=>have:=a.door x (vD h);simp;omega
  have e:n6 G (d::r)=((G.doors[d]?).map (·.talk)).getD 0+n6 G r:=by simp[n6]
  simp only[e,eI];omega
def BK(h:oK gp mk ms G w)(j:∀d∈l,d<G.doors.length)(a:l.length<=100000)(m:fN w la l):Calls V.prog 115 #[.pointer (some ⟨gp,0,none⟩),.slice la l.length lc] w (fi λv c=>v=.int .i64 (iU G l)/\Ext w c):=by
 refine gd Tryz.func115 Tryz.ntmps115 ?_;have u:=AF h.uh l a;have x:=h.uh.many;refine dG (Ej h j a m) λp g=>?_;refine cS (eE (n:=l.length) (λk=>[(0,dI gp),(11,.slice la l.length lc),(12,i64 l.length),(13,i64 k),(5,i64 (iG G l+n6 G (l.take k)))]) (λ_ c=>c=p) ⟨⟨rfl,rfl,rfl,rfl,by show some _=some _;simp[n6],trivial⟩,rfl⟩ ?_ ?_ ?_);rintro k c e rfl;exact du ⟨rfl,rfl,by trivial,rfl⟩;rintro k c e rfl;obtain⟨b,o,rfl,q⟩:=(m.ext g) k e;have f:=j _ (ef e);obtain⟨y,z,r,i⟩:=(h.ext g).c6;obtain⟨A,B,rfl,_,_,s⟩:=i _ f;have C:=yE h.uh (l.take k);have D:=h.uh.door _ (ef f);have t:(l.take k).length<=100000:=by simp;omega
 refine fw k e (cu q (cu r (eN l[k] 3 f (cu s (cF (cF ⟨⟨rfl,rfl,rfl,rfl,?_,trivial⟩,rfl⟩))))));show some _=some _;rw[yD G l k e f,Int.add_assoc];rintro c rfl;exact⟨_,rfl,by simp[iU],g⟩
def last_at(h:oK gp mk ms G w):Calls V.prog 107 #[.pointer (some ⟨gp,0,none⟩)] w (fi λv a=>v=.int .i64 (2*G.days-1)/\a=w):=Mm gp G.days w h.c4 (by have:=h.uh.days;omega)
end
def b8(c:BinOp)(a b:Int):Int:=match c with
 | .and=>IntKind.u8.wrap (BitVec.ofInt 8 a&&&BitVec.ofInt 8 b).toNat
 | .or=>IntKind.u8.wrap (BitVec.ofInt 8 a|||BitVec.ofInt 8 b).toNat
 |_=>IntKind.u8.wrap (BitVec.ofInt 8 a&&& ~~~BitVec.ofInt 8 b).toNat
section
variable{w:cn}{k:cq->cn->Prop}{t:cw}{x y:dw}
def RI(r:Int)(a:b8 .and I J=r)(h:k (.int .u8 r) w):jj V.prog (do eqGuard .and t x y (.int .u8 I) (.int .u8 J);binOp .and t (.int .u8 I) (.int .u8 J)) w k:=⟨_,w,rfl,by subst a;exact h⟩
def Pn(r:Int)(a:b8 .andNot I J=r)(h:k (.int .u8 r) w):jj V.prog (do eqGuard .andNot t x y (.int .u8 I) (.int .u8 J);binOp .andNot t (.int .u8 I) (.int .u8 J)) w k:=⟨_,w,rfl,by subst a;exact h⟩
def RJ(a:m<=8)(h:k (.int .u8 (I.fdiv (2^m))) w):jj V.prog (do eqGuard .shr t x y (.int .u8 I) (.int .i64 m);binOp .shr t (.int .u8 I) (.int .i64 m)) w k:=by
 refine⟨_,w,?_,h⟩;show Sem.run jD (Op.shift .shr .u8 I .i64 m) w=_;unfold Op.shift;rw[cy (by omega)];have:min (m:Int).toNat IntKind.u8.bits=m:=by simp[IntKind.bits];omega
 rw[this];rfl
def RL(a:m<=8)(h:k (.int .u8 (IntKind.u8.wrap (I*2^m))) w):jj V.prog (do eqGuard .shl t x y (.int .u8 I) (.int .i64 m);binOp .shl t (.int .u8 I) (.int .i64 m)) w k:=by
 refine⟨_,w,?_,h⟩;show Sem.run jD (Op.shift .shl .u8 I .i64 m) w=_;unfold Op.shift;rw[cy (by omega)];have:min (m:Int).toNat IntKind.u8.bits=m:=by simp[IntKind.bits];omega
 rw[this];rfl
end
def Mq:∀s:Nat,s<32->∀d:Nat,d<5->b8 .and ((s:Int).fdiv (2^d)) 1=if s.testBit d then 1 else 0:=by decide+kernel
def Po(s d:Nat)(w:cn)(a:s<32)(b:d<5):Calls V.prog 198 #[.int .u8 s,.int .i64 d] w (fi λv c=>v=.bool (s.testBit d)/\c=w):=by refine gd Tryz.func198 Tryz.ntmps198 ?_;refine RJ (by omega) (RI _ (Mq s a d b) (ff ⟨_,rfl,?_,rfl⟩));cases s.testBit d<;>rfl
def xf(s d:Nat)(w:cn)(a:s<32)(b:d<5):Calls V.prog 164 #[.int .u8 s,.int .i64 d] w (fi λv c=>v=.int .u8 (qi s d)/\c=w):=Gz (Do s d w a b)
def RM(x:Int)(l:gC):Bool:=decide (0<=Ee x l 0)
def BL(l:List Int)(x:Int)(b:Option Addr)(c:Nat)(w:cn)(d:gF w b l)(a:l.length<=100000):Calls V.prog 135 #[.slice b l.length c,.int .i64 x] w (fi λv e=>v=.bool (RM x l)/\e=w):=by refine gd Tryz.func135 Tryz.ntmps135 ?_;exact dg (Jk l x b c w d a) (yz ⟨_,rfl,rfl,rfl⟩)
def n7(n:Int):gC->gC->Int
 |_,[]=>0
 |a,d::r=>if kP d 0 (n-1)then(if RM d a then 4 else n7 n (a++[d]) r)else 3
def ig(n:Int)(l:gC):Int:=n7 n [] l
def BM(n:Int)(l:gC)(k:Nat)(a:k<l.length):n7 n (l.take k) (l.drop k)=if kP l[k] 0 (n-1)then(if RM l[k] (l.take k)then 4 else n7 n (l.take (k+1)) (l.drop (k+1)))else 3:=by rw[sn a,jc a];rfl
def AG{gp mk ms:Nat}{w:cn}(h:oK gp mk ms H w){l:List Int}{lc:Nat}(p:gF w a l)(q:l.length<=100000)(u:l.length<=lc):
 Calls V.prog 108 #[.pointer (some ⟨gp,0,none⟩),.slice a l.length lc] w (fi λv e=>v=.int .i64 (ig H.doors.length l)/\e=w):=by
 have x:=h.uh.many;obtain⟨y,z,r,s⟩:=h.c6;refine gd Tryz.func108 Tryz.ntmps108 ?_;refine cS (eE (n:=l.length) (λk=>[(0,.pointer (some ⟨gp,0,none⟩)),(1,.slice a l.length lc),(7,.slice a l.length lc),(8,i64 l.length),(9,i64 k)]) (λk e=>e=w/\ig H.doors.length l=n7 H.doors.length (l.take k) (l.drop k)) ⟨by trivial,rfl,rfl⟩ ?_ ?_ ?_);rintro k e g ⟨rfl,c⟩;exact du ⟨rfl,rfl,by trivial,rfl,c⟩;rintro k e g ⟨rfl,c⟩;obtain⟨b,o,i,f⟩:=p k g;rw[BM _ l k g]at c;have j:(l.take k).length=k:=by simp;omega
 have d:=BL (l.take k) l[k] a lc e (p.take k) (by omega);rw[j]at d;subst i;refine fw k g (cu f (cu r (cS (fx (dg (eY _ _ _ _) (ei ⟨λh=>?_,λm=>?_⟩))))));simp at h;exact⟨_,rfl,by rw[c];simp[h],rfl⟩;simp at m;refine pF k (by omega) (dg d ⟨λh=>?_,λt=>?_⟩);exact⟨_,rfl,by rw[c];simp[h,m],rfl⟩;rw[m,t]at c;exact cF ⟨by trivial,rfl,by simpa using c⟩;rintro e ⟨rfl,c⟩;exact⟨_,rfl,by rw[c];simp[n7],rfl⟩
end Go.Proofs.W
variable{M Y:List cq}
namespace Go.Proofs.W
open Go.RowKit
def n8(s k:Nat):cz:=(List.range k).filter (s.testBit ·)
def fl(s:Nat):cz:=n8 s 5
def jy(l:cz):dr:=l.map λn:Nat=>Value.int .i64 n
def fE(a:Nat)(w:cn)(v:cq)(l:cz):Prop:=cR a 3 [.int .i64 0] w v l.length (jy l)
def fE.row(h:fE m w x l):∃a c,x=.slice a l.length c/\fN w a l/\l.length<=c:=by obtain⟨j,⟨e,rfl⟩|⟨b,c,n,o,rfl,f,p,g,q,i,r⟩⟩:=h;exact⟨none,0,by rw[e],λk d=>by omega,by omega⟩;refine⟨_,c,rfl,λk d=>⟨b,0,rfl,?_⟩,g⟩;refine cr f ?_;rw[cG,i k (by simp[jy];omega)];simp[jy,eV d]
def uj(s k:Nat):n8 s (k+1)=if s.testBit k then n8 s k++[k]else n8 s k:=by unfold n8;rw[oO,List.filter_append];cases h:s.testBit k<;>simp[h]
def l5(s k:Nat):(n8 s k).length<=k:=by have:=List.length_filter_le (s.testBit ·) (List.range k);simpa[n8]using this
def Ext.ia(h:Ext w t)(a:cW (cH x) t e)(d:cR m T M t x k Y)(g:w.heap.size<=m):Ext w e:=
 ⟨a.os.trans h.os,a.tape.trans h.tape,a.output.trans h.output,cZ h.size a.size,cZ h.drawn a.drawn,λb c=>(a.block b (dE c h.size) λf=>by have:=(d.blk f).1;omega).trans (h.block b c)⟩
def uk(s:Nat)(w:cn)(i:s<32):Calls V.prog 173 #[.int .u8 s] w (fi λv a=>Ext w a/\fE w.heap.size a v (fl s)):=by refine gd Tryz.func173 Tryz.ntmps173 ?_;refine gT (n:=5) (λk v=>[(0,.int .u8 s),(3,v),(5,i64 k)]) (λk v a=>Ext w a/\fE w.heap.size a v (n8 s k)) (.slice none 0 0) ⟨by trivial,Ext.refl _,cR.nil _ _ _ _⟩ ?_ ?_ ?_;rintro k v a f ⟨e,b⟩;exact du ⟨rfl,rfl,by trivial,e,b⟩;rintro k v a f ⟨e,b⟩;have g:=l5 s k;refine dg (Po s k a i f) ⟨λh=>?_,λh=>?_⟩;refine eg [Value.int .i64 k] 3 λp q c j l=>gq sg (b.ext c) (cZ e.size c.size) l (by omega) λm r d o _=>cF ⟨m,by trivial,(e.trans c).ia o (b.ext c) (cJ _),?_⟩;rw[uj,cB h];simpa[fE,jy]using d;refine cF ⟨v,by trivial,e,?_⟩;rw[uj,cy (by rw[h];simp)];exact b;rintro v a ⟨e,b⟩;exact⟨_,rfl,e,b⟩
def setFrom(s:Nat)(l:cz):Nat:=l.foldl qi s
def io(l:cz):Nat:=setFrom 0 l
theorem tl:∀(l:cz) (s:Nat),s<32->(∀d∈l,d<5)->setFrom s l<32
 |[],s,a,_=>a
 |d::r,s,a,h=>tl r (qi s d) (Gj s a d (h d iP)) λx b=>h x (iw _ b)
def rS(l:List Nat)(e:Option Addr)(g:Nat)(w:cn)(j:fN w e l)(h:∀d∈l,d<5)(i:l.length<=100000):Calls V.prog 122 #[.slice e l.length g] w (fi λv a=>v=.int .u8 (io l)/\a=w):=by refine gd Tryz.func122 Tryz.ntmps122 ?_;refine cS (eE (n:=l.length) (λk=>[(3,.int .u8 (io (l.take k))),(6,.slice e l.length g),(7,i64 l.length),(8,i64 k)]) (λ_ a=>a=w) ⟨by trivial,rfl⟩ ?_ ?_ ?_);rintro k a c rfl;exact du ⟨rfl,rfl,by trivial,rfl⟩;rintro k a c rfl;obtain⟨b,o,rfl,m⟩:=j k c;have f:=h _ (ef c);have p:io (l.take k)<32:=tl _ 0 (by omega) λd f=>h d (List.mem_of_mem_take f);refine fw k c (cu m (dg (xf _ _ _ p f) (cF ⟨⟨?_,rfl,rfl,rfl,trivial⟩,rfl⟩)));show some _=some _;rw[jc c];simp only[io,setFrom,xo,qa,List.foldl_nil];rintro a rfl;exact⟨_,rfl,by simp,rfl⟩
structure Sx where
 tries:Int
 mornings:Int
 evenings:Int
 opened:Bool
 d0:Bool
 d1:Bool
 d2:Bool
 left:Bool
def ly(x:Sx):dr:=[.int .i64 x.tries,.int .i64 x.mornings,.int .i64 x.evenings,.bool x.opened,.bool x.d0,.bool x.d1,.bool x.d2,.bool x.left]
def eZ(T:Int)(x:Sx):Bool:=(x.left||x.opened)||(decide (T<=x.tries)&&(decide (T<2)||(decide (0<x.mornings)&&decide (0<x.evenings))))
def um{gp mk ms:Nat}(h:oK gp mk ms H w)(x:Sx):Calls V.prog 134 #[.pointer (some ⟨gp,0,none⟩),.agg (ly x).toArray] w (fi λv k=>v=.bool (eZ H.tries x)/\Ext w k):=by refine gd Tryz.func134 Tryz.ntmps134 ?_;refine ej λo p c l d=>?_;obtain⟨i,m,n,j⟩:=(h.ext c).fn;refine cX cV (cK (cr d rfl) ⟨λf=>?_,λf=>?_⟩);exact jZ rfl λa e=>⟨_,rfl,by simp[eZ,f],c.trans e⟩;refine cK (cr d rfl) ⟨λg=>?_,λg=>?_⟩;exactλa e=>⟨_,rfl,by simp[eZ,f,g],c.trans e⟩;refine cK m (cK (cr d rfl) (iC cV _ (λa e=>GB i _ _ a (e.cell j)) ⟨λb=>?_,λb=>?_⟩));refine cK n (cK (cr d rfl) (cK (cr d rfl) (iC cV _ (λa e=>GC i _ _ _ a (e.cell j)) λa e=>⟨_,rfl,?_,c.trans e⟩)));have b:H.tries<=x.tries:=dO b;simp[eZ,f,g,b];refineλa e=>⟨_,rfl,?_,c.trans e⟩;have b:¬H.tries<=x.tries:=ee b;simp[eZ,f,g,b]
section
variable{w:cn}{k:cq->cn->Prop}{t:cw}{x y:dw}
def kG{n:Nat}(b:0<n)(c:m<=1000000000)(h:k (.int .i64 ((m/n:Nat):Int)) w):jj V.prog (do eqGuard .quo t x y (.int .i64 m) (.int .i64 n);binOp .quo t (.int .i64 m) (.int .i64 n)) w k:=by
 refine⟨_,w,?_,h⟩;show Sem.run jD (Op.intDiv .quo .i64 m n) w=_;unfold Op.intDiv;rw[cy (by omega)];have a:(m:Int).tdiv n=((m/n:Nat):Int):=by rw[Int.tdiv_eq_ediv_of_nonneg (by omega)];simp
 have d:m/n<=m:=Nat.div_le_self _ _;rw[a];simp only[Sem.run_pure];generalize m/n=q at*;rw[IntWalk.i64_in _ (by omega)]
def rl{n:Nat}(b:0<n)(h:k (.int .i64 ((m%n:Nat):Int)) w):jj V.prog (do eqGuard .rem t x y (.int .i64 m) (.int .i64 n);binOp .rem t (.int .i64 m) (.int .i64 n)) w k:=by
 refine⟨_,w,?_,h⟩;show Sem.run jD (Op.intDiv .rem .i64 m n) w=_;unfold Op.intDiv;rw[cy (by omega)];have a:(m:Int).tmod n=((m%n:Nat):Int):=by rw[Int.tmod_eq_emod_of_nonneg (by omega)];simp
 simp only[a,Sem.run_pure]
def xg{t:cw}(n:Nat)(a:i<n)(h:k (.pointer (some ⟨m,o+i,none⟩)) w)(b:ty t=some ⟨2,n,1,n⟩:=by rfl):jj V.prog (Instr.indexAt t (.pointer (some ⟨m,o,none⟩)) (.int .i64 (i:Nat))) w k:=th i n a h rfl b
def kH{t:cw}{c:dU}{a:cw}(b:dr)(d:w.heap[m]? =some (.cells c a))(e:∀j v,b[j]? =some v->c[o+j]? =some v)(f:Ec t=some true:=by rfl)(g:NX t=some b.length:=by rfl):Sem.run V.prog (loadVar t ⟨m,o,none⟩) w=.ok (.agg b.toArray) w:=by
 have h:=run_loadCells_list (P:=jD) w (cY m o) b λj v i=>by rw[iB];exact cr d (e j v i)
 simp only[loadVar,Sem.run_bind,yy f,BG g,Result.andThen_ok,dF,h,Sem.run_pure]
end
def dC(c:dU)(a:dr)(h:c.size=a.length):gl c 0 a=a.toArray:=by
 apply KM;intro j;rw[nE a c 0 j (by omega),cG,Nat.sub_zero];have e:a.toArray[j]? =a[j]? :=by simp
 rw[e];split;rfl;rename_i b;have b:a.kq<=j:=Nat.le_of_not_lt λd=>b ⟨fV _,d⟩;rw[Hs b];exact lT (by rw[h];exact b)
def nO(x:Sx)(d:Nat):Bool:=if d=0 then x.d0 else if d=1 then x.d1 else x.d2
def gm(x:Sx)(a:Nat)(b:Bool):Sx:=⟨x.tries+1,if a%2=0 then x.mornings+1 else x.mornings,if a%2=0 then x.evenings else x.evenings+1,x.opened||b,if a/2=0 then true else x.d0,if a/2=1 then true else x.d1,if a/2=2 then true else x.d2,x.left⟩
set_option maxHeartbeats 2000000 in
theorem AH(x:Sx)(shift:Nat)(op:Bool)(w:World)(hs:shift<6)(hb:(0≤x.tries∧x.tries≤1000000)∧(0≤x.mornings∧x.mornings≤1000000)∧0≤x.evenings∧x.evenings≤1000000):
 Calls V.prog 158 #[.agg (ly x).toArray,.int .i64 shift,.bool op] w (fi fun v w'=>v=.agg (ly (gm x shift op)).toArray∧Ext w w'):=by
 refine gd Tryz.func158 Tryz.ntmps158 ?_
 refine ej fun w1 xb e1 Ut Ue=>eD fun w2 rb e2 Xw Um=>?_
 have De:=e2.at_ Ue
 have ne:¬(rb=xb):=by have:=cP.lt_of_heap Ue;omega
 refine cu (cr De rfl) (cF (dq De fun w3 k3 TF=>?_))
 have Wr:=k3.fe Um ne
 refine rl (m:=shift) (n:=2) (by omega) (ff ?_)
 obtain⟨X,hX⟩:∃X,X=gm x shift op:=⟨_,rfl⟩
 rw[←hX]
 obtain rfl|rfl|rfl|rfl|rfl|rfl:shift=0∨shift=1∨shift=2∨shift=3∨shift=4∨shift=5:=by omega
 all_goals
  first
  |refine jZ rfl (cu (cr TF rfl) (cF (dq TF fun w4 k4 Uu=>?_)))
  |refine lx rfl (cu (cr TF rfl) (cF (dq TF fun w4 k4 Uu=>?_)))
  have Ws:=k4.fe Wr ne
  have e4:Ext w w4:=((e1.trans e2).cC k3 Ut).cC k4 Ut
  refine cu (cr Uu rfl) ⟨fun ho=>?_,fun ho=>?_⟩
  all_goals
   refine dq Uu fun w5 k5 Wt=>?_
   have Wu:=k5.fe Ws ne
   have e5:=e4.cC k5 Ut
   refine kG (n:=2) (by omega) (by omega) (xg 3 (by decide) (dq Wt fun w6 k6 Wv=>?_))
   have Ww:=k6.fe Wu ne
   have e6:=e5.cC k6 Ut
   have Xx:w6.heap[xb]? =some (.cells (ly X).toArray 166):=Wv.trans (by rw[hX];simp[gl,ly,gm,ho,Value.cells])
   refine dJ (vs:=ly X) (fun j v hj=>by rw[Nat.zero_add];exact cr Xx (by simpa using hj)) (dq Ww fun w7 k7 Wx=>?_)
   have Xy:w7.heap[rb]? =some (.cells (ly X).toArray 166):=Wx.trans (congrArg (fun a=>some (Obj.cells a 166)) (dC (pm 166).toArray (ly X) rfl))
   have hl:Sem.run V.prog (loadVar 166 ⟨rb,0,none⟩) w7=.ok (.agg (ly X).toArray) w7:=kH (ly X) Xy fun j v hj=>by rw[Nat.zero_add];simpa using hj
   have e7:Ext w w7:=e6.cC k7 (Nat.le_trans e1.size Xw)
   clear Ue De TF Uu Wt Wv Um Wr Ws Wu Ww Wx
   refine⟨.agg (ly X).toArray,hl,?_⟩
   exact⟨_,rfl,rfl,e7⟩
def tn(w:cn)(a:ek)(xs:List Sx):Prop:=∀k (h:k<xs.length),∃b o,a=some ⟨b,o,none⟩/\∀j v,(ly xs[k])[j]? =some v->w.cell? ⟨b,o+k*8+j,none⟩=some v
def tn.ext{w c:cn}{xs:List Sx}(h:tn w a xs)(e:Ext w c):tn c a xs:=λk d=>by obtain⟨b,o,f,g⟩:=h k d;exact⟨b,o,f,λj v i=>e.cell (g j v i)⟩
structure ll(wp gp mk ms:Nat)(G:Gd)(xs:List Sx)(before:Int)(w:cn):Prop where
 g:oK gp mk ms G w
 len:xs.length=G.doors.length
 bf:0<=before/\before<=5
 at_:∃sa sc,w.cell? ⟨wp,0,none⟩=some (.pointer (some ⟨gp,0,none⟩))/\w.cell? ⟨wp,1,none⟩=some (.slice sa xs.length sc)/\w.cell? ⟨wp,2,none⟩=some (.int .i64 before)/\tn w sa xs
section
variable{wp gp mk ms:Nat}{G:Gd}{xs:List Sx}{before:Int}{w:cn}
theorem ll.ext{a:cn}(h:ll wp gp mk ms G xs before w)(e:Ext w a):ll wp gp mk ms G xs before a:=by obtain⟨b,c,d,f,i,j⟩:=h.at_;exact⟨h.g.ext e,h.len,h.bf,b,c,e.cell d,e.cell f,e.cell i,j.ext e⟩
def rm(G:Gd)(before a:Int):Int:=if kP a 0 (2*G.days-1)then(if a<before then 5 else 0)else 3
def Pp(h:ll wp gp mk ms G xs before w)(a:Int):Calls V.prog 153 #[.pointer (some ⟨wp,0,none⟩),.int .i64 a] w (fi λv d=>v=.int .i64 (rm G before a)/\d=w):=by obtain⟨i,j,e,k,f,l⟩:=h.at_;refine gd Tryz.func153 Tryz.ntmps153 ?_;refine cu e (dg (last_at h.g) (dg (eY _ _ _ _) (ei ⟨λb=>?_,λb=>?_⟩)));exact⟨_,rfl,by simp at b;simp[rm,b],rfl⟩;simp at b;refine cu f (du ⟨λc=>?_,λc=>?_⟩);exact⟨_,rfl,by simp[rm,b,dO c],rfl⟩;exact⟨_,rfl,by simp[rm,b,ee c],rfl⟩
def gQ(T:Int)(xs:List Sx)(k:Nat):cz:=(List.range k).filter λd=>match xs[d]? with
 |some x=>!eZ T x
 |none=>false
def dn(T:Int)(xs:List Sx):cz:=gQ T xs xs.length
def n9(T:Int)(xs:List Sx)(k:Nat)(a:k<xs.length):gQ T xs (k+1)=if eZ T xs[k]then gQ T xs k else gQ T xs k++[k]:=by unfold gQ;rw[oO,List.filter_append];cases h:eZ T xs[k]<;>simp[h,eV a]
def pJ(T:Int)(xs:List Sx)(k:Nat):(gQ T xs k).length<=k:=by
 have:=List.length_filter_le (λd=>match xs[d]? with
  |some x=>!eZ T x
  |none=>false) (List.range k)
 simpa[gQ]using this
def xh(h:ll wp gp mk ms G xs before w):Calls V.prog 119 #[.pointer (some ⟨wp,0,none⟩)] w (fi λv c=>Ext w c/\fE w.heap.size c v (dn G.tries xs)):=by
 obtain⟨C,D,E,F,S,H⟩:=h.at_;have T:=h.g.uh.many;have U:=h.len;refine gd Tryz.func119 Tryz.ntmps119 ?_;refine cu F (cS (gT (n:=xs.length) (λk v=>[(0,.pointer (some ⟨wp,0,none⟩)),(3,v),(9,.slice C xs.length D),(10,i64 xs.length),(11,i64 k)]) (λk v c=>Ext w c/\fE w.heap.size c v (gQ G.tries xs k)) (.slice none 0 0) ⟨by trivial,Ext.refl _,cR.nil _ _ _ _⟩ ?_ ?_ ?_));rintro k v c m ⟨e,f⟩;exact du ⟨rfl,rfl,by trivial,e,f⟩;rintro k v c m ⟨e,f⟩;obtain⟨b,o,rfl,I⟩:=(H.ext e) k m;have x:=pJ G.tries xs k;refine eN k 8 m (dJ (vs:=ly xs[k]) I (eD λW J K r L=>dq L λy M p=>?_));have i:Ext c y:=K.cC M r;have s:y.heap[J]? =some (.cells (ly xs[k]).toArray 166):=p.trans (cT (λa=>some (Obj.cells a 166)) (dC (pm 166).toArray (ly xs[k]) rfl));have N:=(h.g.ext e).ext i;clear p;refine cX cV (cK (i.cell (e.cell E)) (dx (.agg (ly xs[k]).toArray) (λz d=>dJ (vs:=ly xs[k]) (λj v O=>by rw[cG];exact cr (d.at_ s) (by simpa using O)) ⟨rfl,Ext.refl _⟩) (fh (.bool (eZ G.tries xs[k])) (λz d=>um (N.ext d) xs[k]) (kF λz d=>⟨λl=>?_,λl=>?_⟩))));have l:eZ G.tries xs[k]=false:=by simpa using l
 have A:=(e.trans i).trans d;refine eg [Value.int .i64 k] 3 λX P q B t=>gq sg (((f.ext i).ext d).ext q) (cZ A.size q.size) t (by omega) λQ Y u R _=>cF ⟨Q,by trivial,(A.trans q).ia R (((f.ext i).ext d).ext q) (cJ _),?_⟩;rw[n9 _ _ _ m,l];simpa[fE,jy]using u;have l:eZ G.tries xs[k]=true:=by simpa using l
 refine cF ⟨v,by trivial,(e.trans i).trans d,?_⟩;rw[n9 _ _ _ m,l];exact(f.ext i).ext d;rintro v c ⟨e,f⟩;exact⟨_,rfl,e,f⟩
end
def pK(s:Nat):dr:=[.bool (s.testBit 0),.bool (s.testBit 1),.bool (s.testBit 2),.bool (s.testBit 3),.bool (s.testBit 4)]
def BN(l:cz)(d:Nat):Bool:=l.contains d
def Mr(l:cz):dr:=[.bool (BN l 0),.bool (BN l 1),.bool (BN l 2),.bool (BN l 3),.bool (BN l 4)]
def Jo:∀s:Nat,s<32->∀d:Nat,d<5->BN (fl s) d=s.testBit d:=by decide+kernel
def Ms(s:Nat)(d:Nat)(h:d∈fl s):d<5:=by have:=(xq.1 h).1;simpa using this
def Jp(s:Nat)(w:cn)(L:s<32):Calls V.prog 174 #[.int .u8 s] w (fi λv e=>v=.agg (pK s).toArray/\Ext w e):=by
 refine gd Tryz.func174 Tryz.ntmps174 ?_;refine eD λw1 y M A N=>eD λO g P S i=>?_;refine cD (uk s O L) λv T z=>?_;obtain⟨B,z⟩:=z;obtain⟨a,c,rfl,m,_⟩:=z.row;have C:=B.at_ (P.at_ N);have U:¬(y=g):=by have:=cP.lt_of_heap N;omega
 have Q:(fl s).length<=5:=l5 s 5;have D:∀b o,a=some ⟨b,o,none⟩->O.heap.size<=b:=λb o h=>by obtain⟨_,⟨_,f⟩|⟨b',c',cs,h1,f,_⟩⟩:=z;injection f with f;rw[f]at h;cases h;injection f with f;rw[f]at h;have:=cT Addr.block (cO h);simp at this;omega
 have W:=cP.lt_of_heap i;refine cS (eE (n:=(fl s).length) (λk=>[(2,.pointer (some ⟨y,0,none⟩)),(3,.pointer (some ⟨g,0,none⟩)),(7,.slice a (fl s).length c),(8,i64 (fl s).length),(9,i64 k)]) (λk e=>cW (λx=>x=g) T e/\e.heap[g]? =some (.cells (Mr ((fl s).take k)).toArray 217)) ⟨by trivial,cW.refl _ _,B.at_ i⟩ ?_ ?_ ?_);rintro k e p X;exact du ⟨rfl,rfl,by trivial,X⟩
 ·rintro k e p ⟨q,r⟩;obtain⟨b,o,rfl,Y⟩:=m k p;have R:(fl s)[k]<5:=Ms s _ (ef p);have E:¬(b=g):=by have:=D b o rfl;omega
  refine fw k p (cu (q.eP Y E) (th (fl s)[k] 5 R (iT r (by simp[Value.cells,Mr];omega) (λt F G=>cF ⟨by trivial,q.trans F (λ_ _ h=>h) λ_ _ h=>h,?_⟩) (by simp[Value.cells,Value.oneCell']))));refine G.trans (cT (λa=>some (Obj.cells a 217)) ?_);rw[jc p];generalize (fl s)[k]=d at R;generalize (fl s).take k=l;have Z:∀j,BN (l++[d]) j=(BN l j||decide (j=d)):=λj=>by simp[BN,List.contains_eq_mem,jH,Bool.decide_or]
  obtain rfl|rfl|rfl|rfl|rfl:d=0\/d=1\/d=2\/d=3\/d=4:=by omega
  all_goals simp[Mr,Z,gl,Value.cells]
 rintro e ⟨q,r⟩;have H:=q.fe C U;rw[mW]at r;have I:Mr (fl s)=pK s:=by simp[Mr,pK,Jo s L]
 rw[I]at r;refine dJ (vs:=pK s) (λj v J=>by rw[cG];exact cr r (by simpa using J)) (dq H λt F u=>?_);have K:t.heap[y]? =some (.cells (pK s).toArray 217):=u.trans (cT (λa=>some (Obj.cells a 217)) (dC (pm 217).toArray (pK s) rfl));have hl:Sem.run V.prog (loadVar 217 ⟨y,0,none⟩) t=.ok (.agg (pK s).toArray) t:=kH (pK s) K λj v J=>by rw[cG];simpa using J
 have e5:Ext w t:=(((M.trans P).trans B).cC q (by have:=M.size;omega)).cC F A;clear u;refine⟨.agg (pK s).toArray,hl,?_⟩;exact⟨_,rfl,rfl,e5⟩
section
variable{w:cn}{k:cq->cn->Prop}
def ii(w:cn)(a:ek)(c:dr):Prop:=c=[]\/∃b o,a=some ⟨b,o,none⟩/\∀j u,c[j]? =some u->w.cell? ⟨b,o+j,none⟩=some u
def ii.ext{w c:cn}{d:dr}(h:ii w a d)(e:Ext w c):ii c a d:=by rcases h with h|⟨b,o,f,g⟩;exact .inl h;exact .inr ⟨b,o,f,λj u i=>e.cell (g j u i)⟩
def un{b:dr}(c:Ef T U b){x y:dw}(h:k (.bool a.isNone) w):jj V.prog (do eqGuard .eql T x y (.slice a m i) (.slice none 0 0);binOp .eql T (.slice a m i) (.slice none 0 0)) w k:=by have d:=Go.Lib.run_eql_slice_nil (P:=jD) w T U a m i 0 0 c.1;refine⟨_,w,?_,h⟩;go_simp
def Jq{zs:dr}{w:cn}(b:m<=i)(c:w.heap[i]? =some (.cells #[] T)):cR m T zs w (.slice (some ⟨i,0,none⟩) 0 0) 0 []:=
 ⟨by simp,.inr ⟨i,0,_,b,rfl,c,by simp,cJ _,by decide,λj a=>by simp at a,λj _ a=>by simp at a⟩⟩
def pL{e:cw}{zs:dr}{x:Array Bool}(g:Ef T e zs){n0 n:Nat}{w:cn}{us:dr}(t:w.heap[n]? =some (.cells #[] e))(y:n0<=n)(p:us.length=m*zs.length)(q:ii w a us)(A:∀u∈us,u.oneCell'=true)(v:m<=1000000) (r:∀l d,cR n0 e zs d l m us->(∀W,Ext W w->W.heap.size<=n0->Ext W d)->k l d):zV V.prog (builtin .append #[T,T] U x #[.slice (some ⟨n,0,none⟩) 0 0,.slice a m i]) w k:=by
 have c:=Jq (zs:=zs) y t;have f:0<zs.length:=by obtain⟨_,G,z,_,_,_,_,_,h⟩:=g;exact h
 have B:=cP.lt_of_heap t;rcases q with rfl|⟨b,o,rfl,q⟩;obtain rfl:m=0:=by rcases mY m with h|h;exact h;have:=Nat.mul_pos h f;simp at p;omega
 exact BI g (cJ _) (r _ _ c λW h _=>h);rcases mY m with rfl|s;obtain rfl:us=[]:=by simpa using p
 exact BI g (cJ _) (r _ _ c λW h _=>h);exact GD g c (by omega) p s (λj u C=>by rw[iB];exact q j u C) A (by omega) λl d D E _=>r l d (by simpa using D) λW h F=>h.ia E c F
end
def Mt:Ef 139 166 (pm 166):=⟨by kernel_rfl,Tryz.t166,_,by kernel_rfl,rfl,by kernel_rfl,by kernel_rfl,by decide+kernel,by decide⟩
def xi(f:dH)(e:cw)(d:dr):Prop:=∀(a:ek) (l c:Nat) (b:dr) (w:cn),b.length=l*d.length->(a=none->l=0)->ii w a b->(∀u∈b,u.oneCell'=true)->l<=1000000->Calls V.prog f #[.slice a l c] w (fi λv g=>Ext w g/\cR w.heap.size e d g v l b)
def Mv:xi 128 3 [.int .i64 0]:=by
 intro a l c g w e i j k b;refine gd Tryz.func128 Tryz.ntmps128 ?_;refine un sg ⟨λh=>?_,λh=>eg [] 3 λp q f d m=>pL sg m d e (j.ext f) k b λr s n o=>⟨_,rfl,o w f (cJ _),n⟩⟩;obtain rfl:=i (by simpa using h);obtain rfl:g=[]:=by simpa using e
 exact⟨_,rfl,Ext.refl _,cR.nil _ _ _ _⟩
def RN:Ef 26 29 [.int .i64 0,.slice none 0 0]:=⟨by kernel_rfl,Tryz.t29,_,by kernel_rfl,rfl,by kernel_rfl,by kernel_rfl,by decide+kernel,by decide⟩
def Mw:Ef 222 154 [.int .u8 0]:=⟨by kernel_rfl,Tryz.t154,_,by kernel_rfl,rfl,by kernel_rfl,by kernel_rfl,by decide+kernel,by decide⟩
def Mx:xi 154 166 (pm 166):=by
 intro a l c g w e i j k b;refine gd Tryz.func154 Tryz.ntmps154 ?_;refine un Mt ⟨λh=>?_,λh=>eg [] 166 λp q f d m=>pL Mt m d e (j.ext f) k b λr s n o=>⟨_,rfl,o w f (cJ _),n⟩⟩;obtain rfl:=i (by simpa using h);obtain rfl:g=[]:=by simpa using e
 exact⟨_,rfl,Ext.refl _,cR.nil _ _ _ _⟩
def My:xi 155 29 [.int .i64 0,.slice none 0 0]:=by
 intro a l c g w e i j k b;refine gd Tryz.func155 Tryz.ntmps155 ?_;refine un RN ⟨λh=>?_,λh=>eg [] 29 λp q f d m=>pL RN m d e (j.ext f) k b λr s n o=>⟨_,rfl,o w f (cJ _),n⟩⟩;obtain rfl:=i (by simpa using h);obtain rfl:g=[]:=by simpa using e
 exact⟨_,rfl,Ext.refl _,cR.nil _ _ _ _⟩
def Mz:xi 199 154 [.int .u8 0]:=by
 intro a l c g w e i j k b;refine gd Tryz.func199 Tryz.ntmps199 ?_;refine un Mw ⟨λh=>?_,λh=>eg [] 154 λp q f d m=>pL Mw m d e (j.ext f) k b λr s n o=>⟨_,rfl,o w f (cJ _),n⟩⟩;obtain rfl:=i (by simpa using h);obtain rfl:g=[]:=by simpa using e
 exact⟨_,rfl,Ext.refl _,cR.nil _ _ _ _⟩
def fN.cells{w:cn}{a:ek}{l:cz}(h:fN w a l):ii w a (jy l):=by
 rcases l with _|⟨x,r⟩;exact .inl rfl;obtain⟨b,o,rfl,_⟩:=h 0 (by simp);refine .inr ⟨b,o,rfl,λj u d=>?_⟩;have c:j<(x::r).kq:=by simpa[jy]using(iI.1 d).1
 obtain⟨f,g,e,i⟩:=h j c;obtain⟨rfl,rfl⟩:b=f/\o=g:=by injection e with e;injection e with k m;exact⟨k,m⟩
 rw[i];have:(jy (x::r))[j]? =some (i64 ((x::r)[j]:Nat)):=by simp only[jy,so,eV c];rfl
 rw[this]at d;exact d
def fN.rn(h:fN w none l):l.length=0:=by rcases l with _|⟨x,r⟩;rfl;obtain⟨b,o,e,_⟩:=h 0 (by simp);cases e
def Ek(l:cz):∀u∈jy l,u.oneCell'=true:=λu a=>by obtain⟨n,_,rfl⟩:=mq.1 a;rfl
def lL(h:fN w a l)(b:l.length<=1000000):Calls V.prog 128 #[.slice a l.length m] w (fi λv c=>Ext w c/\fE w.heap.size c v l):=
 Mv a l.kq m (jy l) w (by simp[jy]) (λe=>by subst e;exact h.rn) h.cells (Ek l) b
def wM(w:cn)(a:ek)(c:List cz):Prop:=∀k (h:k<c.length),∃b o d e,a=some ⟨b,o,none⟩/\w.cell? ⟨b,o+k,none⟩=some (.slice d c[k].length e)/\fN w d c[k]/\c[k].length<=e
theorem wM.ext{c:List cz}(h:wM w a c)(e:Ext w t):wM t a c:=λk d=>by obtain⟨b,o,f,g,i,j,l,m⟩:=h k d;exact⟨b,o,f,g,i,e.cell j,l.ext e,m⟩
def gU(c:Nat)(w:cn)(v:cq)(a:List cz):Prop:=∃b:dr,cR c 27 [.slice none 0 0] w v a.length b/\b.length=a.length/\∀k (h:k<a.length),∃u,b[k]? =some u/\fE c w u a[k]
theorem gU.ext{a:List cz}(h:gU m w x a)(e:Ext w t):gU m t x a:=by obtain⟨b,c,d,f⟩:=h;refine⟨b,c.ext e,d,λk g=>?_⟩;obtain⟨u,i,j⟩:=f k g;exact⟨u,i,j.ext e⟩
theorem gU.row{d:List cz}(h:gU m w x d):∃a c,x=.slice a d.length c/\wM w a d/\d.length<=c:=by obtain⟨t,⟨v,⟨g,rfl⟩|⟨b,c,y,z,rfl,i,A,j,B,l,C⟩⟩,D,e⟩:=h;exact⟨none,0,by rw[g],λk f=>by omega,by omega⟩;refine⟨_,c,rfl,λk f=>?_,j⟩;obtain⟨u,n,o⟩:=e k f;obtain⟨p,q,rfl,r,s⟩:=o.row;exact⟨b,0,p,q,rfl,cr i (by rw[cG,l k (by omega)];exact n),r,s⟩
def kN{g d:dr}(h:cR m i M w x o g)(l:cR k j Y w y p d)(n:i≠j)(b:Nat)(q:cH x b):¬cH y b:=λf=>by obtain⟨_,_,rfl⟩:=q;obtain⟨_,_,rfl⟩:=f;obtain⟨_,⟨_,e⟩|⟨t,_,u,_,e,r,_⟩⟩:=h;cases e;obtain⟨_,⟨_,c⟩|⟨v,_,s,_,c,a,_⟩⟩:=l;cases c;injection e with e;injection c with c;have e:=cT Addr.block (cO e);have c:=cT Addr.block (cO c);simp only at e c;subst e;subst c;rw[r]at a;injection a with a;injection a with _ a;exact n a
def Pq{r:nd}{u:Array Bool}{b:List cz}(h:gU m w x b)(n:m<=w.heap.size)(o:fE m w y l)(v:w.heap[k]? =some (.cells [y].toArray 27))(c:b.length+1<=1000000) (z:∀g d,gU m d g (b++[l])->(∀W,Ext W w->W.heap.size<=m->Ext W d)->r g d):zV V.prog (builtin .append #[66,66] T u #[x,.slice (some ⟨k,0,none⟩) 1 i]) w r:=by
 obtain⟨A,j,s,B⟩:=h;have e:y.oneCell'=true:=by obtain⟨a,i,rfl,_⟩:=o.row;rfl
 refine gq Pi j n v c (λg d C p J=>z g d ⟨A++[y],by simpa using C,by simp[s],λq D=>?_⟩ λW E F=>E.ia p j F) rfl (by simp[ri,e]);rcases fj q b.length with f|G;obtain⟨H,I,t⟩:=B q f;refine⟨H,by rw[nT (by omega)];exact I,?_⟩;rw[nU f];exact t.keep p (kN t j (by decide));obtain rfl:q=b.length:=by simp at D;omega
 refine⟨y,by rw[oM (by omega)];simp[s],?_⟩;simp only[vA (cJ _),mZ,oN];exact o.keep p (kN o j (by decide))
def fE.low(h:fE m w x l)(f:k<=m):fE k w x l:=by obtain⟨a,h|⟨b,c,d,g,e⟩⟩:=h;exact⟨a,.inl h⟩;exact⟨a,.inr ⟨b,c,d,by omega,e⟩⟩
def GH(a:List (List Nat))(i:Option Addr)(m:Nat)(w:cn)(q:wM w i a)(p:a.length<=100000)(r:∀l∈a,l.length<=100000):Calls V.prog 131 #[.slice i a.length m] w (fi λv c=>Ext w c/\gU w.heap.size c v a):=by refine gd Tryz.func131 Tryz.ntmps131 ?_;refine cS (gT (n:=a.length) (λk v=>[(3,v),(6,.slice i a.length m),(7,i64 a.length),(8,i64 k)]) (λk v c=>Ext w c/\gU w.heap.size c v (a.take k)) (.slice none 0 0) ⟨by trivial,Ext.refl _,[],cR.nil _ _ _ _,rfl,λk d=>by simp at d⟩ ?_ ?_ ?_);rintro k v c d ⟨e,f⟩;exact du ⟨rfl,rfl,by trivial,e,f⟩;rintro k v c d ⟨e,f⟩;obtain⟨b,o,C,D,rfl,s,t,_⟩:=(q.ext e) k d;refine fw k d (cu s (cD (lL t (by have:=r _ (ef d);omega)) λu E g=>?_));obtain⟨j,g⟩:=g;refine eg [u] 27 (λF G h x y=>Pq ((f.ext j).ext h) (by have:=e.size;have:=j.size;have:=h.size;omega) ((g.low e.size).ext h) y (by simp;omega) λz H A B=>cF ⟨z,by trivial,B w ((e.trans j).trans h) (cJ _),?_⟩) ?_;rw[jc d];exact A;obtain⟨I,J,rfl,_⟩:=g.row;intro w;kernel_rfl;rintro v c ⟨e,f⟩;rw[mW]at f;exact⟨_,rfl,e,f⟩
def fW{p:Type}(n:Nat){f:Code}{l:L}{Q:QW}(b:Nat->p->L)(J:Nat->p->cU)(q:p)(u:Sub (b 0 q) l/\J 0 q w)
 (g:∀c s w,c<=n->J c s w->WC V.prog Co m f (λe v x=>match e with
  | .normal=>c<n/\∃o,Sub (b (c+1) o) v/\J (c+1) o x
  |e=>jg k Q e v x) (b c s) w):dM V.prog m (Code.block k (Code.loop f)) l w Q:=by
 refine⟨λa r=>?_⟩;refine wp_block<|mF (λj a w=>∃c s,c<=n/\j=n-c/\Fr m (b c s) a/\J c s w) n ⟨0,q,fV _,by omega,r.sub u.1,u.2⟩ ?_;rintro j a w ⟨c,s,y,rfl,r,z⟩;refine kz (iA dj _ _ _ a w r (g c s w y z)) ?_;rintro e E F ⟨t,d,i⟩;cases e with
 |normal=>
  obtain⟨A,o,B,C⟩:=i;exact⟨n-(c+1),by omega,c+1,o,by omega,rfl,d.sub B,C⟩
 |exit j=>
  simp only[Exit.then,Exit.inBlock];by_cases h:j=k;subst h;rw[cB rfl];simp only[jg,vG]at i;exact⟨t,d,i⟩;rw[cy h];have:Nat.beq j k=false:=by
   cases D:Nat.beq j k with
   |false=>rfl
   |true=>exact absurd (gM D) h
  simp only[jg,this]at i;exact⟨t,d,i⟩
 |_=>exact⟨t,d,i⟩
def yF(l a:List Int)(n f:Option Addr)(r i:Nat)(w:cn)(x:gF w n l)(p:gF w f a)(s:l.length<=100000):
 Calls V.prog 58 #[.slice n l.length r,.slice f a.length i] w (fi λv m=>v=.bool (decide (l=a))/\Ext w m):=by
 refine gd Tryz.func58 Tryz.ntmps58 ?_;refine cS (cS (fD ⟨λh=>?_,λh=>?_⟩));have h:¬l=a:=λe=>by subst e;simp at h
 exact⟨_,rfl,by simp[h],Ext.refl _⟩;have h:l.length=a.length:=by simp at h;omega
 refine fW l.length (λk (_:Unit)=>[(0,.slice n l.length r),(1,.slice f a.length i),(5,i64 k)]) (λk _ m=>Ext w m/\l.take k=a.take k) () ⟨by trivial,Ext.refl _,by simp⟩ ?_;rintro k _ m C ⟨e,t⟩;refine cS (du ⟨λc=>?_,λj=>?_⟩);have c:k<l.length:=by simpa using c
 have d:k<a.length:=by omega
 obtain⟨b,o,rfl,y⟩:=x k c;obtain⟨D,E,rfl,q⟩:=p k d;refine cX cV (iK k c (cK (e.cell y) (iK k d (cK (e.cell q) (QK λF u=>⟨λg=>?_,λg=>?_⟩)))));have g:¬l[k]=a[k]:=dO g;have:¬l=a:=λe=>by subst e;exact g rfl
 exact⟨_,rfl,by simp[this],e.trans u⟩;have g:l[k]=a[k]:=by simpa using g
 refine cF ⟨c,(),by trivial,e.trans u,?_⟩;rw[jc c,jc d,t,g];have j:¬k<l.length:=by simpa using j
 have z:k=l.length:=by omega
 have:l=a:=by have A:l.take k=l:=vE (by omega);have B:a.take k=a:=vE (by omega);rw[<-A,<-B,t]
 exact⟨_,rfl,by simp[this],e⟩
def Pr:pI l=pI f↔l=f:=by
 constructor;intro h;induction l generalizing f with
 |nil=>cases f with
  |nil=>rfl
  |cons x r=>simp[pI]at h
 |cons x r a=>cases f with
  |nil=>simp[pI]at h
  |cons y s=>
   simp only[pI,lq,pZ]at h;rw[a h.2,show x=y by omega]
 rintro rfl;rfl
def pM(l b:cz)(e a:ek)(g c:Nat)(w:cn)(h:fN w e l)(f:fN w a b)(d:l.length<=100000):
 Calls V.prog 58 #[.slice e l.length g,.slice a b.length c] w (fi λv i=>v=.bool (decide (l=b))/\Ext w i):=by
 have:=yF (pI l) (pI b) e a g c w h.ints f.ints (by simpa[pI]using d);have j:(pI l).length=l.length:=by simp[pI]
 have k:(pI b).length=b.length:=by simp[pI]
 rw[j,k]at this;simpa only[Pr]using this
def Em(l a:List (List Nat))(q i:Option Addr)(y j:Nat)(w:cn)(C:wM w q l)(r:wM w i a)(z:l.length<=100000)(s:∀x∈l,x.length<=100000):
 Calls V.prog 71 #[.slice q l.length y,.slice i a.length j] w (fi λv p=>v=.bool (decide (l=a))/\Ext w p):=by
 refine gd Tryz.func71 Tryz.ntmps71 ?_;refine cS (cS (fD ⟨λh=>?_,λh=>?_⟩));have h:¬l=a:=λe=>by subst e;simp at h
 exact⟨_,rfl,by simp[h],Ext.refl _⟩;have h:l.length=a.length:=by simp at h;omega
 refine fW l.length (λk (_:Unit)=>[(0,.slice q l.length y),(1,.slice i a.length j),(5,i64 k)]) (λk _ p=>Ext w p/\l.take k=a.take k) () ⟨by trivial,Ext.refl _,by simp⟩ ?_;rintro k _ p I ⟨e,A⟩;refine cS (du ⟨λd=>?_,λm=>?_⟩);have d:k<l.length:=by simpa using d
 have f:k<a.length:=by omega
 obtain⟨b,o,x,c,rfl,D,g,_⟩:=(C.ext e) k d;obtain⟨J,K,E,F,rfl,t,u,_⟩:=(r.ext e) k f;refine cX cV (iK k d (cK D (iK k f (cK t (fh (.bool (decide (l[k]=a[k]))) (λB n=>pM l[k] a[k] x E c F B (g.ext n) (u.ext n) (s _ (ef d))) (kF λB n=>⟨λg=>?_,λg=>?_⟩))))));have g:¬l[k]=a[k]:=by simpa using g
 have:¬l=a:=λe=>by subst e;exact g rfl
 exact⟨_,rfl,by simp[this],e.trans n⟩;have g:l[k]=a[k]:=by simpa using g
 refine cF ⟨d,(),by trivial,e.trans n,?_⟩;rw[jc d,jc f,A,g];have m:¬k<l.length:=by simpa using m
 have:l=a:=by have G:l.take k=l:=vE (by omega);have H:a.take k=a:=vE (by omega);rw[<-G,<-H,A]
 exact⟨_,rfl,by simp[this],e⟩
structure wN(w:cn)(gp mk ms:Nat)(G:Gd)(w':cn):Prop where
 g:oK gp mk ms G w'
 lo:w.heap.size<=gp/\w.heap.size<=mk/\w.heap.size<=ms
 km:w'.heap[mk]? =some (.map #[] 0)
 sm:w'.heap[ms]? =some (.map #[] 0)
theorem wN.ext{gp mk ms:Nat}(h:wN w gp mk ms H t)(a:Ext t e):wN w gp mk ms H e:=⟨h.g.ext a,h.lo,a.at_ h.km,a.at_ h.sm⟩
def wN.low{gp mk ms:Nat}(h:wN w gp mk ms H e)(a:Ext t w):wN t gp mk ms H e:=⟨h.g,by have:=a.size;have:=h.lo;omega,h.km,h.sm⟩
def AI{dc:Nat}(h:fZ w a H.doors)(b:H.doors.length<=100000):
 Calls V.prog 144 #[gV H a dc] w (fi λv d=>Ext w d/\((dK H≠0/\v=.tuple #[.pointer none,.int .i64 (dK H)])\/(dK H=0/\∃c mk f,v=.tuple #[.pointer (some ⟨c,0,none⟩),.int .i64 0]/\wN w c mk f H d))):=by
 refine(Jm H a dc w h b).mono ?_;rintro e d ⟨v,rfl,i,j⟩;refine⟨v,rfl,i,j.imp id ?_⟩;rintro⟨k,c,mk,f,l,m,n,o,p,q,g⟩;exact⟨k,c,mk,f,l,m,⟨n,o,p⟩,q,g⟩
def dA(c:w.heap[k]? =some (.cells (gL H a m).toArray 24)){b:nd}(h:b (gV H a m) w):jj V.prog (Instr.loadAt 24 (.pointer (some ⟨k,0,none⟩))) w b:=
 dJ (vs:=gL H a m) (λj v d=>by rw[cG];exact cr c (by simpa using d)) h
def yG{dc:Nat}(k:fZ w a H.doors)(b:H.doors.length<=100000){l:List Int}{la:Option Addr}{lc:Nat}(m:gF w la l)(n:l.length<=100000)(o:l.length<=lc):
 Calls V.prog 113 #[gV H a dc,.slice la l.length lc] w (fi λv i=>Ext w i/\((dK H≠0/\v=.tuple #[.pointer none,.int .i64 (dK H)])\/(dK H=0/\∃d mk f,v=.tuple #[.pointer (some ⟨d,0,none⟩),.int .i64 (ig H.doors.length l)]/\wN w d mk f H i))):=by
 refine gd Tryz.func113 Tryz.ntmps113 ?_;refine ej λr s c p q=>dA q (cD (AI (dc:=dc) (k.ext c) b) ?_);rintro v t ⟨h,⟨e,rfl⟩|⟨e,d,mk,f,rfl,j⟩⟩;exact fD (jZ (by simpa using e) ⟨_,rfl,c.trans h,.inl ⟨e,rfl⟩⟩);exact fD (lx (by simp) (dg (AG j.g (m.ext (c.trans h)) n o) ⟨_,rfl,c.trans h,.inr ⟨e,d,mk,f,rfl,j.low c⟩⟩))
def my(G:Gd)(l:gC):Int:=if dK G=0 then ig G.doors.length l else dK G
def mz(a b:Int):dr:=[.int .i64 a,.int .i64 b]
def od{l:gC}(h:ig m l=0):∃a:cz,l=pI a/\(∀d∈a,d<m):=by
 have e:∀(l b:gC),n7 m b l=0->∃a:cz,l=pI a/\∀d∈a,d<m:=by
  intro l;induction l with
  |nil=>intro _ _;exact⟨[],rfl,λd c=>by cases c⟩
  |cons x r f=>
   intro b h;simp only[n7]at h;split at h;rename_i g;split at h;omega;obtain⟨a,i,j⟩:=f _ h;simp[kP]at g;refine⟨x.toNat::a,?_,λd c=>?_⟩;simp only[pI,lq,pZ];exact⟨by omega,i⟩;rcases eO.1 c with rfl|c;omega;exact j d c;omega
 exact e l [] h
def gF.En(h:gF w a (pI l)):fN w a l:=λk c=>by obtain⟨b,o,d,e⟩:=h k (by simpa[pI]using c);exact⟨b,o,d,by rw[e];simp[pI]⟩
def vg(G:Gd)(l:gC):cq:=if my G l=0 then .tuple #[.agg (mz (iG G (l.map Int.toNat)) (iU G (l.map Int.toNat))).toArray,.int .i64 0]else .tuple #[.agg (mz 0 0).toArray,.int .i64 (my G l)]
def Jr{dc:Nat}(G:fZ w a H.doors)(p:H.doors.length<=100000){l:List Int}{la:Option Addr}{lc:Nat}(C:gF w la l)(x:l.length<=100000)(I:l.length<=lc):
 Calls V.prog 44 #[gV H a dc,.slice la l.length lc] w (fi λv J=>v=vg H l/\Ext w J):=by
 refine gd Tryz.func44 Tryz.ntmps44 ?_;refine ej λS T i K L=>eD λM D m N q=>dA (m.at_ L) (cD (yG (dc:=dc) (G.ext (i.trans m)) p (C.ext (i.trans m)) x I) ?_);have r:∀(n:cn),Ext M n->my H l≠0->∀k:cn->Prop,(∀d,Ext w d->Sem.run V.prog (loadVar 56 ⟨D,0,none⟩) d=.ok (.agg (mz 0 0).toArray) d->k d)->DO V.prog (Instr.storeAt 56 (.pointer (some ⟨D,0,none⟩)) (.agg (mz 0 0).toArray)) n k:=λn e b k O=>
  dq (e.at_ q) λd P y=>O d (((i.trans m).trans e).cC P (by have:=i.size;omega)) (kH (mz 0 0) y λj v z=>by rw[cG];show(mz 0 0).toArray[j]? =some v;simpa using z)
 rintro v n ⟨e,⟨o,rfl⟩|⟨o,U,mk,W,rfl,E⟩⟩;have b:my H l=dK H:=by simp[my,o]
 refine fD (jZ (by simpa using o) (dS (.agg (mz 0 0).toArray) (r n e (by rw[b];exact o) _ λd f A=>⟨_,A,_,rfl,?_,f⟩)));rw[vg,b,cy o];rfl;have b:my H l=ig H.doors.length l:=by simp[my,o]
 refine fD ⟨λh=>?_,λh=>?_⟩;have h:¬ig H.doors.length l=0:=dO h;refine dS (.agg (mz 0 0).toArray) (r n e (by rw[b];exact h) _ λd f A=>⟨_,A,_,rfl,?_,f⟩);rw[vg,b,cy h];rfl;have h:ig H.doors.length l=0:=by simpa using h
 obtain⟨c,rfl,s⟩:=od h;have Q:(pI c).length=c.length:=by simp[pI]
 have t:=((C.ext (i.trans m)).ext e).En;have u:(pI c).map Int.toNat=c:=by simp[pI,Ct]
 rw[Q]at x⊢;refine dG (Ej E.g s x t) λd f=>dG (BK (E.ext f).g s x (t.ext f)) λX F=>?_;refine dS (.agg (mz (iG H c) (iU H c)).toArray) (dq (F.at_ (f.at_ (e.at_ q))) λY R B=>⟨_,kH (mz (iG H c) (iU H c)) B λj v z=>by rw[cG];show(mz (iG H c) (iU H c)).toArray[j]? =some v;simpa using z,_,rfl,?_,?_⟩);rw[vg,b,cB h,u];rfl;exact(((i.trans m).trans e).trans (f.trans F)).cC R (by have:=i.size;omega)
def MB:List Dr:=[⟨0,3,5⟩,⟨0,8,2⟩,⟨1,5,4⟩,⟨1,2,6⟩]
def fy:Gd:=⟨2,4,1,40,3,2,MB⟩
def Js{a:List Dr}(h:w.heap[m]? =some (.cells (a.flatMap dL).toArray T)):fZ w (some ⟨m,0,none⟩) a:=λk b=>by obtain⟨c,d,e⟩:=ug a k b;exact⟨m,0,rfl,cr h (by rw[cG];simpa using c),cr h (by rw[cG];simpa using d),cr h (by rw[cG];simpa using e)⟩
def MC(w:cn):Calls V.prog 95 #[] w (fi λv k=>Ext w k/\∃b,w.heap.size<=b/\v=gV fy (some ⟨b,0,none⟩) 4/\k.heap[b]? =some (.cells (MB.flatMap dL).toArray 81)):=by
 refine gd Tryz.func95 Tryz.ntmps95 ?_;refine eD λr d l e m=>dS (.agg (dL ⟨0,3,5⟩).toArray) (dS (.agg (dL ⟨0,8,2⟩).toArray) (dS (.agg (dL ⟨1,5,4⟩).toArray) (dS (.agg (dL ⟨1,2,6⟩).toArray) (eg (MB.flatMap dL) 81 λs b n t f=>?_))));refine dS (gV fy (some ⟨b,0,none⟩) 4) (dq (n.at_ m) λg o c=>?_);have h:g.heap[d]? =some (.cells (gL fy (some ⟨b,0,none⟩) 4).toArray 24):=c.trans (cT (λa=>some (Obj.cells a 24)) (dC (pm 24).toArray (gL fy (some ⟨b,0,none⟩) 4) rfl));have p:Sem.run V.prog (loadVar 24 ⟨d,0,none⟩) g=.ok (gV fy (some ⟨b,0,none⟩) 4) g:=kH (gL fy (some ⟨b,0,none⟩) 4) h λj v q=>by rw[cG];simpa using q
 clear c;have i:¬(b=d):=by have:=cP.lt_of_heap m;omega
 refine⟨gV fy (some ⟨b,0,none⟩) 4,p,?_⟩;exact⟨_,rfl,(l.trans n).cC o e,b,by have:=l.size;omega,rfl,o.fe f i⟩
structure Ty where
 door:Nat
 shift:Nat
 opened:Bool
def tL(t:Ty):dr:=[.int .i64 t.door,.int .i64 t.shift,.bool t.opened]
def MD:List Ty:=[⟨0,0,false⟩,⟨1,0,true⟩,⟨2,1,false⟩]
def Jt(w:cn):Calls V.prog 96 #[] w (fi λv c=>Ext w c/\∃b,w.heap.size<=b/\v=.slice (some ⟨b,0,none⟩) 3 3/\c.heap[b]? =some (.cells (MD.flatMap tL).toArray 84)):=by refine gd Tryz.func96 Tryz.ntmps96 ?_;exact dS (.agg (tL ⟨0,0,false⟩).toArray) (dS (.agg (tL ⟨1,0,true⟩).toArray) (dS (.agg (tL ⟨2,1,false⟩).toArray) (eg (MD.flatMap tL) 84 λf b d e a=>⟨_,rfl,d,b,e,rfl,a⟩)))
def BO(b:Int)(a:Option Addr)(l c:Nat)(w:cn):Calls V.prog 97 #[.int .i64 b,.slice a l c] w (fi λv g=>v=.agg #[.int .i64 b,.slice a l c]/\Ext w g):=by
 refine gd Tryz.func97 Tryz.ntmps97 ?_;refine eD λp h i d k=>dS (.agg ([i64 b,.slice a l c]:List cq).toArray) (dq k λf m e=>?_);have n:Sem.run V.prog (loadVar 29 ⟨h,0,none⟩) f=.ok (.agg ([i64 b,.slice a l c]:List cq).toArray) f:=kH _ e λj v o=>by rw[cG];show([i64 b,.slice a l c]:List cq).toArray[j]? =some v;simpa using o
 exact⟨_,n,_,rfl,rfl,i.cC m d⟩
theorem vh:∀a:List Sx,(a.flatMap ly).length=a.length*8
 |[]=>rfl
 |x::r=>by have:=vh r;simp[ly,this];omega
theorem vi:∀(a:List Sx) (k:Nat) (b:k<a.length) (j:Nat) (v:cq),(ly a[k])[j]? =some v->(a.flatMap ly)[k*8+j]? =some v
 |x::r,0,_,j,v,h=>by have c:j<(ly x).length:=(iI.1 h).1;simp only[mV,Nat.zero_mul,cG];rw[nT c];exact h
 |x::r,k+1,b,j,v,h=>by have d:=vi r k (by simpa using b) j v (by simpa using h);have e:(ly x).length=8:=rfl;simp only[mV];rw[oM (by omega),e,show(k+1)*8+j-8=k*8+j by omega];exact d
structure nF(sb:Nat)(xs:List Sx)(w:cn):Prop where
 out:∃cs,w.heap[sb]? =some (.cells cs 166)/\xs.length*8<=cs.size/\∀k (h:k<xs.length) j v,(ly xs[k])[j]? =some v->cs[k*8+j]? =some v
def nF.row{a:List Sx}(h:nF m a w):tn w (some ⟨m,0,none⟩) a:=λk b=>by obtain⟨f,c,g,d⟩:=h.out;exact⟨m,0,rfl,λj v e=>cr c (by rw[cG];exact d k b j v e)⟩
def nF.ext{a:List Sx}(h:nF m a w)(e:Ext w t):nF m a t:=by obtain⟨b,c,d⟩:=h.out;exact⟨b,e.at_ c,d⟩
def nF.keep{a:List Sx}(h:nF m a w)(k:cW A w t)(b:¬A m):nF m a t:=by obtain⟨c,d,e⟩:=h.out;exact⟨c,k.fe d b,e⟩
def ME{b:List Sx}(h:nF m b w)(a o:Nat)(F:a<b.length)(c:k=a*8+o)(n:Sx)(G:o+x.cells.size<=8)
 (r:∀j u,(ly n)[j]? =some u->(if o<=j/\j<o+x.cells.size then x.cells.toList[j-o]? else(ly b[a])[j]?)=some u)
 (s:∀d,cW (λt=>t=m) w d->nF m (b.set a n) d->S d)(v:ri x.cells.toList=true:=by rfl)(y:NX T=some x.cells.size:=by rfl):DO V.prog (Instr.storeAt T (.pointer (some ⟨m,k,none⟩)) x) w S:=by
 subst c;obtain⟨z,A,B,p⟩:=h.out;have H:a*8+8<=z.size:=by have:=qy 8 (show a+1<=b.length by omega);omega
 refine iT A (by omega) (λd C l=>s d C ⟨_,l,by rw[n5];simpa using B,λi D j u e=>?_⟩) (fK v) y;have E:j<8:=(iI.1 e).1;rw[nE _ _ _ _ (by simp;omega)];simp only[Array.length_toList];have f:i<b.length:=by simpa using D
 by_cases g:i=a;subst g;rw[List.getElem_set_self]at e;have:=r j u e;by_cases q:o<=j/\j<o+x.cells.size;rw[cB q]at this;rw[cB (by omega),show i*8+j-(i*8+o)=j-o by omega];exact this;rw[cy q]at this;rw[cy (by omega)];exact p i f j u this;rw[List.getElem_set_ne (by omega)]at e;rw[cy (by rcases Nat.lt_or_gt_of_ne g with h|h;have:=qy 8 (show i+1<=a by omega);omega;have:=qy 8 (show a+1<=i by omega);omega)];exact p i f j u e
def leave1(a:List Sx)(d:Nat):List Sx:=match a[d]? with
 |some x=>a.set d {x with left:=true}
 |none=>a
def jz(a:List Sx)(l:cz):List Sx:=l.foldl leave1 a
def GI(a:List Sx)(d:Nat):(leave1 a d).length=a.length:=by unfold leave1;split<;>simp
theorem pN:∀(l:cz) (a:List Sx),(jz a l).length=a.length
 |[],_=>rfl
 |d::r,a=>(pN r (leave1 a d)).trans (GI a d)
def Eo(a:List Sx)(l:cz)(k:Nat)(b:k<l.length):jz a (l.take (k+1))=leave1 (jz a (l.take k)) l[k]:=by rw[jc b];simp only[jz,xo,qa,List.foldl_nil]
def tp(e:Nat)(w:cn)(v:cq)(b:List Sx):Prop:=(b=[]/\∃a c,v=.slice a 0 c)\/∃d c,e<=d/\v=.slice (some ⟨d,0,none⟩) b.length c/\nF d b w
def tn.cells{w:cn}{a:ek}{c:List Sx}(h:tn w a c):ii w a (c.flatMap ly):=by
 rcases c with _|⟨x,r⟩;exact .inl rfl;obtain⟨b,o,rfl,_⟩:=h 0 (by simp);refine .inr ⟨b,o,rfl,λj u g=>?_⟩;have m:j<(x::r).kq*8:=by rw[<-vh];exact(iI.1 g).1
 have i:j/8<(x::r).kq:=by omega
 obtain⟨n,p,e,q⟩:=h (j/8) i;obtain⟨rfl,rfl⟩:b=n/\o=p:=by injection e with e;injection e with s t;exact⟨s,t⟩
 have v:j%8<(ly (x::r)[j/8]).kq:=by show j%8<8;omega
 have k:=eV v;have d:=vi (x::r) (j/8) i (j%8) _ k;have l:=q (j%8) _ k;have f:j/8*8+j%8=j:=by omega
 rw[f]at d;rw[g]at d;obtain rfl:=cO d;have:o+j/8*8+j%8=o+j:=by omega
 rw[this]at l;exact l
def tn.rn{a:List Sx}(h:tn w none a):a.length=0:=by rcases a with _|⟨x,r⟩;rfl;obtain⟨b,o,e,_⟩:=h 0 (by simp);cases e
def uo{c:List Sx}(h:tn w a c)(d:c.length<=1000000):Calls V.prog 154 #[.slice a c.length m] w (fi λv g=>Ext w g/\tp w.heap.size g v c):=by refine(Mx a c.length m (c.flatMap ly) w (vh c) (λe=>by subst e;exact h.rn) h.cells (λu f=>?_) d).mono ?_;obtain⟨x,_,f⟩:=sq.1 f;simp[ly]at f;rcases f with rfl|rfl|rfl|rfl|rfl|rfl|rfl|rfl<;>rfl;rintro e g ⟨v,rfl,i,B,⟨n,rfl⟩|⟨b,o,p,q,rfl,r,s,t,C,y,D⟩⟩;exact⟨_,rfl,i,.inl ⟨oL n,none,0,rfl⟩⟩;refine⟨_,rfl,i,.inr ⟨b,o,q,rfl,⟨p,r,?_,λk z j v A=>?_⟩⟩⟩;have:(pm 166).length=8:=rfl;rw[this]at s;have:=qy 8 t;omega;have l:=vi c k z j v A;rw[y _ (iI.1 l).1];exact l
def GJ{wp gp mk ms:Nat}{p:List Sx}(h:ll wp gp mk ms H p I w)(X:fN w a l)(Y:∀d∈l,d<p.length)(O:l.length<=100000):
 Calls V.prog 171 #[.pointer (some ⟨wp,0,none⟩),.slice a l.length m] w (fi λv r=>Ext w r/\∃z,v=.pointer (some ⟨z,0,none⟩)/\ll z gp mk ms H (jz p l) I r):=by
 obtain⟨Z,sc,h1,P,h3,h4⟩:=h.at_;have aa:p.length<=5:=by have:=h.len;have:=h.g.uh.many;omega
 refine gd Tryz.func171 Tryz.ntmps171 ?_;refine dJ (vs:=[.pointer (some ⟨gp,0,none⟩),.slice Z p.length sc,i64 I]) (λj v f=>?_) (eD λw1 D e1 A q=>dq q λJ k2 s=>?_);match j,f with
 |0,f=>cases f;exact h1
 |1,f=>cases f;exact P
 |2,f=>cases f;exact h3
 have E:Ext w J:=e1.cC k2 A;refine cu (E.cell P) (cD (uo (h4.ext E) (by omega)) ?_);rintro v w3 ⟨Q,R⟩;have ab:=cP.lt_of_heap s;have i:v.oneCell'=true/\v.cells=#[v]:=by obtain⟨_,S,c,rfl⟩|⟨B,c,_,rfl,_⟩:=R<;>exact⟨rfl,rfl⟩
 refine iT (Q.at_ s) (by rw[i.2];exact qb rfl) (λK T t=>?_) (by rw[i.2];simpa using i.1) (by rw[i.2];rfl);rw[i.2]at t;have L:K.heap[D]? =some (.cells #[.pointer (some ⟨gp,0,none⟩),v,i64 I] 141):=t;clear t s;have e4:Ext w K:=(E.trans Q).cC T A;have M:tp J.heap.size K v p:=by obtain h|⟨B,c,F,g2,C⟩:=R;exact .inl h;exact .inr ⟨B,c,F,g2,C.keep T (by omega)⟩
 refine cS (eE (n:=l.length) (λk=>[(5,.pointer (some ⟨D,0,none⟩)),(17,.slice a l.length m),(18,i64 l.length),(19,i64 k)]) (λk r=>Ext w r/\r.heap[D]? =some (.cells #[.pointer (some ⟨gp,0,none⟩),v,i64 I] 141)/\tp J.heap.size r v (jz p (l.take k))) ⟨by trivial,e4,L,by simpa[jz]using M⟩ ?_ ?_ ?_);rintro k r x hJ;exact du ⟨rfl,rfl,by trivial,hJ⟩;rintro k r x ⟨e,q,G⟩;obtain⟨b,o,rfl,hc⟩:=(X.ext e) k x;have U:=Y _ (ef x);obtain⟨N,_⟩|⟨B,c,F,rfl,C⟩:=G;have:=cT List.length N;rw[pN]at this;simp at this;subst this;simp at U;have y:l[k]<(jz p (l.take k)).length:=by rw[pN];exact U
 refine fw k x (cu hc (cu (cr q rfl) (eN l[k] 8 y (ME C l[k] 7 y (by omega) {(jz p (l.take k))[l[k]]with left:=true} (by decide) (λj u f=>?_) (λw5 W g5=>cF ⟨by trivial,e.cC W (by have:=E.size;omega),W.fe q (by omega),?_⟩)))));match j,f with
 |0,f=>exact f
 |1,f=>exact f
 |2,f=>exact f
 |3,f=>exact f
 |4,f=>exact f
 |5,f=>exact f
 |6,f=>exact f
 |7,f=>exact f
 rw[Eo p l k x];have he:leave1 (jz p (l.take k)) l[k]=(jz p (l.take k)).set l[k] {(jz p (l.take k))[l[k]]with left:=true}:=by unfold leave1;rw[eV y]
 rw[he];exact .inr ⟨B,c,F,by rw[xp],g5⟩;rintro r ⟨e,q,G⟩;rw[mW]at G;refine⟨_,rfl,e,D,rfl,h.g.ext e,by rw[pN];exact h.len,h.bf,?_⟩;obtain⟨N,S,c,rfl⟩|⟨B,c,F,rfl,C⟩:=G;rw[N];exact⟨S,c,cr q rfl,cr q rfl,cr q rfl,λk x=>by simp at x⟩;exact⟨_,c,cr q rfl,cr q rfl,cr q rfl,C.row⟩
def Ep(s:Nat)(w:cn):Calls V.prog 167 #[.int .i64 s] w (fi λv a=>v=.bool (decide (s%2=0))/\a=w):=by refine gd Tryz.func167 Tryz.ntmps167 ?_;exact rl (m:=s) (n:=2) (by omega) (ff ⟨_,rfl,by congr 1;simp;omega,rfl⟩)
def Er(s:Nat)(w:cn):Calls V.prog 168 #[.int .i64 s] w (fi λv a=>v=.bool (decide (s%2=1))/\a=w):=by refine gd Tryz.func168 Tryz.ntmps168 ?_;exact rl (m:=s) (n:=2) (by omega) (ff ⟨_,rfl,by congr 1;simp;omega,rfl⟩)
def QN(c:cq)(p:Nat->Bool):Prop:=∃g first a,c=.func (.func g) first a/\(∀b w,Sem.run V.prog (callFunc g b) w=.ok (.enter g b) w)/\∀(n:Nat) w,Calls V.prog g (first.toList++([Value.int .i64 n]++a.toList)).toArray w (fi λv d=>v=.bool (p n)/\d=w)
def pO(p:Nat->Bool):cz->Nat->Int
 |[],_=> -1
 |y::r,i=>if p y then i else pO p r (i+1)
def Et(p:Nat->Bool)(l:cz)(k:Nat)(a:k<l.length):pO p (l.drop k) k=if p l[k]then(k:Int)else pO p (l.drop (k+1)) (k+1):=by rw[sn a];rfl
theorem yH(p:Nat->Bool):∀(l:cz) (i:Nat),decide (0<=pO p l i)=l.any p
 |[],_=>rfl
 |y::r,i=>by
  simp only[pO,List.any_cons];by_cases h:p y=true;simp[h];have h:p y=false:=by simpa using h
  simpa[h]using yH p r (i+1)
def zY{p:Nat->Bool}(r:QN x p)(l:List Nat)(f:Option Addr)(m:Nat)(w:cn)(s:fN w f l)(q:l.length<=100000):Calls V.prog 195 #[.slice f l.length m,x] w (fi λv c=>v=.int .i64 (pO p l 0)/\c=w):=by obtain⟨g,first,i,rfl,j,t⟩:=r;refine gd Tryz.func195 Tryz.ntmps195 ?_;refine cS (eE (n:=l.length) (λk=>[(0,.slice f l.length m),(1,.func (.func g) first i),(7,i64 l.length),(8,i64 k)]) (λk c=>c=w/\pO p l 0=pO p (l.drop k) k) ⟨by trivial,rfl,rfl⟩ ?_ ?_ ?_);rintro k c e ⟨rfl,a⟩;exact du ⟨rfl,rfl,by trivial,rfl,a⟩;rintro k c e ⟨rfl,a⟩;obtain⟨b,o,rfl,d⟩:=s k e;rw[Et p l k e]at a;refine fw k e (cu d (dg (t l[k] c) ⟨λh=>?_,λh=>?_⟩ j));rw[cB h]at a;exact⟨_,rfl,by rw[a];rfl,rfl⟩;rw[h]at a;exact cF ⟨by trivial,rfl,a⟩;rintro c ⟨rfl,a⟩;exact⟨_,rfl,by rw[a];simp[pO],rfl⟩
def o8{p:Nat->Bool}(d:QN x p)(l:cz)(b:ek)(c:Nat)(w:cn)(e:fN w b l)(a:l.length<=100000):Calls V.prog 166 #[.slice b l.length c,x] w (fi λv f=>v=.bool (l.any p)/\f=w):=by refine gd Tryz.func166 Tryz.ntmps166 ?_;exact dg (zY d l b c w e a) (yz ⟨_,rfl,by rw[<-yH p l 0];rfl,rfl⟩)
end Go.Proofs.W
