/- Laws that the proof needs, part 5. Conditions: none. -/
import Derived.Test.YteeagjkaflglpaaGreatX04
set_option maxRecDepth 100000
set_option maxHeartbeats 8000000
set_option linter.all false
variable{m k i j o p s d:Nat}{R:Go.cF.cR}{Z:cj}
namespace Go.cF
open Go.Conc
section
variable{P:cf}{Stop:Frame->List Frame->cd->Prop}
def Jr(P:cf)(Stop:Frame->List Frame->cd->Prop):Prop:=∀b a v,Stop b a v->a≠[]/\∀T c d e,stepG P true (G b a) (cI v T)=.go c d e->c.callers=[]
def zU{a:Frame}{v f:cd}{g:Array Event}(i:a.defers=[])(b:(a.mode=.returning/\a.kind=.normal/\∃d,P.funcs[a.fn]? =some d)\/∃j,a.mode=.panicking j) (h:stepG P true (G a [floor]) v=.go Z f g):Z.callers=[]:=by
 rcases b with⟨b,l,d,m⟩|⟨j,b⟩;simp only[stepG,unwind,G,b,i,m,doReturn,l]at h;rcases n:(results d a.tmps).runT P v #[]with⟨r,o⟩;rw[n]at h;cases r with
 |ok x w=>
  simp only[GStep.after]at h;injection h with e p q;rw[<-e]
 |halt s w=>
  cases s<;>simp only[GStep.after]at h<;>cases h
 have c:unwind P true a [floor] none v=.go Z f g:=by simp only[stepG,G,b]at h;exact h
 unfold unwind at c;simp only[b,i]at c;by_cases k:a.catches P=true;rw[cx k]at c;cases c;rw[cr k]at c;injection c with e p q;rw[<-e]
def zV{c a:Frame}{d b:List Frame}{v e:cd}(h:lone c d v=lone a b e):c=a/\d=b/\v=e:=by unfold lone at h;injection h with g f;simp only[Bd,qm]at f;have:=f.1;injection this with i j;exact⟨i,j,g⟩
def H1(v:cd):cI v v.tape=v:=rfl
def xk(B:Jr P Stop):∀(n:Nat) {c:pA} {T:Ta} {p:Frame} {m:List Frame} {w:cd},Inv P c->Below c.v T->runN P (n+1) (lone c.fr c.cl (cI c.v T))=.next (lone p m w)->m≠[]->Path P Stop c ⟨p,m,w⟩/\Inv P ⟨p,m,w⟩:=by
 intro n;induction n with
 |zero=>
  intro c T p m w t u h i;rcases(t.cI T).step with⟨o,C,g,e⟩|⟨x,f,g,e,s⟩|⟨a,b,f,g,e,d⟩;exfalso;simp only[runN,mZ e]at h;cases h;exfalso;obtain⟨a,b,D,E,F⟩:=x;obtain⟨k,l,q,r,y⟩:=s;simp only at q k l r y;subst q k l r;simp only[runN,pB (show stepG P true (G c.fr c.cl) (cI c.v T)=.go (G a []) f g from e)]at h;injection h with h;exact i (zV h).2.1.symm;simp only[runN,pB (show stepG P true (G c.fr c.cl) (cI c.v T)=.go (G a b) f g from e)]at h;injection h with h;obtain⟨rfl,rfl,rfl⟩:=zV h;have j:stepG P true (G c.fr c.cl) (cI c.v T)=.go (G a b) f g:=e;exact⟨.one (λz=>i ((B _ _ _ z).2 T _ _ _ j)) u j,d⟩
 |succ n H=>
  intro c T p m w t u h i;rcases(t.cI T).step with⟨o,C,g,e⟩|⟨x,f,g,e,s⟩|⟨a,b,f,g,e,d⟩;exfalso;have j:stepG P true (G c.fr c.cl) (cI c.v T)=.ended o C g:=e;rw[runN,mZ j]at h;cases h;exfalso;have A:=s;obtain⟨a,b,D,E,F⟩:=x;obtain⟨k,l,q,r,y⟩:=s;simp only at q k l r y;subst q k l r;obtain⟨o,L,I,J⟩:=A.ended (P:=P) true f;rw[runN,pB (show stepG P true (G c.fr c.cl) (cI c.v T)=.go (G a []) f g from e)]at h;dsimp only at h;rw[runN,mZ (show stepG P true (G a []) f=_ from J)]at h;cases h;have j:stepG P true (G c.fr c.cl) (cI c.v T)=.go (G a b) f g:=e;rw[runN,pB j]at h;dsimp only at h;have K:¬Stop c.fr c.cl c.v:=λz=>d.callers ((B _ _ _ z).2 T _ _ _ j);obtain⟨k,l⟩:=H (c:=⟨a,b,f⟩) (T:=f.tape) d (λ_ _=>rfl) h i;exact⟨.cons K u j k,l⟩
def Path.reach{c d:pA}(h:Path P Stop c d)(f:Reach P Stop c):Reach P Stop d:=by
 induction h with
 |one a b e=>exact f.follow a b e
 |cons a b e _ g=>exact g (f.follow a b e)
def Calm(P:cf)(v:cd)(a:Frame):Prop:=(∃e,P.funcs[a.fn]? =some e)/\∀d∈a.defers,∃b,d.target=.collected b/\∀c,v.heap[b]? =some (.deferred (some c))->c=[]
def BQ(v d:cd):Prop:=∀(b:Nat) (a:Array ce) (t:cg) (c:Nat×Nat),v.heap[b]? =some (Obj.cells a t c)->d.heap[b]? =some (Obj.cells a t c)
structure Js(P:cf)(v0:cd)(c:pA):Prop where
 mode:∃ch,c.fr.mode=.panicking ch
 calm:Calm P c.v c.fr
 callers:∃X,c.cl=X++[floor]/\∀x∈X,Calm P c.v x
 kept:BQ v0 c.v
 back:BQ c.v v0
 size:c.v.heap.size=v0.heap.size
def run_takeDeferred(b:Nat)(v:cd):(∃h w,(Instr.takeDeferred b).run P v=.halt h w)\/∃a,v.heap[b]? =some (.deferred (some a))/\(Instr.takeDeferred b).run P v=.ok a {v with heap:=v.heap.setIfInBounds b (.deferred none)}:=by
 unfold Instr.takeDeferred;simp only[Sem.run_bind];cases d:v.heap[b]? with
 |none=>simp[Sem.run,getObj,d]
 |some o=>
  cases o with
  |deferred c=>cases c with
   |none=>simp[Sem.run,getObj,d,stuck]
   |some a=>exact .inr ⟨a,rfl,by simp[Sem.run,getObj,setObj,d]⟩
  |_=>simp[Sem.run,getObj,d,stuck]
def Frame.Dm(a:Frame)(b:List PanicEntry):(a.raise b).defers=a.defers/\(a.raise b).fn=a.fn/\∃c,(a.raise b).mode=.panicking c:=by unfold Frame.raise;split<;>exact⟨rfl,rfl,_,rfl⟩
def Js.stop(hf:Jr P Stop){v0:cd}:∀{c:pA},Reach P Stop c->Js P v0 c->∃H,Stop H.fr H.cl H.v/\Js P v0 H:=by
 intro c hr;induction hr with
 | @here c h=>exactλg=>⟨c,h,g⟩
 | @next c M N ih=>
  intro g;obtain⟨O,es,e⟩:=M c.v.tape (λ_ _=>rfl);have Q:=N _ _ _ (λ_ _=>rfl) e;have u:=ih _ _ _ (λ_ _=>rfl) e;rw[H1]at e;obtain⟨R,S⟩:=g.mode;obtain⟨⟨fn,z⟩,A⟩:=g.calm;obtain⟨X,U,p⟩:=g.callers;have B:c.fr.catches P=false:=by unfold Frame.catches;rw[z]
  cases r:c.fr.defers with
  |nil=>
   simp only[stepG,unwind,G,S,r,B,U,iq,eo]at e;cases X with
   |nil=>
    exfalso;simp only[sM]at e;injection e with C k I;injection C with m n;obtain⟨D,E,V⟩:=O;simp only at k m n;subst k m n;cases Q with
    |here h=>exact(hf _ _ _ h).1 rfl
    |next k1 k2=>
     obtain⟨c2,aa,k⟩:=k1 c.v.tape (λ_ _=>rfl);obtain⟨o,w',ab,I⟩:=(show yD (G (floor.raise R) [])from⟨rfl,rfl,rfl,rfl,.inr ⟨_,rfl⟩⟩).ended (P:=P) true (cI c.v c.v.tape);have:=I.symm.trans k;cases this
   |cons x X=>
    simp only[qn]at e;injection e with C k I;injection C with m n;obtain⟨D,E,V⟩:=O;simp only at k m n;subst k m n;obtain⟨r1,r2,r3⟩:=Frame.Dm x R;refine u ⟨r3,?_,⟨X,rfl,λy hy=>p y (eI _ hy)⟩,g.kept,g.back,g.size⟩;have:=p x (eR ..);exact⟨by rw[r2];exact this.1,by rw[r1];exact this.2⟩
  |cons d W=>
   obtain⟨b,Y,F⟩:=A d (by rw[r];exact eR ..);obtain⟨ac,Z⟩:=d;simp only at Y;subst Y;simp only[stepG,unwind,G,S,r,mU]at e;rcases run_takeDeferred (P:=P) b c.v with⟨h,w,i⟩|⟨T,l,i⟩;rw[i]at e;simp only[GStep.after]at e;cases e
   ·rw[i]at e;simp only[GStep.after]at e;injection e with C k I;injection C with m n;obtain rfl:=F T l;obtain⟨D,E,V⟩:=O;simp only at k m n;subst k m n;have j:∀x,Calm P c.v x->Calm P {c.v with heap:=c.v.heap.setIfInBounds b (.deferred none)} x:=λx J=>⟨J.1,λd r=>by obtain⟨f,M,N⟩:=J.2 d r;refine⟨f,M,λW h=>?_⟩;by_cases a:b=f;subst a;have q:b<c.v.heap.size:=lt_of_heap l;simp[q]at h;rw[show({c.v with heap:=c.v.heap.setIfInBounds b (.deferred none)}:cd).heap[f]? =(c.v.heap.setIfInBounds b (.deferred none))[f]? from rfl,eY a]at h;exact N W h⟩;refine u ⟨⟨R,by first|exact S|rfl⟩,j _ ⟨⟨fn,z⟩,λd h=>A d (by rw[r];exact eI _ h)⟩,⟨X,U,λx J=>j x (p x J)⟩,λf K t L h=>?_,λf K t L h=>g.back f K t L ?_,by simpa using g.size⟩;rotate_left;have s:(c.v.heap.setIfInBounds b (.deferred none))[f]? =some (.cells K t L):=h;have q:b<c.v.heap.size:=lt_of_heap l;by_cases a:b=f;subst a;simp[q]at s;rwa[eY a]at s;have s:=g.kept f K t L h;have a:b≠f:=by rintro rfl;rw[l]at s;cases s
    show(c.v.heap.setIfInBounds b (.deferred none))[f]? =_;rw[eY a];exact s
def Oa(n:Jr P Stop){fr:Frame}{v:cd}(p:Reach P Stop ⟨fr,[floor],v⟩)(q:Inv P ⟨fr,[floor],v⟩)(r:¬Stop fr [floor] v)(s:fr.defers=[]) (t:(fr.mode=.returning/\fr.kind=.normal/\∃u,P.funcs[fr.fn]? =some u)\/∃w,fr.mode=.panicking w):False:=by
 cases p with
 |here h=>exact r h
 |next x y=>
  obtain⟨a,z,e⟩:=x v.tape (λ_ _=>rfl);have i:=y _ _ _ (λ_ _=>rfl) e;have b:stepG P true (G fr [floor]) v=.go (G a.fr a.cl) a.v z:=e;have l:a.cl=[]:=zU s t b;rcases q.step with⟨o,J,c,d⟩|⟨K,A,c,d,B⟩|⟨C,j,A,c,d,f⟩;rw[show stepG P true (G fr [floor]) v=_ from d]at b;cases b;rw[show stepG P true (G fr [floor]) v=_ from d]at b;injection b with k D E;cases i with
  |here h=>exact(n _ _ _ h).1 l
  |next F L=>
   obtain⟨M,H,m⟩:=F a.v.tape (λ_ _=>rfl);obtain⟨o,N,I,g⟩:=B.ended (P:=P) true (cI a.v a.v.tape);rw[k]at g;have:=g.symm.trans m;cases this
  rw[show stepG P true (G fr [floor]) v=_ from d]at b;injection b with k D E;injection k with m g;exact f.callers (by show j=[];rw[g];exact l)
def KT{b c a:Machine}(h:runN P m b=.next c)(e:Go.step P c=.next a):runN P (m+1) b=.next a:=by
 induction m generalizing b with
 |zero=>
  simp only[runN]at h;injection h with h;subst h;simp only[runN,e]
 |succ m f=>
  rw[runN]at h⊢;cases d:Go.step P b with
  |next g=>
   rw[d]at h;exact f h
  |ended o w=>rw[d]at h;cases h
def Qv{v:cd}(n:Good P R)(p:¬R.Def)(q:∀b i,R.r b i->∃o j,v.heap[b]? =some o/\(∃u:cd,u.heap[i]? =some j)/\GJ R (R.sh i) o j){x m:Frame}(h:dC P R x m):Calm P v x:=by
 obtain⟨s,c,k,_,_⟩:=n.fit.fn _ h.fnS.1;refine⟨⟨s,k⟩,?_⟩;have a:=h.defers;revert a;generalize x.defers=t;generalize m.defers=w;intro a;induction a with
 |nil=>intro d a;cases a
 |cons y z _ A=>
  intro d a;rcases eQ.1 a with rfl|a;obtain⟨b,g⟩:=z.resolve_left p;refine⟨b,g,λt f=>?_⟩;cases y with
  |collected B=>
   injection g with g;subst g;obtain⟨o,j,k,_,l⟩:=q _ _ B;rw[k]at f;injection f with f;subst f;rcases l with⟨_,l⟩|⟨_,_,_,_,_,_,_,e,_⟩;cases l;rfl;cases e
  |_=>cases g
  exact A d a
def Ob{v:cd}(f:Good P R)(g:¬R.Def)(i:∀b c,R.r b c->∃o e,v.heap[b]? =some o/\(∃u:cd,u.heap[c]? =some e)/\GJ R (R.sh c) o e){X j:List Frame}(h:gN P R X j):∀x∈X,Calm P v x:=by
 induction h with
 |nil=>intro x d;cases d
 |cons d _ k=>
  intro x a;rcases eQ.1 a with rfl|a;exact Qv f g i d;exact k x a
def Calm.grow{v e:cd}{x:Frame}(h:Calm P v x)(g:∀b,b<v.heap.size->e.heap[b]? =v.heap[b]?)(i:∀b c,v.heap.size<=b->e.heap[b]? =some (.deferred (some c))->False):Calm P e x:=
 ⟨h.1,λd j=>by obtain⟨b,k,l⟩:=h.2 d j;refine⟨b,k,λc a=>?_⟩;by_cases f:b<v.heap.size;exact l c (by rw[<-g b f];exact a);exact(i b c (Nat.le_of_not_lt f) a).elim⟩
end
end Go.cF
variable{w t e:cd}{x y z:ce}{A B C:Nat->Prop}{T U:cg}{W X:Array ce}{I J:Int}{O Q:Go.Obj}{K:cm}{P:cf}
namespace Go.Proofs.W
open Go.Conc Go.cF Go.cF.Cr Go.RowKit
def _root_.Go.cF.GJ.H2{m:Option Nat}{a:Nat×Nat}(h:GJ R m (.cells W T a) O)(b:T≠qO):m=none:=by rcases h with⟨h,_⟩|⟨_,_,_,_,_,_,_,e,_⟩;exact h;injection e with _ e;exact absurd e b
def iQ.carry{C:Type}{E D:cd->ce->C->Prop}{l:List C} (J:HR R t w)(K:∀b c,R.r b c->B c)(L:T≠qO) (M:∀F,VR R z F->F=z)(N:∀j f a,E t j a->VR R j f->D w f a) (h:iQ A E z T t x l)(G:VR R x y):iQ B D z T w y l:=by
 rcases h with⟨rfl,rfl⟩|⟨b,c,cs,fz,h1,rfl,O,P,Q,S,U⟩;cases G;exact .inl ⟨rfl,rfl⟩;cases G with
 |slice _ _ V=>
  cases V with
  | @mk b W o s H=>
   obtain⟨o,o',g,X,i⟩:=J.obj _ _ H;rw[O]at g;injection g with g;subst g;have I:=i.H2 L;replace i:=i.obj I;rw[I];cases i with
   | @cells _ m _ _ n e hf=>
    refine .inr ⟨W,c,m,n,K _ _ H,rfl,X,e.size▸P,Q,λk Y=>?_,λk Z k2=>?_⟩;obtain⟨j,d,he⟩:=S k Y;rcases e.get? k with⟨p,_⟩|⟨x1,f,q,u,v⟩;rw[p]at d;cases d;rw[q]at d;injection d with d;subst d;exact⟨f,u,N _ _ _ he v⟩;have d:=U k Z k2;rcases e.get? k with⟨p,_⟩|⟨x1,f,q,u,v⟩;rw[p]at d;cases d;rw[q]at d;injection d with d;subst d;rw[u,M _ v]
def VR.int_eq{k:IntKind}(h:VR R (.int k I) x):x=.int k I:=by cases h;rfl
def VR.xl(h:VR R (.slice none 0 0) x):x=.slice none 0 0:=by cases h;rfl
theorem BR:∀{l:List Int} {a:List ce},qo R (l.map (Value.int .i64)) a->a=l.map (Value.int .i64)
 |[],_,h=>by cases h;rfl
 |x::l,_,h=>by
  simp only[jP]at h;cases h with
  |cons h t=>rw[VR.int_eq h,BR t];rfl
theorem eV.carry{D:dR}(g:HR R t w)(i:∀b c,R.r b c->B c) (h:eV A m D t)(F:R.r m k):eV B k D w:=by
 obtain⟨S,T,U,V,G,H,I,J⟩:=h.at_;obtain⟨o,W,u,K,v⟩:=g.obj _ _ F;rw[H]at u;injection u with u;subst u;replace v:=v.obj (v.H2 (by decide));cases v with
 | @cells _ j _ _ y z X=>
  have l:=z.list;simp only[dg,qn,sM]at l;cases d:j.toList with
  |nil=>rw[d]at l;cases l
  |cons n Y=>
   rw[d]at l;cases l with
   |cons C L=>
    cases L with
    | @cons _ p _ _ M N=>
     cases N with
     | @cons _ q _ _ O P=>
      have:=BR P;subst this;refine⟨h.ok,i _ _ F,n,p,q,y,?_,?_,?_,?_⟩;rcases G with rfl|⟨a,rfl⟩;unfold undef at C;cases C with
      | @tuple _ s Q Z=>
       have:s=#[]:=Array.eq_empty_of_size_eq_zero (by simpa using Q.symm);rw[this];exact .inl rfl
      |CB hd a=>exact .inr ⟨a,rfl⟩
      cases C with
      |ptr ha=>exact .inr ⟨_,rfl⟩
      rw[K];have:j=dg n p q D.counts:=Cz (by rw[d];simp[dg]);rw[this];exact I.carry g i (by decide) (λ_ h=>VR.int_eq h) (λx E a (e:x=_) f=>by subst e;exact VR.int_eq f) M;exact J.carry g i (by decide) (λ_ h=>VR.xl h) (λx E a e f=>e.carry g i (by decide) (λ_ h=>VR.xl h) (λx E a e f=>e.carry g i (by decide) (λ_ h=>VR.int_eq h) (λx E a (e:x=_) f=>by subst e;exact VR.int_eq f) f) f) O
theorem iQ.cells{f:Type}{N:Nat->Prop}{E:cd->ce->f->Prop}{z:ce}{t:cg}{w e:cd}{v:ce}{l:List f}(i:∀b a t d,N b->w.heap[b]? =some (.cells a t d)->e.heap[b]? =some (.cells a t d))(j:∀u x,E w u x->E e u x)(h:iQ N E z t w v l):iQ N E z t e v l:=by rcases h with h|⟨b,c,a,d,g,m,n,o,p,q,r⟩;exact .inl h;refine .inr ⟨b,c,a,d,g,m,i _ _ _ _ g n,o,p,λk s=>?_,r⟩;obtain⟨u,y,A⟩:=q k s;exact⟨u,y,j _ _ A⟩
theorem eV.cells{N:Nat->Prop}{d:Nat}{D:dR}{w e:cd}(a:∀b f t c,N b->w.heap[b]? =some (.cells f t c)->e.heap[b]? =some (.cells f t c))(h:eV N d D w):eV N d D e:=by obtain⟨g,i,j,c,k,l,m,n⟩:=h.at_;exact⟨h.ok,h.lt,g,i,j,c,k,a _ _ _ _ h.lt l,m.cells a λ_ _ h=>h,n.cells a λ_ _ h=>h.cells a λ_ _ h=>h.cells a λ_ _ h=>h⟩
def iL:List PanicEntry:=[{v:=.iface 3 (.int .i64 7),recovered:=false}]
noncomputable def fR(a:Array ce):Act:=(⟨a++Array.replicate (9-a.size) undef,[]⟩:Act).put (some 9) (.bool true)
noncomputable def mw(a:Array ce):Array ce:=#[(fR a).eval (.tmp 0),(fR a).eval (.tmp 1),(fR a).eval (.tmp 2),(fR a).eval (.tmp 3),(fR a).eval (.tmp 4),(fR a).eval (.tmp 5),(fR a).eval (.tmp 6),(fR a).eval (.tmp 7),(fR a).eval (.tmp 8),(fR a).eval (.tmp 9)]
def rN(v:ce):Array ce:=#[v,undef,undef,undef,undef,undef,undef,undef,undef,undef]
def rO(a:Array ce):Obj:=.cells #[.func (.func 227) #[] a] 200
def R2(v:cd):Prop:=∃a n D N,v.heap[n]? =some (rO (rN (.pointer (some ⟨a,0,none⟩))))/\v.heap.size=n+1/\eV N a D v/\∀b,N b->b<n
theorem eV.cI{D:dR}(T:Ta)(h:eV A m D t):eV A m D (Go.cF.cI t T):=eV.same (w:=t) (w':=Go.cF.cI t T) (λ_ _=>rfl) h
theorem R2.cI(T:Ta)(h:R2 t):R2 (cI t T):=by obtain⟨a,n,D,N,b,c,d,e⟩:=h;exact⟨a,n,D,N,b,c,eV.same (w:=t) (w':=Go.cF.cI t T) (λ_ _=>rfl) d,e⟩
def uU(a:Array ce)(i:Nat):(fR a).eval (.tmp i)=((a++Array.replicate (9-a.size) undef).setIfInBounds 9 (.bool true)).getD i undef:=rfl
def Jt(a:Array ce)(i:Nat):a.getD i undef=(a[i]?).getD undef:=by simp[yq]
def H3(k:x≠undef)(h:mw W=rN x):W.size<=9/\0<W.size/\W[0]? =some x/\∀i,1<=i->i<W.size->W[i]? =some undef:=by
 have b:∀(i:Nat),i<10->(fR W).eval (.tmp i)=if i=0 then x else undef:=by
  intro i g;have e:(mw W)[i]? =(rN x)[i]? :=by rw[h]
  have:i=0\/i=1\/i=2\/i=3\/i=4\/i=5\/i=6\/i=7\/i=8\/i=9:=by omega
  rcases this with rfl|rfl|rfl|rfl|rfl|rfl|rfl|rfl|rfl|rfl<;>(simp only[mw,rN,IB,Be,L8,fI]at e;rw[e];rfl)
 have l:W.size<=9:=by refine Nat.le_of_not_lt λm=>?_;have:=b 9 (by omega);rw[uU,Jt,jE (by simp;omega)]at this;simp[undef]at this
 have n:(W++Array.replicate (9-W.size) undef).size=9:=by simp;omega
 have c:∀(i:Nat),i<9->(fR W).eval (.tmp i)=((W++Array.replicate (9-W.size) undef)[i]?).getD undef:=λi g=>by rw[uU,Jt,eY (show 9≠i by omega)]
 have d:∀(i:Nat),i<W.size->(fR W).eval (.tmp i)=(W[i]?).getD undef:=λi g=>by rw[c i (by omega),vG g]
 have a:0<W.size:=by refine Nat.pos_of_ne_zero λo=>k ?_;have f:=b 0 (by omega);rw[c 0 (by omega),yr (show W.size<=0 by omega)]at f;simp[o]at f;exact f.symm
 refine⟨l,a,?_,λi f j=>?_⟩;have e:=d 0 a;rw[b 0 (by omega),ji a]at e;rw[ji a];simp at e;rw[e];have e:=d i j;rw[b i (by omega),ji j,cr (by omega)]at e;rw[ji j];simp at e;rw[e]
def zW{a:Func}(c:P.funcs[K]? =some a)(g:9<=a.ntmps)(j:W.size<=9)(l:0<W.size)(d:W[0]? =some x)(f:∀i,1<=i->i<W.size->W[i]? =some undef)(k:CallKind):Frame.enter P K W k=Frame.enter P K #[x] k:=by
 have e:W++Array.replicate (a.ntmps-W.size) undef=#[x]++Array.replicate (a.ntmps-(#[x]:Array ce).size) undef:=by
  refine L1 λi=>?_;by_cases b:i<W.size;rw[vG b];cases i with
  |zero=>rw[d,vG (by simp)];rfl
  |succ i=>
   rw[f _ (by omega) b,yr (by simp)];rw[ue,cx (by simp;omega)]
  rw[yr (by omega),yr (by simp;omega),ue,ue];by_cases h:i-W.size<a.ntmps-W.size;rw[cx h,cx (by simp;omega)];rw[cr h,cr (by simp;omega)]
 simp only[Frame.enter,c,iX,kC];rw[e]
end Go.Proofs.W
namespace Go.Proofs.W
open Go.Conc Go.cF Go.cF.Cr Go.RowKit
open Go.ConcR (KK wgBlock WgAt stA smA mk DC0)
abbrev qv:List Nat:=[190,215,216,227,228,229,164,194,128]
def oK(f:Nat):Bool:=f==190
def Qw:qv.all (okF qv true oK)=true:=by kernel_rfl
def BS(N:Nat->Prop)(w:cd)(b:Nat):Prop:=N b/\∃a c,w.heap[b]? =some (.cells a 3 c)/\∀(i:Nat) u,a[i]? =some u->∃n,u=.int .i64 n
def BT(N:Nat->Prop)(w:cd)(t:cg)(Q:Nat->Prop)(b:Nat):Prop:=N b/\∃a e,w.heap[b]? =some (.cells a t e)/\∀(i:Nat) u,a[i]? =some u->u=.slice none 0 0\/∃d l c,u=.slice (some ⟨d,0,none⟩) l c/\Q d
def nG(N:Nat->Prop)(w:cd)(pb b:Nat):Prop:=BS N w b\/BT N w 27 (BS N w) b\/BT N w 66 (BT N w 27 (BS N w)) b\/b=pb
def iQ.yo{g:Type}{N:Nat->Prop}{E:cd->ce->g->Prop}{w:cd}{l:List g}(h:iQ N E z U w x l):x=.slice none 0 0\/∃b c d e,N b/\x=.slice (some ⟨b,0,none⟩) l.length c/\w.heap[b]? =some (.cells d U e)/\∀(i:Nat) u,d[i]? =some u->u=z\/∃j,E w u j:=by rcases h with⟨_,h⟩|⟨b,c,d,e,k,m,n,s,t,o,p⟩;exact .inl h;refine .inr ⟨b,c,d,e,k,m,n,λi u f=>?_⟩;have v:i<d.size:=(eP.1 f).1;by_cases q:i<l.length;obtain⟨y,a,r⟩:=o i q;rw[f]at a;injection a with a;subst a;exact .inr ⟨_,r⟩;have:=p i (by omega) (by omega);rw[f]at this;injection this with this;exact .inl this
def zX{N:Nat->Prop}{w:cd}{l:List Nat}(h:vT N w x l):x=.slice none 0 0\/∃b l c,x=.slice (some ⟨b,0,none⟩) l c/\BS N w b:=by rcases h.yo with h|⟨b,c,a,d,e,f,g,j⟩;exact .inl h;refine .inr ⟨b,_,c,f,e,a,d,g,λi u k=>?_⟩;rcases j i u k with rfl|⟨m,n⟩;exact⟨0,rfl⟩;exact⟨m,n⟩
def F5{N:Nat->Prop}{w:cd}{l:List (List Nat)}(h:zb N w x l):x=.slice none 0 0\/∃b l c,x=.slice (some ⟨b,0,none⟩) l c/\BT N w 27 (BS N w) b:=by rcases h.yo with h|⟨b,c,a,d,e,f,g,j⟩;exact .inl h;refine .inr ⟨b,_,c,f,e,a,d,g,λi u k=>?_⟩;rcases j i u k with rfl|⟨n,m⟩;exact .inl rfl;exact zX m
def KU{N:Nat->Prop}{w:cd}{l:List (List (List Nat))}(h:uC N w x l):x=.slice none 0 0\/∃b l c,x=.slice (some ⟨b,0,none⟩) l c/\BT N w 66 (BT N w 27 (BS N w)) b:=by rcases h.yo with h|⟨b,c,a,d,e,f,g,j⟩;exact .inl h;refine .inr ⟨b,_,c,f,e,a,d,g,λi u k=>?_⟩;rcases j i u k with rfl|⟨n,m⟩;exact .inl rfl;exact F5 m
def ww(T pb b:Nat)(o:Obj):Obj:=if b=T then o else match o with
 | .cells a t c=>.cells (if b=pb then a.setIfInBounds 0 undef else a) t (0,max a.size c.2)
 |o=>o
def tX(T pb:Nat)(w:cd):cd:={w with heap:=w.heap.mapIdx (ww T pb)}
def H4{T pb:Nat}{w:cd}(b:Nat):(tX T pb w).heap[b]? =(w.heap[b]?).map (ww T pb b):=by show(w.heap.mapIdx (ww T pb))[b]? =_;rw[Array.getElem?_mapIdx]
def R3{T pb:Nat}{w:cd}:(tX T pb w).heap[T]? =w.heap[T]? :=by
 rw[H4];cases w.heap[T]? with
 |none=>rfl
 |some o=>simp[ww]
def po{T pb:Nat}{w:cd}{b:Nat}{a:Nat×Nat}(c:b≠T)(d:b≠pb)(h:w.heap[b]? =some (.cells W U a)):(tX T pb w).heap[b]? =some (.cells W U (0,max W.size a.2)):=by rw[H4,h];simp[ww,c,d]
def H5{T pb:Nat}{w:cd}{a:Nat×Nat}(b:pb≠T)(h:w.heap[pb]? =some (.cells W U a)):(tX T pb w).heap[pb]? =some (.cells (W.setIfInBounds 0 undef) U (0,max W.size a.2)):=by rw[H4,h];simp[ww,b]
def iQ.WX{p:Type}{N q:Nat->Prop}{E r:cd->ce->p->Prop}{w w':cd}{l:List p}(t:∀u g,E w u g->r w' u g)(h:iQ N E z U w x l) (v:∀b d m,N b->w.heap[b]? =some (.cells d U m)->(∀(i:Nat) u,d[i]? =some u->u=z\/∃g,E w u g)->q b/\∃f,w'.heap[b]? =some (.cells d U f)):iQ q r z U w' x l:=by have j:=h.yo;rcases h with h|⟨b,c,d,m,y,n,s,A,B,C,D⟩;exact .inl h;rcases j with j|⟨M,O,F,f,P,a,e,G⟩;rw[n]at j;cases j;rw[n]at a;injection a with a;injection a with a;injection a with a;subst a;rw[s]at e;injection e with e;injection e with e;subst e;obtain⟨H,o,I⟩:=v b d m y s G;refine .inr ⟨b,c,d,o,H,n,I,A,B,λk J=>?_,D⟩;obtain⟨u,K,L⟩:=C k J;exact⟨u,K,t _ _ L⟩
section
variable{N:Nat->Prop}{w:cd}{pb T:Nat}{D:dR}
def zY(i:eV N pb D w){b:Nat}(h:nG N w pb b):N b/\∃a t c,w.heap[b]? =some (.cells a t c)/\(t=3\/t=27\/t=66\/t=207)/\(b=pb↔t=207):=by
 obtain⟨m,n,o,k,p,j,q,r⟩:=i.at_;have d:∀{b t a c},w.heap[b]? =some (.cells a t c)->t≠207->b≠pb:=by intro b t a c f l e;rw[e,j]at f;injection f with f;injection f with _ f _;exact l f.symm
 rcases h with⟨g,a,c,h,_⟩|⟨g,a,c,h,_⟩|⟨g,a,c,h,_⟩|rfl;exact⟨g,a,3,c,h,.inl rfl,λe=>absurd e (d h (by decide)),λe=>by cases e⟩;exact⟨g,a,27,c,h,.inr (.inl rfl),λe=>absurd e (d h (by decide)),λe=>by cases e⟩;exact⟨g,a,66,c,h,.inr (.inr (.inl rfl)),λe=>absurd e (d h (by decide)),λe=>by cases e⟩;exact⟨i.lt,_,_,_,j,.inr (.inr (.inr rfl)),λ_=>rfl,λ_=>rfl⟩
def Oc(q:eV N pb D w)(o:∀b,nG N w pb b->b≠T):eV (nG N w pb) pb D (tX T pb w):=by
 obtain⟨y,r,s,f,C,v,z,A⟩:=q.at_;have j:∀{b t g f},w.heap[b]? =some (.cells g t f)->t≠207->b≠pb:=by intro b t g f c B e;rw[e,v]at c;injection c with c;injection c with _ c _;exact B c.symm
 have FI:∀u l,vT N w u l->vT (nG N w pb) (tX T pb w) u l:=λu l h=>iQ.WX (w:=w) (w':=tX T pb w) (λ_ _ h=>h) h λb g f m d n=>by have a:nG N w pb b:=.inl ⟨m,g,f,d,λi u a=>(n i u a).elim (λe=>⟨0,e⟩) λ⟨x,c⟩=>⟨x,c⟩⟩;exact⟨a,_,po (o b a) (j d (by decide)) d⟩
 have rows:∀u l,zb N w u l->zb (nG N w pb) (tX T pb w) u l:=λu l h=>iQ.WX (w:=w) (w':=tX T pb w) FI h λb g f m d n=>by have a:nG N w pb b:=.inr (.inl ⟨m,g,f,d,λi u a=>(n i u a).elim .inl λ⟨x,c⟩=>zX c⟩);exact⟨a,_,po (o b a) (j d (by decide)) d⟩
 have k:∀u l,uC N w u l->uC (nG N w pb) (tX T pb w) u l:=λu l h=>iQ.WX (w:=w) (w':=tX T pb w) rows h λb g f m d n=>by have a:nG N w pb b:=.inr (.inr (.inl ⟨m,g,f,d,λi u a=>(n i u a).elim .inl λ⟨x,c⟩=>F5 c⟩));exact⟨a,_,po (o b a) (j d (by decide)) d⟩
 refine⟨q.ok,.inr (.inr (.inr rfl)),undef,r,s,(0,max (dg y r s D.counts).size f.2),.inl rfl,?_,FI _ _ z,k _ _ A⟩;have p:pb≠T:=o pb (.inr (.inr (.inr rfl)));rw[H5 p v];rfl
def KV{A rd:Nat->Prop}(V:eV N pb D w)(B:∀b,nG N w pb b->b≠T)(M:∀b,N b->rd b)(C:A T)(W:w.heap[T]? =some (.cells (jp ⟨pb,0,none⟩) 245)):
 vM (o8 qv oK (λb=>nG N w pb b\/b=T)) (tX T pb w) w A rd:=by
 obtain⟨O,J,K,q,Y,r,E,Z⟩:=V.at_;have F:pb≠T:=B pb (.inr (.inr (.inr rfl)));have m:∀u,(u=.slice none 0 0\/∃d l c,u=.slice (some ⟨d,0,none⟩) l c/\nG N w pb d)->VR (o8 qv oK (λb=>nG N w pb b\/b=T)) u u:=by rintro u (rfl|⟨d,l,c,rfl,f⟩);exact .fc _ _;exact .slice _ _ (.mk _ _ ⟨rfl,.inl f⟩)
 have P:∀{b t k q},w.heap[b]? =some (.cells k t q)->t≠207->b≠pb:=by intro b t k q z Q e;rw[e,r]at z;injection z with z;injection z with _ z _;exact Q z.symm
 have g:∀{b t k q},w.heap[b]? =some (.cells k t q)->b≠T->t≠207->(∀(i:Nat) u,k[i]? =some u->VR (o8 qv oK (λb=>nG N w pb b\/b=T)) u u)->
  ∃o X,(tX T pb w).heap[b]? =some o/\w.heap[b]? =some X/\jJ (o8 qv oK (λb=>nG N w pb b\/b=T)) o X:=λ{b t k q} h f Q hc=>
  ⟨_,_,po f (P h Q) h,h,.cells ⟨rfl,λi v v' j p=>by rw[j]at p;cases p;exact hc i v j⟩ λs y=>⟨fN _,dl y.2 (Nat.le_max_right _ _)⟩⟩
 refine⟨HR.of (λ_=>rfl) λb c' R=>?_,λb c' R=>?_⟩;obtain⟨rfl,f|rfl⟩:=R;rcases id f with⟨L,k,G,j,p⟩|⟨L,k,G,j,p⟩|⟨L,k,G,j,p⟩|rfl;exact g j (B b f) (by decide) λi u H=>by obtain⟨n,rfl⟩:=p i u H;exact .int _ _
 exact g j (B b f) (by decide) λi u H=>m u ((p i u H).imp id λ⟨d,l,c,r,E⟩=>⟨d,l,c,r,.inl E⟩);exact g j (B b f) (by decide) λi u H=>m u ((p i u H).imp id λ⟨d,l,c,r,E⟩=>⟨d,l,c,r,.inr (.inl E)⟩);refine⟨_,_,H5 F r,r,.cells (eT.mh ?_) λs y=>⟨fN _,dl y.2 (Nat.le_max_right _ _)⟩⟩;have e:((dg O J K D.counts).setIfInBounds 0 undef).toList=undef::J::K::D.counts.map (Value.int .i64):=by simp[dg]
 have e':(dg O J K D.counts).toList=O::J::K::D.counts.map (Value.int .i64):=by simp[dg]
 rw[e,e'];refine .cons ?_ (.cons (m _ ((zX E).imp id λ⟨d,l,c,S,U⟩=>⟨d,l,c,S,.inl U⟩)) (.cons (m _ ((KU Z).imp id λ⟨d,l,c,S,U⟩=>⟨d,l,c,S,.inr (.inr (.inl U))⟩)) ?_));rcases Y with rfl|⟨a,rfl⟩;exact .undef;exact .CB rfl a;generalize D.counts=l;induction l with
 |nil=>exact .nil
 |cons x l ih=>exact .cons (.int _ _) ih
 refine⟨_,_,R3.trans W,W,.cells (eT.mh ?_) λ_ h=>h⟩;have hp:VR (o8 qv oK (λx=>nG N w pb x\/x=b)) (.pointer (some ⟨pb,0,none⟩)) (.pointer (some ⟨pb,0,none⟩)):=.ptr (.mk _ _ ⟨rfl,.inl (.inr (.inr (.inr rfl)))⟩);exact .cons hp (.cons (.fc _ _) (.cons (.int _ _) (.cons (.int _ _) (.cons (.int _ _) (.cons (.int _ _) (.cons (.int _ _) (.cons (.int _ _) (.cons (.fc _ _) (.cons (.int _ _) (.cons (.int _ _) (.cons (.bool _) .nil)))))))))));obtain⟨rfl,f|rfl⟩:=R;obtain⟨L,k,t,q,j,_,_⟩:=zY V f;refine .inr ⟨M b L,?_⟩;by_cases I:b=pb;subst I;exact⟨_,_,_,H5 F j,λs y=>⟨fN _,dl (by simpa using y) (Nat.le_max_left _ _)⟩⟩;exact⟨_,_,_,po (B b f) I j,λs y=>⟨fN _,dl y (Nat.le_max_left _ _)⟩⟩;exact .inl C
end
def R4(pb T:Nat)(s:Sp)(_:ce)(a:cd):Prop:=∃b c d L y,a.heap[T]? =some (dY pb b c d L y)/\cU (λ_=>True) a s y
def KX(pb:Nat):(Obj.cells (jp ⟨pb,0,none⟩) 245)=dY pb none 0 0 L0 P6:=rfl
def BU:∀d,rm 0 d=0:=λd=>by simp[rm]
def Qx(HP:Fi)(N:Nat->Prop)(pb:Nat)(D:dR)(w0:cd)(ao:eV N pb D w0)(hN:∀b,N b->b<w0.heap.size)(h0:0<D.opn.length):HZ w0 N pb (dz D 0).length (Fc D):=by
 intro rd Wg i hi ap own w T c cs hq af hz;have hP:eV N pb D w:=ao.same hq;have aq:∀b,N b->b<w.heap.size:=λb B=>by have f:=hq b B;rw[ji (hN b B)]at f;exact lt_of_heap f
 have hT:∀b,nG N w pb b->b≠T:=by rintro b B rfl;obtain⟨_,Y,t,fz,f,p,_⟩:=zY hP B;rw[hz]at f;injection f with f;injection f with _ f _;rcases p with p|p|p|p<;>rw[p]at f<;>cases f
 have aJ:=lt_of_heap hz;have ag:own T:=(af T).2 rfl;have z:=KV (rd:=rd) hP hT ap ag hz;have hG:Go.cF.Good V.prog (o8 qv oK (λb=>nG N w pb b\/b=T)):=Bw Qw (by decide)
 have ah:eT (o8 qv oK (λb=>nG N w pb b\/b=T)) #[.pointer (some ⟨T,0,none⟩),.int .i64 i] #[.pointer (some ⟨T,0,none⟩),.int .i64 i]:=
  eT.L9 (.ptr (.mk _ _ ⟨rfl,.inr rfl⟩)) (.int _ _)
 have hS:(o8 qv oK (λb=>nG N w pb b\/b=T)).S 190=true:=by show qv.contains 190=true;decide
 have ar:(tX T pb w).heap.size=w.heap.size:=by simp[tX]
 have au:=Oc (T:=T) hP hT;have C:Go.cF.Reach V.prog (Go.cF.Left V.prog 190 (R4 pb T (Fc D i))) ⟨Frame.enter V.prog 190 #[.pointer (some ⟨T,0,none⟩),.int .i64 i] .normal,[floor],tX T pb w⟩:=by
  refine qT (λx w' Tp ⟨pa,pl,pc,L,y,f,p⟩=>⟨pa,pl,pc,L,y,f,p.same λ_ _=>rfl⟩) (qY hG (λ_=>rfl) hS ah z) λTp aK=>?_;have av:gT (nG N w pb) pb T D 0 0 (cI (tX T pb w) Tp) [] none 0 L0 P6 none:=by refine⟨⟨au.cI _,λb B=>⟨?_,hT b B,by simp⟩,?_,.inl ⟨rfl,rfl,rfl⟩,λs _=>by simp[L0],λs _ j _ _=>BU _,fN _,λ_=>rfl⟩,rfl,(λl m k h=>by cases h),fN _,fN _⟩;show b<(tX T pb w).heap.size;rw[ar];exact aq b (zY hP B).1;show(tX T pb w).heap[T]? =_;rw[R3,hz];rfl
  refine(HP (nG N w pb) pb T D 0 0 (cI (tX T pb w) Tp) [] none 0 L0 P6 none i av h0 hi).mono ?_;rintro e w' ⟨rfl,aw,ax,L',y',hg,_,_,_⟩;exact⟨_,rfl,aw,_,ax,L',y',hg.t.at_,hg.sched.mono λ_ _=>trivial⟩
 have A:=IR (U:=λx=>x=undef) (λts Q w x u h=>by
  have:(results Tryz.f190 ts)=Pure.pure undef:=by simp[results,Tryz.results190,undef]
  rw[this]at h;simp only[Sem.run_pure]at h;injection h with h;exact h.symm) (ty:=241) (Wg:=Wg) (main:=false) (caller:=c) (cs:=cs) (own:=own) (rd:=rd) hG (λ_=>rfl) hS V.func190 (R:=R4 pb T (Fc D i)) (λx w' Tp ⟨pa,pl,pc,L,y,f,p⟩=>⟨pa,pl,pc,L,y,f,p.same λ_ _=>rfl⟩) ah C z
 have e:V.prog.ir (o8 qv oK (λb=>nG N w pb b\/b=T)).fs=PR:=PZ;rw[e]at A;refine(Wy.Ru A).bind λo' g w' h=>nX λw1 hr=>?_;obtain⟨⟨ρ,x,x',v,rfl,⟨pa,pl,pc,L,y,B,hs⟩,hv,ai,ay,rfl⟩,az⟩:=h;have H:o' T:=az T ag;have aA:ρ.r T T:=ai.r _ _ ⟨rfl,.inr rfl⟩;have aj:∀Z,dG o' rd (Lv 241 Wg) w' Z->∃I J K M O P W X a l cc m n s fz,Z.heap[T]? =some (.cells #[I,J,K,M,O,P,W,X,.slice a l cc,.int .i64 m,.int .i64 n,.bool s] 245 fz)/\Tt (Fc D) i o' Z (.agg #[.slice a l cc,.int .i64 m,.int .i64 n,.bool s]):=by
  intro Z E;have aa:=ay.rely E;obtain⟨ob,aB,q,k2,k3⟩:=aa.heap.obj T T aA;have ab:∀c,ρ.sh c=none:=λc=>by rw[<-ai.g];rfl
  replace k3:=k3.obj (ab _);rw[B]at q;injection q with q;subst q;unfold dY at k3;cases k3 with
  | @cells _ Y _ _ F kv kf=>
   have d:=kv.list;simp only at d;cases ac:Y.toList with
   |nil=>rw[ac]at d;cases d
   |cons I l0=>
   rw[ac]at d;cases d with|cons _ d=>cases d with| @cons _ J _ _ _ d=>cases d with| @cons _ K _ _ _ d=>cases d with| @cons _ M _ _ _ d=>cases d with| @cons _ O _ _ _ d=>cases d with| @cons _ P _ _ _ d=>
   cases d with| @cons _ W _ _ _ d=>cases d with| @cons _ X _ _ _ d=>cases d with| @cons _ p8 _ _ g8 d=>cases d with| @cons _ p9 _ _ g9 d=>cases d with| @cons _ aC _ _ aD d=>cases d with| @cons _ aE _ _ aF d=>cases d with
   |nil=>
   have G:Y=#[I,J,K,M,O,P,W,X,p8,p9,aC,aE]:=Cz ac;cases g9;cases aD;cases aF;generalize ad:Fc D i=sp at hs⊢;cases sp with
   |none=>
    have:y=P6:=hs;subst this;cases g8;exact⟨I,J,K,M,O,P,W,X,none,0,0,0,0,false,F,by rw[k2,G];rfl,λ_=>False,λx h=>h.elim,P6,rfl,by rw[ad];rfl⟩
   |some sp=>
    obtain⟨ls,mm,kk⟩:=sp;obtain⟨q1,q2,q3,q4,⟨q5,q6,q7⟩|⟨q5,aG,q6,q7,q8,aH,fz,q9,ak⟩⟩:=hs;rw[q6]at g8;cases g8;exact⟨I,J,K,M,O,P,W,X,none,_,_,_,_,_,F,by rw[k2,G],λ_=>False,λx h=>h.elim,⟨none,y.sl,y.sc,y.m,y.k,y.b⟩,rfl,by rw[ad];exact⟨q1,q2,q3,q4,.inl ⟨q5,rfl,q7⟩⟩⟩;rw[q7]at g8;cases g8 with
    |slice _ _ ha=>
     cases ha with
     | @mk _ o _ _ al=>
      obtain⟨ob,aB,j1,j2,j3⟩:=aa.heap.obj aG o al;replace j3:=j3.obj (ab _);rw[ab o,Option.getD_none,mT]at G;rw[ak]at j1;injection j1 with j1;subst j1;cases j3 with
      | @cells _ aL _ _ aI jv jf=>
       have:=Jp (λi v h=>so h) jv;subst this;have am:o' o:=by rcases aa.zone _ _ al with h|⟨_,aM,t3,aN,f,p⟩;exact h;exfalso;rw[ak]at f;injection f with f;injection f with f h3 h4;subst f h4;refine q9 0 (p 0 ?_);have:0<ls.length:=List.length_pos_iff.2 q5;simp[fE];omega
       exact⟨I,J,K,M,O,P,W,X,_,_,_,_,_,_,F,by rw[k2,G],λx=>x=o,λx h=>by rw[h];exact⟨am,lt_of_heap j2⟩,⟨some ⟨o,0,none⟩,y.sl,y.sc,y.m,y.k,y.b⟩,rfl,by rw[ad];exact⟨q1,q2,q3,q4,.inr ⟨q5,o,rfl,rfl,q8,aH,aI,λan h=>q9 an (jf an h),j2⟩⟩⟩
 obtain⟨I,J,K,M,O,P,W,X,a,l,cc,m,n,s,fz,g1,g2⟩:=aj w1 hr;refine⟨rfl,H,I,J,K,M,O,P,W,X,a,l,cc,m,n,s,fz,g1,λZ E=>?_⟩;obtain⟨q0,q1,q2,q3,q4,q5,q6,q7,a',l',aO,m',n',s',F,q,k2⟩:=aj Z (hr.trans E);have ae:Z.heap[T]? =w1.heap[T]? :=E.heap T (lt_of_heap g1) (.inl H);rw[ae,g1]at q;injection q with q;injection q with q;simp only[Bd,qm]at q;obtain⟨_,_,_,_,_,_,_,_,r1,r2,r3,r4,_⟩:=q;rw[<-r1,<-r2,<-r3,<-r4]at k2;exact k2
end Go.Proofs.W
variable{F:Go.Frame}
namespace Go.Proofs.W
open Go.Conc Go.cF Go.cF.Cr Go.RowKit
def zZ(D:dR)(w:cd)(e:Ending)(a:cd):Prop:=
 ∃y:SV,e=.returned y.val/\cU (λb=>w.heap.size<=b) a (gm D) y/\wV w.drawn a (gm D) y/\(∀b,b<w.heap.size->a.heap[b]? =w.heap[b]?)/\a.tape=w.tape
structure BV:Prop where
 probe:∀xs w,w.tape w.drawn (.order 163 1)=1->Calls V.prog 163 xs w λe w'=>e=.panicked iL/\w'=w.drew.alloc (rO (mw xs))
 goes:∀N pb D w,eV N pb D w->(∀b,N b->b<w.heap.size)->w.tape w.drawn (.order 163 1)=0->Calls V.prog 163 #[.pointer (some ⟨pb,0,none⟩)] w (zZ D w)
 pick:∀N pb D w,eV N pb D w->(∀b,N b->b<w.heap.size)->0<D.opn.length->HZ w N pb (dz D 0).length (Fc D)
def sZ(f:cm)(R:ce->cd->Prop)(a:Frame)(b:List Frame)(v:cd):Prop:=
 Go.cF.Left V.prog f R a b v\/(b=[floor]/\a.fn=f/\a.mode=.panicking iL/\a.defers=[]/\R2 v)
def xm(f:cm)(R:ce->cd->Prop):Jr V.prog (sZ f R):=by rintro k l v (⟨rfl,_,x,_,a,b,c,d,e,_⟩|⟨rfl,_,a,b,_⟩);exact⟨by simp,λT g i j h=>zU b (.inl ⟨a,c,d,e⟩) h⟩;exact⟨by simp,λT g i j h=>zU b (.inr ⟨_,a⟩) h⟩
def sZ.callers{R:ce->cd->Prop}(b:Frame)(a:List Frame)(v:cd)(h:sZ K R b a v):a≠[]:=(xm K R b a v h).1
theorem sZ.fn{R:ce->cd->Prop}{a:List Frame}(h:sZ K R F a w):F.fn=K:=by rcases h with h|h;exact h.2.1;exact h.2.1
def KY{ρ:cR}{s:Sp}{y f:SV}(h:cU A t s y)(k:cU B w s f)(M:∀l m n,s=some (l,m,n)->l≠[]->y.sc=f.sc) (N:∀b,A b->∀c,¬ρ.r b c)(O:∀c,B c->∀b,¬ρ.r b c)(g:∀c,B c->ρ.sh c=none):∃a:cR,cR.Le ρ a/\VR a y.val f.val/\∀b c,a.r b c->ρ.r b c\/(A b/\B c/\a.sh c=none/\∃x z,t.heap[b]? =some x/\w.heap[c]? =some z/\jJ a x z):=by
 cases s with
 |none=>
  have e:y=⟨none,0,0,0,0,false⟩:=h;have P:f=⟨none,0,0,0,0,false⟩:=k;subst e P;exact⟨ρ,.refl _,(eT.mh (.cons (.fc _ _) (.cons (.int _ _) (.cons (.int _ _) (.cons (.bool _) .nil))))).agg,λb c h=>.inl h⟩
 |some s=>
  obtain⟨l,m,n⟩:=s;have j:=M l m n rfl;obtain⟨ya,yl,yc,ym,yk,yb⟩:=y;obtain⟨Q,R,S,T,U,V⟩:=f;obtain⟨C,D,E,F,G⟩:=h;obtain⟨H,I,J,K,p⟩:=k;simp only at C D E F G H I J K p j;subst C D E F H I J K;rcases G with⟨rfl,rfl,rfl⟩|⟨o,b,L,rfl,h6,h7,fz,h8,W⟩;rcases p with⟨_,rfl,rfl⟩|⟨o,_⟩;exact⟨ρ,.refl _,(eT.mh (.cons (.fc _ _) (.cons (.int _ _) (.cons (.int _ _) (.cons (.bool _) .nil))))).agg,λb c h=>.inl h⟩;exact absurd rfl o;rcases p with⟨q,_⟩|⟨_,c,d,rfl,k6,k7,X,Y,Z⟩;exact absurd q o;obtain rfl:=j o;refine⟨ρ.ext b c (N b L) (O c d),ρ.tk _ _ _ _,(eT.mh (.cons (.slice _ _ (.of _ _ (ρ.rW _ _ _ _) (g c d))) (.cons (.int _ _) (.cons (.int _ _) (.cons (.bool _) .nil))))).agg,λb' c' u=>?_⟩;rcases u with u|⟨rfl,rfl⟩;exact .inl u;exact .inr ⟨L,d,g _ d,_,_,W,Z,.cells (N5 λi t h=>so h) λv ho=>absurd ho (Y v)⟩
def Tu{y:SV}{s:Sp}{T:Nat->Question->Nat}(h:wV m w s y)(c:w.tape=T){K:Nat}(d:∀j n x t,m<=j->T j (.appendCap n x t)=K-n)(a:List Int)(b n:Int)(f:s=some (a,b,n))(g:a≠[])(k:a.length<=K)(l:K<2^63):y.sc=K:=by obtain⟨j,i,e⟩:=h a b n f g;rw[e,c,d j _ _ _ i];simp only[Question.cut];rw[Nat.mod_eq_of_lt (by omega)];omega
def Qy(BF:BV){f:cm}{R:ce->cd->Prop}(hf:f≠163)(w0:cd):Mn V.prog PR.funcs w0 (sZ f R):=by
 intro ρ X c gs a w sl t q g xs au k P hS hh hx aI aJ;have hg:g=163:=L5 λaW=>k.holes.1 g hh (V.xY g aW);subst hg;have hD:¬ρ.Def:=λh=>by have:=k.good.dh h 163;rw[hh]at this;cases this
 have E:=xm f R;obtain⟨X1,bn,e1,e2,hX⟩:=k.gor.callers;have ai:c.cl=X1++[floor]:=e1;have aX:c.cl≠[]:=by rw[ai];simp
 have ev:(V.prog.ir PR.funcs)=PR:=PZ;have aY:Go.cF.Below c.v (λj q=>if j<c.v.drawn then c.v.tape j q else 1):=λj hj=>by funext q;simp[hj]
 obtain⟨e,wp,aj,⟨rfl,av⟩,hs,aZ,hl⟩:=BF.probe xs (cI c.v (λj q=>if j<c.v.drawn then c.v.tape j q else 1)) (by simp[cI]) c.cl;obtain⟨np,Z⟩:=hs;have H:aj.mode=.panicking iL:=hl.1;obtain⟨hp,aw⟩:Path V.prog (sZ f R) c ⟨aj,c.cl,wp⟩/\Inv V.prog ⟨aj,c.cl,wp⟩:=by
  cases np with
  |zero=>
   exfalso;simp only[runN]at Z;injection Z with Z;have:=(zV Z).1;rw[<-this]at H;cases H
  |succ np=>exact xk E np k.inv aY (by rw[aI];exact Z) aX
 have aK:∀b,b<c.v.heap.size->wp.heap[b]? =c.v.heap[b]? :=λb U=>by rw[av];exact alloc_old (World.drew _) _ U
 have aL:wp.heap[c.v.heap.size]? =some (rO (mw xs)):=by rw[av];exact eU (World.drew (cI c.v _)) _
 have bo:wp.heap.size=c.v.heap.size+1:=by rw[av];exact World.size_alloc _ _
 have ax:∀x∈X1,Go.cF.Calm V.prog wp x:=λx ak=>by
  refine(Ob k.good hD (v:=c.v) (λb p P=>?_) hX x ak).grow aK λb ds U h=>?_;obtain⟨o,o',Q,g2,W⟩:=k.heap.obj b p P;exact⟨o,o',Q,⟨w,g2⟩,W⟩;have bp:=lt_of_heap h;obtain rfl:b=c.v.heap.size:=by omega
  rw[aL]at h;cases h
 obtain⟨cp,ay,al⟩:=Js.stop E (v0:=wp) (hp.reach P) ⟨⟨_,H⟩,⟨hl.2.2,by rw[hl.2.1];simp⟩,⟨X1,ai,ax⟩,λ_ _ _ _ h=>h,λ_ _ _ _ h=>h,rfl⟩;obtain⟨pb,n,D,N,aM,bq,az,hN⟩:R2 cp.v:=by rcases ay with⟨_,_,x,_,hm,_⟩|h;obtain⟨ch,aN⟩:=al.mode;rw[hm]at aN;cases aN;exact h.2.2.2.2
 have hn:n=c.v.heap.size:=by have:=al.size;omega
 subst hn;have aA:mw xs=rN (.pointer (some ⟨pb,0,none⟩)):=by
  have Y:=al.kept _ _ _ _ aL;rw[aM]at Y;injection Y with Y;injection Y with Y;have h2:(#[Value.func (.func 227) #[] (rN (.pointer (some ⟨pb,0,none⟩)))]:Array ce)[0]? =(#[Value.func (.func 227) #[] (mw xs)]:Array ce)[0]? :=by rw[Y]
  have h3:Value.func (.func 227) #[] (rN (.pointer (some ⟨pb,0,none⟩)))=Value.func (.func 227) #[] (mw xs):=cE h2;injection h3 with _ _ h4;exact h4.symm
 obtain⟨x9,ao,x0,xu⟩:=H3 (by simp[undef]) aA;have aB:eV N pb D c.v:=(az.cells λb cs t fz U h=>al.back b cs t fz h).cells λb cs t fz U h=>by rw[<-aK b (hN b U)];exact h
 obtain⟨I,a1,am⟩:∃I,au[0]? =some (.pointer (some ⟨I,0,none⟩))/\ρ.r pb I:=by
  rcases hx.get? 0 with⟨Q,_⟩|⟨u,u',Q,g2,W⟩;rw[Q]at x0;cases x0;rw[Q]at x0;injection x0 with x0;subst x0;cases W with
  |ptr ha=>cases ha with
   |mk o s P=>
    obtain⟨_,_,_,_,_,q1,_⟩:=aB.at_;obtain⟨oo,br,w1,w2,w3⟩:=k.heap.obj _ _ P;rw[q1]at w1;injection w1 with w1;subst w1;have hs:=w3.H2 (by decide);refine⟨_,?_,P⟩;rw[g2,hs];rfl
 have a2:∀i,1<=i->i<au.size->au[i]? =some undef:=λi Y h2=>by
  have h3:=xu i Y (by rw[hx.size];exact h2);rcases hx.get? i with⟨Q,_⟩|⟨u,u',Q,g2,W⟩;rw[Q]at h3;cases h3;rw[Q]at h3;injection h3 with h3;subst h3;rw[g2];revert W;generalize u'=z;intro W;unfold undef at W;cases W with
  | @tuple _ a3 k1 k2=>
   have:a3=#[]:=Array.eq_empty_of_size_eq_zero (by simpa using k1.symm);rw[this];rfl
  |CB hd a=>rw[k.holes.2.1]at hd;cases hd
 have aO:c.fr=Frame.enter V.prog 163 #[.pointer (some ⟨pb,0,none⟩)] .normal:=aI.trans (zW V.func163 (by decide) x9 ao x0 xu .normal);have aP:a.frame=Frame.enter PR 163 #[.pointer (some ⟨I,0,none⟩)] .normal:=by rw[aJ,ev];exact zW Tryz.func163 (by rw[Tryz.ntmps163];decide) (hx.size▸x9) (hx.size▸ao) a1 a2 .normal
 have O:∀b p,ρ.r b p->b<c.v.heap.size/\p<w.heap.size:=λb p P=>by obtain⟨o,o',Q,g2,_⟩:=k.heap.obj b p P;exact⟨lt_of_heap Q,lt_of_heap g2⟩
 have aa:eV (λp=>∃b,ρ.r b p) I D w:=aB.carry k.heap (λb p P=>⟨b,P⟩) am;cases hX with
 |nil=>
  exfalso;have ap:c.cl=[floor]:=ai;refine Oa E (fr:=aj) (v:=wp) (by rw[<-ap];exact hp.reach P) (by rw[<-ap];exact aw) (λa4=>hf (a4.fn▸aZ)) hl.2.1 (.inr ⟨_,H⟩)
 | @cons J A X2 ab hc a5=>
 have ha:a=G a.frame (A::ab):=by obtain⟨af,ac,bs,bt,bu⟩:=a;have k1:=k.gor.st.2;have k2:=k.gor.dy.2;have k3:=k.gor.of.2;simp only[List.append_nil]at k1 k2 k3 e2;subst k1 k2 k3 e2;rfl
 have hB:EH PR X gs (G (Frame.enter PR 163 #[.pointer (some ⟨I,0,none⟩)] .normal) (A::ab)) w t q:=⟨by rw[<-aP,<-ha];exact k.at0,rfl,ev▸k.leavers,k.past,k.low⟩;have aC:∃(M:Nat) (S:Array cj) (T:cd) (ad:Option (Nat×Nat)) (t':Trace) (q':Nat->Nat) (X' o:Nat->Prop) (y:SV),runNT PR M (crowd gs w sl) t=(.next (crowd S T ad),t')/\
  EH PR X' S (G (A.finish y.val) ab) T t' q'/\(T.tape=w.tape/\T.os=w.os/\T.output=w.output)/\w.heap.size<=T.heap.size/\(∀b,b<w.heap.size->T.heap[b]? =w.heap[b]?)/\cU o T (gm D) y/\(∀b,o b->w.heap.size<=b/\b<T.heap.size/\¬X' b)/\∀b,X' b->X b\/w.heap.size<=b:=by
  obtain⟨wk,u1,u2,fz,_,aQ,aR,a6⟩:=aa.at_;have p1:w.cell? ⟨I,1,none⟩=some u1:=by simp[World.cell?,aQ,dg]
  have p2:w.cell? ⟨I,2,none⟩=some u2:=by simp[World.cell?,aQ,dg]
  by_cases h0:0<D.opn.length;have an:0<D.lists.length:=by rw[aa.ok.len];exact h0
  obtain⟨oa,oc1,rfl⟩:=aR.len;obtain⟨lb,lc,lu,rfl,a7,aS,a8⟩:=a6.at_ 0 an;obtain⟨a0,c0,rfl⟩:=a8.len;have a9:D.lists[0]=dz D 0:=by unfold dz;rw[gU,ew an];rfl
  have ae:=aa.ok.many _ (dt an);rw[a9]at aS ae;have aD:∀b,(∃b0,ρ.r b0 b)->b<w.heap.size/\¬X b:=λb ⟨b0,U⟩=>⟨(O _ _ U).2,k.apart _ _ U⟩;have aq:=KN (X:=X) (B:=λp=>∃b,ρ.r b p) (sl:=sl) aD h0 an (oa:=oa) (oc1:=oc1) (la:=⟨lb,0,none⟩) (C:=lc) (a0:=a0) (n:=(dz D 0).length) (c0:=c0) ⟨p1,⟨p2,aS⟩⟩ ⟨_,am⟩ a7 ae (BF.pick _ I D w aa (λb U=>(aD b U).1) h0) hB;rw[<-Hq D h0]at aq;exact aq;have ar:D.opn=[]:=l9 (by omega);obtain⟨oa,oc1,rfl⟩:=aR.len;rw[ar]at p1;obtain⟨M,S,T,ad,t',q',r1,r2,r3,r4,r5⟩:=H0 (sl:=sl) ⟨(O _ _ am).2,k.apart _ _ am⟩ p1 hB;refine⟨M,S,T,ad,t',q',X,λ_=>False,⟨none,0,0,0,0,true⟩,r1,r2,r3,r4,r5,?_,λb h=>h.elim,λb h=>.inl h⟩;have:gm D=some ([],0,0):=by unfold gm;rw[ar];simp only[fC,dS,nq,dX,gH,By,L0,jP,qK,aa.ok.zero];rfl
  rw[this];exact⟨rfl,rfl,rfl,rfl,.inl ⟨rfl,rfl,rfl⟩⟩
 obtain⟨M,S,T,ad,t',q',X',o,y,r1,r2,r3,r4,r5,r6,r7,r8⟩:=aC;have ba:Go.cF.Below c.v (λj q=>if j<c.v.drawn then c.v.tape j q else match q with| .appendCap n _ _=>y.sc-n|_=>0):=λj hj=>by funext q;simp[hj]
 obtain⟨e,w2,bb,⟨yv,rfl,bc,bd,aT,be⟩,bf,bm,bg⟩:=BF.goes N pb D (cI c.v (λj q=>if j<c.v.drawn then c.v.tape j q else match q with| .appendCap n _ _=>y.sc-n|_=>0)) (aB.cI _) hN (by simp[cI]) c.cl;obtain⟨n2,bh⟩:=bf;have aU:c.cl=J::(X2++[floor]):=ai;have aE:Go.step V.prog (lone bb c.cl w2)=.next (lone (J.finish yv.val) (X2++[floor]) w2):=by rw[aU];exact step_leave_returned bg
 obtain⟨aF,aG⟩:=xk E n2 (c:=c) k.inv ba (KT (by rw[aO];exact bh) aE) (by simp);have aV:∀l m n,gm D=some (l,m,n)->l≠[]->yv.sc=y.sc:=λl m n hs hl=>by have h6:=r6;rw[hs]at h6;obtain⟨_,_,_,_,⟨bi,_⟩|⟨_,_,_,_,h7,h8,_⟩⟩:=h6;exact absurd bi hl;exact Tu bd be (K:=y.sc) (λj n x t hj=>by have:¬j<c.v.drawn:=Nat.not_lt.2 hj;simp[cI,this]) l m n hs hl h7 h8
 obtain⟨bj,F,bk,ag⟩:=KY (ρ:=ρ) bc r6 aV (λb U p P=>by
  have aD:c.v.heap.size<=b:=U;have:=(O _ _ P).1;omega) (λp L b P=>by
  have Y:=(r7 p L).1;have:=(O _ _ P).2;omega) λp L=>k.heap.low p (r7 p L).1
 have aH:w0.heap.size<=w.heap.size:=k.grown;refine⟨M,S,T,ad,t',q',⟨J.finish yv.val,X2++[floor],w2⟩,bj,X',G (A.finish y.val) ab,by rw[ev];exact r1,⟨aG,k.good.mono F,F.f▸k.same,r2.at0,?_,?_,ev.symm▸r2.leavers,r2.past,r2.low,?_,?_,cJ aH r4,?_,?_,?_⟩,aF⟩;exact⟨.fr ((hc.mono F).finish bk),⟨X2,ab,rfl,by simp[G],a5.mono F⟩,⟨rfl,rfl⟩,⟨rfl,rfl⟩,⟨rfl,rfl⟩⟩;refine⟨λb p ah=>?_,λp L=>by rw[<-F.g];exact k.heap.low p (cJ r4 L)⟩;rcases ag b p ah with h|⟨_,_,bl,x,x',Q,g2,W⟩;obtain⟨o1,o2,Q,g2,W⟩:=k.heap.obj b p h;refine⟨o1,o2,(aT b (O _ _ h).1).trans Q,(r5 p (O _ _ h).2).trans g2,?_⟩;rw[<-F.g];exact W.mono F;exact⟨x,x',Q,g2,.inl ⟨bl,W⟩⟩;intro b p ah ak;rcases ag b p ah with h|⟨_,ho,_⟩;rcases r8 p ak with Y|Y;exact k.apart _ _ h Y;have:=(O _ _ h).2;omega;exact(r7 p ho).2.2 ak;intro b p ah L;rcases ag b p ah with h|⟨_,ho,_⟩;exact(k.old b p h L).keep (aT b (O _ _ h).1);have:=(r7 p ho).1;omega;intro p L;rw[r5 p (by omega)];exact k.kept p L;exact⟨r3.1.trans k.world.1,r3.2.1.trans k.world.2.1,r3.2.2.trans k.world.2.2⟩;exact⟨λg hg=>k.holes.1 g (by rw[F.h];exact hg),F.d▸k.holes.2.1,λ⟨g,hg⟩=>k.holes.2.2 ⟨g,by rw[F.w];exact hg⟩⟩
end Go.Proofs.W
variable{l f:List Nat}{a:Option Go.Addr}
namespace Go.Proofs.W
open Go.RowKit
section
variable{w:cd}{kx:ce->Prop}{kr kp kl:fW->Prop}{lb ea:Bool}
def Od(h:kr (boxed w.heap.size (sH T).toArray T))(b:WI T=true:=by rfl):zr Ext Ext w (λc d=>iO V.prog (Instr.alloc T true (.tuple #[])) c d) kx kr kp lb kl ea:=
 .rel _ (Hp _ _ _) (λ_ e=>eF (λ_ f g a i=>⟨⟨f,rfl,cJ e.size a,i⟩,g⟩) b) h
end
structure Qz(pb T:Nat)(w:cd)(D:dR)(n i:Nat)(pa:Option Addr)(pc:Nat)(l:List Nat)(d:Nat)(la:Option Addr)(Zy:Nat):Prop where
 h:∃ob no oc lb nl lc rb ni rc,w.cell? ⟨T,0,none⟩=some (.pointer (some ⟨pb,0,none⟩))/\w.cell? ⟨pb,1,none⟩=some (.slice (some ⟨ob,0,none⟩) no oc)/\w.cell? ⟨T,1,none⟩=some (.slice pa n pc)/\w.cell? ⟨ob,n,none⟩=some (.int .i64 d)/\
  w.cell? ⟨pb,2,none⟩=some (.slice (some ⟨lb,0,none⟩) nl lc)/\w.cell? ⟨lb,n,none⟩=some (.slice (some ⟨rb,0,none⟩) ni rc)/\w.cell? ⟨rb,i,none⟩=some (.slice la l.length Zy)/\n<no/\n<nl/\i<ni
 row:∀j (h:j<l.length),∃lb,la=some ⟨lb,0,none⟩/\lb≠T/\pa≠some ⟨lb,0,none⟩/\w.cell? ⟨lb,j,none⟩=some (.int .i64 l[j])
 long:l.length<=65536
 shift:∀s∈l,s<6
 door:d<5
def pZ{a:Type}{l:List a}{d x:a}(h:k<l.length)(e:l.getD k d=x):l[k]=x:=by rw[gU,ew h]at e;exact e
def xZ.data{N:Nat->Prop}{D:dR}{w:cd}{L:Nat->Nat}{y:SV}(h:xZ N m k D w l a i L y)(g:l.length<D.opn.length)(s:j<(dz D l.length).length):∃t v,Qz m k w D l.length j a i ((dz D l.length).getD j []) (fh D l.length) t v:=by
 obtain⟨J,K,t2,t3,t4⟩:=gZ h.at_;have n:=h.plan;obtain⟨wk,M,O,fz,_,o,x,z⟩:=n.at_;have P:w.cell? ⟨m,1,none⟩=some M:=by simp[World.cell?,o,dg]
 have Q:w.cell? ⟨m,2,none⟩=some O:=by simp[World.cell?,o,dg]
 obtain⟨R,S,T,rfl,U,p,A⟩:=x.at_ l.length g;obtain rfl:T=.int .i64 (D.opn[l.length]:Nat):=A;have d:l.length<D.lists.length:=by rw[n.ok.len];exact g
 obtain⟨lb,V,lu,rfl,W,B,q⟩:=z.at_ l.length d;have F:D.lists[l.length]=dz D l.length:=pZ d rfl;have G:D.opn[l.length]=fh D l.length:=pZ g rfl;rw[F]at q;rw[G]at p;obtain⟨X,Y,ru,rfl,Z,C,f⟩:=q.at_ j s;have H:(dz D l.length)[j]=(dz D l.length).getD j []:=pZ s rfl;rw[H]at f;have e:dz D l.length∈D.lists:=F▸dt d;have r:(dz D l.length).getD j []∈dz D l.length:=H▸dt s;obtain⟨t,E,rfl⟩:=f.len;refine⟨t,E,⟨R,_,S,lb,_,V,X,_,Y,J,P,K,p,Q,B,C,g,d,s⟩,λaa hj=>?_,n.ok.long _ e _ r,n.ok.shift _ e _ r,n.ok.door _ (G▸dt g)⟩;obtain⟨b,c,u,h1,I,h3,h4⟩:=f.at_ aa hj;cases h1;exact⟨b,rfl,(h.sep b I).2.1,(h.sep b I).2.2,h3.trans (cM some h4)⟩
structure QA(T pb:Nat)(w:cd)(ps:List Nat)(i:Nat)(pa:Option Addr)(L:Nat->Nat)(y:SV)(d:Nat)(l:List Nat)(e:Ending)(w':cd):Prop where
 out:∃bl bt bd la lc P3 UG,e=.returned (.func (.func 227) #[] #[.pointer (some ⟨bl,0,none⟩),.pointer (some ⟨bt,0,none⟩),.pointer (some ⟨bd,0,none⟩)])/\
  w.heap.size<=bl/\w.heap.size<=bt/\w.heap.size<=bd/\w'.heap[bl]? =some (.cells #[.slice la l.length lc] 27)/\w'.heap[bt]? =some (.cells #[.pointer (some ⟨T,0,none⟩)] 243)/\w'.heap[bd]? =some (.cells #[.int .i64 d] 3)/\
  (∀j (h:j<l.length),∃lb,la=some ⟨lb,0,none⟩/\lb≠T/\pa≠some ⟨lb,0,none⟩/\w.cell? ⟨lb,j,none⟩=some (.int .i64 l[j]))/\
  w'.heap[T]? =some (dY pb P3 (ps.length+1) UG (jz d l L) y)/\o9 T w' P3 UG (ps++[i])/\(P3=pa\/∃b,w.heap.size<=b/\P3=some ⟨b,0,none⟩/\b≠bl/\b≠bt/\b≠bd)
 keep:cN (λb=>b=T\/pa=some ⟨b,0,none⟩) w w'
def Ext.xn{w a:cd}{F:Nat->Prop}{b:cd}(h:Ext w a)(k:cN F b w):cN F b a:=k.trans (h.keep F) (λ_ _ h=>h) λ_ _ h=>h
def o9.at_{w:cd}(h:o9 m w a k l)(b:a=some ⟨i,0,none⟩):i<w.heap.size/\m<i:=by rcases h with⟨h,_,_⟩|⟨c,g,d,e,f,_⟩;rw[h]at b;cases b;rw[d]at b;obtain rfl:c=i:=cM Addr.block (cE b);exact⟨cF.lt_of_heap f,e⟩
def BW{L:Nat->Nat}{y:SV}{w:cd}(c:s<6)(h:w.heap[j]? =some (.cells (fT #[.pointer (some ⟨m,0,none⟩),.slice a k i,.int .u8 (L 0),.int .u8 (L 1),.int .u8 (L 2),.int .u8 (L 3),.int .u8 (L 4),.int .u8 (L 5),.slice y.sa y.sl y.sc,.int .i64 y.m,.int .i64 y.k,.bool y.b] (2+s) (Value.int .u8 o).cells.toList) 245)):w.heap[j]? =some (dY m a k i (Ho L s o) y):=by
 rw[h];have:s=0\/s=1\/s=2\/s=3\/s=4\/s=5:=by omega
 rcases this with rfl|rfl|rfl|rfl|rfl|rfl<;>simp[fT,Value.cells,dY,Ho]
def QB(N:Nat->Prop)(pb T:Nat)(D:dR)(w:cd)(ps:List Nat)(pa:Option Addr)(pc:Nat)(L:Nat->Nat)(y:SV)(i:Nat)(X:xZ N pb T D w ps pa pc L y)(P:ps.length<D.opn.length)(hi:i<(dz D ps.length).length):Calls V.prog 215 #[.pointer (some ⟨T,0,none⟩),.int .i64 i] w (QA T pb w ps i pa L y (fh D ps.length) ((dz D ps.length).getD i [])):=by
 obtain⟨la,A,hD⟩:=X.data P hi;have hT:=X.at_;have f:=X.own;have hL:=X.lt;have ad:=X.plan.ok.five;have au:T<w.heap.size:=cF.lt_of_heap hT;generalize fh D ps.length=d at hD⊢;generalize (dz D ps.length).getD i []=l at hD⊢;obtain⟨⟨ob,no,oc,lb,nl,lc,rb,ni,rc,c0,p1,t1,hd,p2,hl,hr,ae,af,ag⟩,t,ah,ai,C⟩:=hD;refine go V.func215 Tryz.ntmps215 ?_;refine fo λw1 bt Q j Y=>?_;have ct:w1.cell? ⟨bt,0,none⟩=some (.pointer (some ⟨T,0,none⟩)):=ci Y rfl;refine cQ cO (cG ct (cG (Q.cell c0) (cG (Q.cell p1) (cG ct (cG (Q.cell t1) (jW (me ps.length ae (cG (by rw[cB];exact Q.cell hd) (Od ?_)))))))));rintro w2 x2 _ ⟨bd,rfl,aj,a⟩;refine cZ a λw3 k3 ak=>?_;have Z:=x2.cy k3 aj;have R:=Q.trans Z;refine cQ cO (cG (Z.cell ct) (cG (R.cell c0) (cG (R.cell p2) (cG (Z.cell ct) (cG (R.cell t1) (jW (me ps.length af (cG (by rw[cB];exact R.cell hl) (me i ag (cG (by rw[cB];exact R.cell hr) (Od ?_)))))))))));rintro w4 x4 _ ⟨bl,rfl,al,a⟩;refine cZ a λw5 k5 aa=>?_;have x5:=x4.cy k5 al;have X5:=R.trans x5;have s1:=Q.size;have s3:=Z.size;refine cu (ci aa rfl) (cD ?_);refine ei (n:=l.length) (λk=>[(1,.int .i64 i),(2,.pointer (some ⟨bt,0,none⟩)),(5,.pointer (some ⟨bd,0,none⟩)),(6,.pointer (some ⟨bl,0,none⟩)),(40,.slice la l.length A),(41,.int .i64 l.length),(42,.int .i64 k)]) (λk S=>cN (λb=>b=T) w S/\S.heap[T]? =some (dY pb pa ps.length pc (jz d (l.take k) L) y)/\S.heap[bt]? =some (.cells #[.pointer (some ⟨T,0,none⟩)] 243)/\S.heap[bd]? =some (.cells #[.int .i64 d] 3)/\S.heap[bl]? =some (.cells #[.slice la l.length A] 27)) ⟨⟨rfl,rfl,rfl,rfl,rfl,rfl,rfl,trivial⟩,X5.keep _,X5.at_ hT,x5.at_ (Z.at_ Y),x5.at_ ak,aa⟩ ?_ ?_ ?_;intro k S _ hJ;exact cV ⟨rfl,rfl,⟨rfl,rfl,rfl,rfl,rfl,rfl,rfl,trivial⟩,hJ⟩;rintro k p P ⟨K,E,c,m,q⟩;obtain⟨av,rfl,am,ar,F⟩:=t k P;have g:=ai l[k] (dt P);obtain⟨t0,_,t2,_,_⟩:=gZ E;refine dI k P (cu (K.ef (by rw[cB];exact F) am) (cQ cO (cG (ci c rfl) (cG (ci c rfl) (pM l[k] 6 g (cG (t2 _ g) (cG (ci m rfl) (ia cO _ (λw e=>HE (EQ _ _ w (CZ C hL l[k] g) C)) (pM l[k] 6 g λw7 x7=>?_)))))))));refine iA (x7.at_ E) (by simp[Value.cells];omega) (λG U H=>cq ?_) (fU rfl);have T8:=BW g H;rw[BA C hL k P g]at T8;have I:∀{b:Nat} {o:Obj},w.heap.size<=b->p.heap[b]? =some o->G.heap[b]? =some o:=λa ho=>U.fg (x7.at_ ho) (by omega);exact⟨⟨rfl,rfl,rfl,rfl,rfl,rfl,rfl,trivial⟩,(x7.xn K).trans U (λ_ _ h=>h) λ_ _ h=>h,T8,I j c,I (by omega) m,I (by omega) q⟩;rintro p ⟨K,E,c,m,q⟩;rw[qL (cz _)]at E;obtain⟨_,t1,_,_,_⟩:=gZ E;have J:∀{b:Nat},w.heap.size<=b->¬pa=some ⟨b,0,none⟩:=λa e=>by have:=(f.at_ e).1;omega
 have u:¬pa=some ⟨T,0,none⟩:=λe=>by have:=(f.at_ e).2;omega
 have ab:o9 T p pa pc ps:=f.ext λb a M=>K.block b a (by have:=(f.at_ M).2;omega);have an:T<p.heap.size:=cF.lt_of_heap E;have x:∀b,pa=some ⟨b,0,none⟩->b<p.heap.size:=λb a=>(ab.at_ a).1;have aE:=P8 (T:=T) (ps:=ps) (i:=i) (pa:=pa) (pc:=pc);refine cQ aE (dx _ (λw e=>cu (e.keep.ef (ci c rfl) (J j)) ⟨rfl,aE.refl _⟩) (dx _ (λw e=>cu (e.keep.ef (ci c rfl) (J j)) ⟨rfl,aE.refl _⟩) (dx _ (λw e=>cu (e.keep.ef t1 u) ⟨rfl,aE.refl _⟩) ?_)));refine .rel (picked i p) (Fj x) (λw7 z=>dJ [.int .i64 i] 3 (λG nb e8 ao a=>⟨⟨nb,rfl,cJ z.keep.size ao,a⟩,zi e8⟩)) ?_;refine .rel (zj T ps i pa p) (A3 x) (λw7 z v hv=>?_) ?_;obtain⟨B,rfl,aw,ap⟩:=hv;obtain⟨v,G,ac,W⟩:=EZ T w7 ps i pa pc 27 B (z.own ab) (dl an z.keep.size) (by simp[World.cell?,ap]) (by omega);obtain⟨r,s,e1,e2,e3⟩:=W.val;refine⟨v,G,by simp[builtin,ac,Result.andThen],⟨r,s,e1,e2,e3.imp id λ⟨b,a,e⟩=>⟨b,cJ z.keep.size a,e⟩⟩,W.keep,λ_=>W.old,W.stay⟩;intro w7 z v hv _ _;obtain⟨r,s,rfl,hO,W⟩:zj T ps i pa p v w7:=hv;refine cZ (z.keep.fg E u) λG U H=>?_;have K7:=z.keep;have s6:=K.size;have O:∀{b:Nat} {o:Obj},w.heap.size<=b->p.heap[b]? =some o->G.heap[b]? =some o:=λa ho=>U.fg (K7.fg ho (J a)) (by omega);have aq:o9 T G r s (ps++[i]):=hO.ext λb a M=>U.block b a (by have:=(hO.at_ M).2;omega);refine⟨⟨bl,bt,bd,la,A,r,s,rfl,by omega,j,by omega,O (by omega) q,O j c,O (by omega) m,t,H,aq,W.imp id λ⟨b,a,e⟩=>⟨b,by omega,e,?_⟩⟩,(K.trans K7 (λ_ _ h=>.inl h) λ_ _ h=>.inr h).trans U (λ_ _ h=>h) λ_ _ h=>.inl h⟩;have g1:=cF.lt_of_heap q;have g2:=cF.lt_of_heap c;have g3:=cF.lt_of_heap m;omega
def KZ{b:Func}{c:Code}{u:FrameMode}{R:Ending->cd->Prop}(n:Nat)
 (f:P.funcs[K]? =some b)(g:b.body=some c)(j:b.ntmps=n)(h:∀a:Act,a.tmps.size=n->a.defers=[]->(∀i v,W[i]? =some v->a.eval (.tmp i)=v)->c.wp P (bodyPost P b R) a w)(d:W.size<=n):CallsD P K W u w λe k l=>k=u/\R e l:=by
 refine callsD_of_wp f g ?_;rw[j];exact h (BB W n) (tB _ _ d) rfl λi v m=>zh _ _ _ _ m
def Oe(c T f n g d:Nat)(L:Nat->Nat)(y:SV)(l:List Nat)(w:cd)(e:Ending)(a:cd):Prop:=
 e=.returned undef/\cN (λb=>b=T) w a/\a.heap[T]? =some (dY c (some ⟨f,0,none⟩) n g (nt d l L) y)
def Of(G T H n v x z R d A:Nat)(I:Option Addr)(L:Nat->Nat)(y:SV)(l:List Nat)(w:cd)(u:FrameMode)(J:w.heap[T]? =some (dY G (some ⟨H,0,none⟩) (n+1) v L y))(S:∀s,s<6->L s<32) (M:w.heap[R]? =some (.cells #[.slice I l.length A] 27))(a:w.heap[x]? =some (.cells #[.pointer (some ⟨T,0,none⟩)] 243))(c:w.heap[z]? =some (.cells #[.int .i64 d] 3)) (B:∀j (h:j<l.length),∃N,I=some ⟨N,0,none⟩/\N≠T/\w.cell? ⟨N,j,none⟩=some (.int .i64 l[j]))(O:l.length<=65536)(P:∀s∈l,s<6)(i:d<5)(hn:n+1<=v)(U:n<=65536)(Y:v<2^63):
 CallsD V.prog 227 #[.pointer (some ⟨R,0,none⟩),.pointer (some ⟨x,0,none⟩),.pointer (some ⟨z,0,none⟩)] u w λe Z m=>Z=u/\Oe G T H n v d L y l w e m:=by
 have C:x≠T:=by rintro rfl;rw[J]at a;injection a with a;injection a with _ a _;cases a
 have D:z≠T:=by rintro rfl;rw[J]at c;injection c with c;injection c with _ c _;cases c
 refine KZ 39 V.func227 rfl Tryz.ntmps227 (Rz 39 (kq.of jG ?_)) (by simp);refine cu (ci M rfl) (cD ?_);refine ei (n:=l.length) (λk=>[(1,.pointer (some ⟨x,0,none⟩)),(2,.pointer (some ⟨z,0,none⟩)),(5,.slice I l.length A),(6,.int .i64 l.length),(7,.int .i64 k)]) (λk m=>cN (λb=>b=T) w m/\m.heap[T]? =some (dY G (some ⟨H,0,none⟩) (n+1) v (nt d (l.take k) L) y)/\m.heap[x]? =some (.cells #[.pointer (some ⟨T,0,none⟩)] 243)/\m.heap[z]? =some (.cells #[.int .i64 d] 3)) ⟨⟨rfl,rfl,rfl,rfl,rfl,trivial⟩,cN.refl _ _,J,a,c⟩ ?_ ?_ ?_;intro k m _ hJ;exact cV ⟨rfl,rfl,⟨rfl,rfl,rfl,rfl,rfl,trivial⟩,hJ⟩;rintro k w6 F ⟨K,t,f,o⟩;obtain⟨aa,rfl,Q,p⟩:=B k F;have g:=P l[k] (dt F);obtain⟨t0,_,t2,_,_⟩:=gZ t;refine dI k F (cu (K.ef (by rw[cB];exact p) Q) (cQ cO (cG (ci f rfl) (cG (ci f rfl) (pM l[k] 6 g (cG (t2 _ g) (cG (ci o rfl) (ia cO _ (λw e=>HE (ER _ _ w (Ff i S l[k] g) i)) (pM l[k] 6 g λw7 q=>?_)))))))));refine iA (q.at_ t) (by simp[Value.cells];omega) (λw8 E r=>cq ?_) (fU rfl);have W:=BW g r;rw[Hr i S k F g]at W;exact⟨⟨rfl,rfl,rfl,rfl,rfl,trivial⟩,(q.xn K).trans E (λ_ _ h=>h) λ_ _ h=>h,W,E.fg (q.at_ f) C,E.fg (q.at_ o) D⟩;rintro w6 ⟨K,t,f,o⟩;rw[qL (cz _)]at t;obtain⟨_,X,_,_,_⟩:=gZ t;refine cQ cO (cG (ci f rfl) (cG (ci f rfl) (cG X (cG (ci f rfl) (cG X (jW (vX (dx _ (λw1 _=>n7 n (by omega) ⟨rfl,cO.refl _⟩ (by omega)) λw7 q=>?_))))))));exact cZ (q.at_ t) λw8 E r=>⟨rfl,(q.xn K).trans E (λ_ _ h=>h) λ_ _ h=>h,r⟩
section
variable{P:cf}{ops:Array Oper}{Q:Exit->Act->cd->Prop}
def jg{o:Oper}{a:Act}{w w':cd}{K:Act->cd->Prop}(v:ce)(b:ops[i]? =some o)(c:o.guard=none)(d:(execOp a.eval o).run P w=.ok (.value v) w')(h:K (a.put o.dst v) w'):wpOp P ops Q i K a w:=by
 have e:Region.wanted o (yielded ops a.tmps)=true:=by simp[Region.wanted,c]
 unfold wpOp;rw[b];simp only[e,cX];refine .inl ?_;unfold Oper.wp;rw[d];exact h
def K3{o:Oper}{a:Act}{w b:cd}{K:Act->cd->Prop}(d:Deferred)(c:ops[i]? =some o)(e:o.guard=none)(f:(execOp a.eval o).run P w=.ok (.defer d) b)(h:K ({a with defers:=d::a.defers}.put o.dst undef) b):wpOp P ops Q i K a w:=by
 have g:Region.wanted o (yielded ops a.tmps)=true:=by simp[Region.wanted,e]
 unfold wpOp;rw[c];simp only[g,cX];refine .inl ?_;unfold Oper.wp;rw[f];exact h
end
def QC:Tryz.f190.body=some ((fH Tryz.f190 0).seq (fH Tryz.f190 1)):=by kernel_rfl
def QD(Q:Exit->Act->cd->Prop)(a:Act)(w:cd)(T i:Nat)(A:a.tmps.size=9)(B:a.defers=[])(z:a.eval (.tmp 0)=.pointer (some ⟨T,0,none⟩))(C:a.eval (.tmp 1)=.int .i64 i)
 (h:Calls V.prog 215 #[.pointer (some ⟨T,0,none⟩),.int .i64 i] w λe r=>∃n p q,e=.returned (.func (.func 227) #[] #[.pointer (some ⟨n,0,none⟩),.pointer (some ⟨p,0,none⟩),.pointer (some ⟨q,0,none⟩)])/\
  ∀s:Act,s.tmps.size=9->s.defers=[{target:=.fn (.func 227) #[.pointer (some ⟨n,0,none⟩),.pointer (some ⟨p,0,none⟩),.pointer (some ⟨q,0,none⟩)],args:=#[]}]->s.eval (.tmp 0)=.pointer (some ⟨T,0,none⟩)->Q .normal s r):
 Code.wp V.prog (fH Tryz.f190 0) Q a w:=by
 have e:fH Tryz.f190 0=.region 0 (opsOf (fH Tryz.f190 0)) false:=by kernel_rfl
 rw[e];refine ow ?_;have j:(opsOf (fH Tryz.f190 0)).size=4:=by kernel_rfl
 rw[j];show wpOps _ _ _ [0,1,2,3] _ _;rw[wpOps_cons];obtain⟨o,c⟩:=vU 0 j (by decide);obtain⟨k,l⟩:=Ka c (show infoAt (opsOf (fH Tryz.f190 0)) 0=some (Op.move (.tmp 0),none) by kernel_rfl);have m:o.dst=some 4:=zg c (by kernel_rfl);have b:∀(o:Oper) (f:dj->ce),o.op=Op.move (.tmp 0)->f (.tmp 0)=.pointer (some ⟨T,0,none⟩)->(execOp f o).run V.prog w=.ok (.value (.pointer (some ⟨T,0,none⟩))) w:=by rintro⟨d,u,t,v,x,g⟩ f rfl y;go_simp
 refine jg _ c l (b o a.eval k z) ?_;clear b;rw[m,wpOps_cons];clear c k l m o;obtain⟨o,c⟩:=vU 1 j (by decide);obtain⟨k,l⟩:=Ka c (show infoAt (opsOf (fH Tryz.f190 0)) 1=some (Op.move (.tmp 1),none) by kernel_rfl);have m:o.dst=some 5:=zg c (by kernel_rfl);have b:∀(o:Oper) (f:dj->ce),o.op=Op.move (.tmp 1)->f (.tmp 1)=.int .i64 i->(execOp f o).run V.prog w=.ok (.value (.int .i64 i)) w:=by rintro⟨d,u,t,v,x,g⟩ f rfl y;go_simp
 refine jg _ c l (b o _ k (by rw[pI _ _ _ _ (by simp)];exact C)) ?_;clear b;rw[m,wpOps_cons];clear c k l m o;obtain⟨o,c⟩:=vU 2 j (by decide);obtain⟨k,l⟩:=Ka c (show infoAt (opsOf (fH Tryz.f190 0)) 2=some (Op.call {callee:=.value (.func 215),args:=#[.tmp 4,.tmp 5],argTypes:=#[243,3]},none) by kernel_rfl);have m:o.dst=some 6:=zg c (by kernel_rfl);have b:∀(o:Oper) (f:dj->ce),o.op=Op.call {callee:=.value (.func 215),args:=#[.tmp 4,.tmp 5],argTypes:=#[243,3]}->f (.tmp 4)=.pointer (some ⟨T,0,none⟩)->f (.tmp 5)=.int .i64 i->f (.func 215)=.func (.func 215) #[] #[]->(execOp f o).run V.prog w=.ok (.enter 215 #[.pointer (some ⟨T,0,none⟩),.int .i64 i]) w:=by rintro⟨d,u,t,v,x,g⟩ f rfl y E F;go_simp
 refine zf _ _ c l (b o _ k (by rw[pI _ _ _ _ (by simp),uD _ _ _ (by omega)]) (by rw[uD _ _ _ (by rw[lZ];omega)]) rfl) (h.mono ?_);clear b h;rintro e r ⟨n,p,q,rfl,D⟩;refine .inl ⟨_,rfl,?_⟩;rw[m,wpOps_cons];clear c k l m o;obtain⟨o,c⟩:=vU 3 j (by decide);obtain⟨k,l⟩:=Ka c (show infoAt (opsOf (fH Tryz.f190 0)) 3=some (Op.defer {callee:=.value (.tmp 6),args:=#[],argTypes:=#[]},none) by kernel_rfl);have m:o.dst=none:=zg c (by kernel_rfl);have b:∀(o:Oper) (f:dj->ce),o.op=Op.defer {callee:=.value (.tmp 6),args:=#[],argTypes:=#[]}->f (.tmp 6)=(.func (.func 227) #[] #[.pointer (some ⟨n,0,none⟩),.pointer (some ⟨p,0,none⟩),.pointer (some ⟨q,0,none⟩)])->
  (execOp f o).run V.prog r=.ok (.defer {target:=.fn (.func 227) #[.pointer (some ⟨n,0,none⟩),.pointer (some ⟨p,0,none⟩),.pointer (some ⟨q,0,none⟩)],args:=#[]}) r:=by
  rintro⟨d,u,t,v,x,g⟩ f rfl y;go_simp
 refine K3 _ c l (b o _ k (by rw[uD _ _ _ (by rw[lZ,lZ];omega)])) ?_;rw[m];refine D _ (by show((((a.put _ _).put _ _).put _ _).tmps).size=9;rw[lZ,lZ,lZ,A]) (by show _::(((a.put _ _).put _ _).put _ _).defers=_;rw[tA,tA,tA,B]) ?_;show(((a.put _ _).put _ _).put _ _).eval (.tmp 0)=_;rw[pI _ _ _ _ (by simp),pI _ _ _ _ (by simp),pI _ _ _ _ (by simp)];exact z
def QE(Q:Exit->Act->cd->Prop)(a:Act)(w:cd)(T:Nat)(x:a.tmps.size=9)(p:a.eval (.tmp 0)=.pointer (some ⟨T,0,none⟩))
 (b:Calls V.prog 216 #[.pointer (some ⟨T,0,none⟩)] w λe l=>e=.returned undef/\∀m:Act,m.defers=a.defers->Q .normal m l):
 Code.wp V.prog (fH Tryz.f190 1) Q a w:=by
 have e:fH Tryz.f190 1=.region 1 (opsOf (fH Tryz.f190 1)) false:=by kernel_rfl
 rw[e];refine ow ?_;have h:(opsOf (fH Tryz.f190 1)).size=2:=by kernel_rfl
 rw[h];show wpOps _ _ _ [0,1] _ _;rw[wpOps_cons];obtain⟨o,i⟩:=vU 0 h (by decide);obtain⟨j,k⟩:=Ka i (show infoAt (opsOf (fH Tryz.f190 1)) 0=some (Op.move (.tmp 0),none) by kernel_rfl);have n:o.dst=some 7:=zg i (by kernel_rfl);have c:∀(o:Oper) (f:dj->ce),o.op=Op.move (.tmp 0)->f (.tmp 0)=.pointer (some ⟨T,0,none⟩)->(execOp f o).run V.prog w=.ok (.value (.pointer (some ⟨T,0,none⟩))) w:=by rintro⟨d,q,t,r,s,g⟩ f rfl u;go_simp
 refine jg _ i k (c o a.eval j p) ?_;clear c;rw[n,wpOps_cons];clear i j k n o;obtain⟨o,i⟩:=vU 1 h (by decide);obtain⟨j,k⟩:=Ka i (show infoAt (opsOf (fH Tryz.f190 1)) 1=some (Op.call {callee:=.value (.func 216),args:=#[.tmp 7],argTypes:=#[243]},none) by kernel_rfl);have c:∀(o:Oper) (f:dj->ce),o.op=Op.call {callee:=.value (.func 216),args:=#[.tmp 7],argTypes:=#[243]}->f (.tmp 7)=.pointer (some ⟨T,0,none⟩)->f (.func 216)=.func (.func 216) #[] #[]->(execOp f o).run V.prog w=.ok (.enter 216 #[.pointer (some ⟨T,0,none⟩)]) w:=by rintro⟨d,q,t,r,s,g⟩ f rfl u y;go_simp
 refine zf _ _ i k (c o _ j (by rw[uD _ _ _ (by omega)]) rfl) (b.mono ?_);clear c b;rintro e l ⟨rfl,v⟩;exact .inl ⟨_,rfl,v _ (by rw[tA,tA])⟩
def o9.init{w:cd}(h:o9 m w a k (l++[i])):o9 m w a k l:=by rcases h with⟨_,h,_⟩|⟨b,c,d,e,f,g,j,n,o⟩;simp at h;refine .inr ⟨b,c,d,e,f,g,by simp at j;omega,n,λp q=>?_⟩;have:=o p (by simp;omega);rw[lI q]at this;exact this
def xo{L a:Nat->Nat}(h:L s=a s):nt d l L s=nt d l a s:=by unfold nt;rw[h]
def K4{D:dR}(b:D.Ok)(c:j<D.opn.length)(d:k<D.opn.length)(a:j≠k):fh D j≠fh D k:=by have f:D.opn[j]=fh D j:=pZ c rfl;have g:D.opn[k]=fh D k:=pZ d rfl;rw[<-f,<-g];intro e;exact a ((List.getElem_inj b.nodup).1 e)
def K5{D:dR}(b:D.Ok)(a:j<D.opn.length):fh D j<5:=by have c:D.opn[j]=fh D j:=pZ a rfl;rw[<-c];exact b.door _ (dt a)
def rP(n:Nat):Prop:=∀(N:Nat->Prop) (b T:Nat) (D:dR) (c d:Nat) (w:cd) (a:List Nat) (e:Option Addr) (f:Nat) (L:Nat->Nat) (y:SV) (s:Sp),a.length+n=D.opn.length->gT N b T D c d w a e f L y s->Calls V.prog 216 #[.pointer (some ⟨T,0,none⟩)] w (Fh N b T D c d w a e L (dS D n a L s))
def F6(n:Nat)(hg:rP n)(N:Nat->Prop)(pb T:Nat)(D:dR)(m0 j0:Nat)(w:cd)(q:List Nat)(O:Option Addr)(pc:Nat)(L:Nat->Nat)(y:SV)(s:Sp)(i:Nat) (hn:q.length+(n+1)=D.opn.length)(u:gT N pb T D m0 j0 w q O pc L y s)(hi:i<(dz D q.length).length):Calls V.prog 190 #[.pointer (some ⟨T,0,none⟩),.int .i64 i] w (Fh N pb T D m0 j0 w q O L (dS D n (q++[i]) (jz (fh D q.length) ((dz D q.length).getD i []) L) s)):=by
 have hk:q.length<D.opn.length:=by omega
 have ab:=QB N pb T D w q O pc L y i u.t hk hi;obtain⟨aI,aJ,hD⟩:=u.t.data hk hi;have R:=hD.long;have an:=hD.shift;have E:=hD.door;have I:=u.t.plan.ok;have hL:=u.t.lt;have aK:T<w.heap.size:=cF.lt_of_heap u.t.at_;have v:=u.t.free;have ac:∀j,q.length+1<=j->j<D.opn.length->fh D q.length≠fh D j:=λj m F=>K4 I hk F (by omega);have ao:∀j,j<D.opn.length->fh D j<5:=λj h=>K5 I h;have ad:∀s,s<6->rm (L s) (fh D q.length)=L s:=λs hs=>v s hs _ (cz _) hk;clear hD;generalize hd:fh D q.length=d at*;generalize hl:(dz D q.length).getD i []=l at*;have P:∀b,O=some ⟨b,0,none⟩->b<w.heap.size:=λb g=>by rcases u.t.own with⟨h,_,_⟩|⟨K,S,m,F,h3,_⟩;rw[h]at g;cases g;rw[m]at g;obtain rfl:K=b:=cM Addr.block (cE g);exact cF.lt_of_heap h3
 refine xK 9 V.func190 QC Tryz.ntmps190 (λa z da sa=>?_) (by simp);have s0:=sa 0 _ rfl;have s1:=sa 1 _ rfl;refine jU (QD _ a w T i z da s0 s1 (ab.mono ?_));rintro e w1 ⟨⟨bl,bt,bd,la,lc,A,ae,rfl,ap,aq,ar,au,av,aw,af,ax,ag,ah⟩,M⟩;refine⟨bl,bt,bd,rfl,λa1 z1 d1 ay=>?_⟩;have B:A=O\/∃b,w.heap.size<=b/\A=some ⟨b,0,none⟩:=ah.imp id λ⟨b,m,F,_⟩=>⟨b,m,F⟩;have C:∀b,b<w.heap.size->O≠some ⟨b,0,none⟩->A≠some ⟨b,0,none⟩:=λb g h e=>by rcases B with m|⟨c,hc,m⟩;exact h (m.symm.trans e);rw[m]at e;obtain rfl:c=b:=cM Addr.block (cE e);omega
 have az:gT N pb T D m0 j0 w1 (q++[i]) A ae (jz d l L) y s:=by
  refine⟨⟨u.t.plan.same λb g=>M.block b (u.t.sep b g).1 (λh=>h.elim (u.t.sep b g).2.1 (u.t.sep b g).2.2),λb g=>⟨dl (u.t.sep b g).1 M.size,(u.t.sep b g).2.1,C b (u.t.sep b g).1 (u.t.sep b g).2.2⟩,by simpa using ax,ag,CZ E hL,λx r j hj G=>?_,by simp;omega,λh=>by omega⟩,?_,u.cap.tape M.tape,cJ u.size M.size,cJ u.drawn M.drawn⟩;have aA:q.length+1<=j:=by simpa using hj
  unfold jz;split;exact Fe _ (hL x r) _ E _ (ao j G) (ac j aA G) (v x r j (by omega) G);exact v x r j (by omega) G;refine u.sched.move λb S fz g r=>⟨⟨g.1,g.2.1,C b (cF.lt_of_heap r) g.2.2⟩,(M.block b (cF.lt_of_heap r) λh=>h.elim g.2.1 g.2.2).trans r⟩
 refine QE _ a1 w1 T z1 ay ((hg N pb T D m0 j0 w1 (q++[i]) A ae (jz d l L) y s (by simp;omega) az).mono ?_);rintro e w2 ⟨rfl,U,J,L2,y2,p,ai,K2,aj⟩;refine⟨rfl,λa2 d2=>?_⟩;have aB:∀b,A=some ⟨b,0,none⟩->b<w1.heap.size:=λb g=>by rcases ag with⟨h,_,_⟩|⟨K,S,m,F,h3,_⟩;rw[h]at g;cases g;rw[m]at g;obtain rfl:K=b:=cM Addr.block (cE g);exact cF.lt_of_heap h3
 have W:∀{b:Nat} {o:Obj},w.heap.size<=b->(∀c,w.heap.size<=c->A=some ⟨c,0,none⟩->c≠b)->w1.heap[b]? =some o->w2.heap[b]? =some o:=λg aC ho=>K2.fg ho (by rintro(h|h);omega;rcases B with m|⟨c,hc,m⟩;rw[m]at h;have:=P _ h;omega;exact aC _ (by rw[m]at h;have:c=_:=cM Addr.block (cE h);omega) h rfl);have X:∀b,b=bl\/b=bt\/b=bd->∀c,w.heap.size<=c->A=some ⟨c,0,none⟩->c≠b:=λb g c hc h=>by rcases ah with m|⟨c',ak,m,n1,n2,n3⟩;rw[m]at h;have:=P _ h;omega;rw[m]at h;obtain rfl:c'=c:=cM Addr.block (cE h);rcases g with rfl|rfl|rfl;exact n1;exact n2;exact n3
 have al:=p.t.own;obtain⟨K,aL,e1,e2,e3,e4,e5,e6,e7⟩:∃K S,U=some ⟨K,0,none⟩/\T<K/\w2.heap[K]? =some (.cells S 3)/\S.size=J/\(q++[i]).length<=J/\J<2^63/\(∀k (h:k<(q++[i]).length),S[k]? =some (.int .i64 (q++[i])[k])):=by rcases al with⟨_,h,_⟩|h;simp at h;exact h
 have Y:=p.t.at_;rw[e1]at Y;have Z:∀j (h:j<l.length),∃lb,la=some ⟨lb,0,none⟩/\lb≠T/\w2.cell? ⟨lb,j,none⟩=some (.int .i64 l[j]):=λj hj=>by obtain⟨lb,m,F,h3,h4⟩:=af j hj;have aD:lb<w.heap.size:=tD h4;exact⟨lb,m,F,K2.ef (M.ef h4 λh=>h.elim F h3) λh=>h.elim F (C lb aD h3)⟩
 have am:(q++[i]).length=q.length+1:=by simp
 rw[am]at Y e5;have aE:=I.five;have aa:=Of pb T K q.length J bt bd bl d lc la L2 y2 l w2 .returning Y p.t.lt (W ap (X _ (.inl rfl)) au) (W aq (X _ (.inr (.inl rfl))) av) (W ar (X _ (.inr (.inr rfl))) aw) Z R an E e5 (by omega) e6;show Leaves V.prog _ a2.tmps _ a2.defers .returning w2;rw[d2,d1];refine leaves_cons (by simp) (f:=227) (args:=#[.pointer (some ⟨bl,0,none⟩),.pointer (some ⟨bt,0,none⟩),.pointer (some ⟨bd,0,none⟩)]) (by go_simp) (aa.mono ?_);rintro e u' w3 ⟨rfl,rfl,Q,aF⟩;show Leaves V.prog _ a2.tmps _ [] (settle .returning) w3;refine⟨undef,by simp[results,Tryz.results190,undef],rfl,U,J,nt d l L2,y2,?_,?_,?_,?_⟩;have aG:∀x,x<6->nt d l L2 x=L x:=λx r=>(xo (ai x r)).trans (Fg E hL ad x r);have aH:∀b,b<w.heap.size->O≠some ⟨b,0,none⟩->U≠some ⟨b,0,none⟩:=λb g h e=>by rcases aj with m|⟨c,hc,m⟩;exact C b g h (m.symm.trans e);rw[m]at e;obtain rfl:c=b:=cM Addr.block (cE e);have:=M.size;omega
 refine⟨⟨p.t.plan.same λb g=>Q.block b (p.t.sep b g).1 (p.t.sep b g).2.1,λb g=>⟨dl (p.t.sep b g).1 Q.size,(p.t.sep b g).2.1,(p.t.sep b g).2.2⟩,by rw[e1];exact aF,al.init.ext λb g r=>Q.block b g (by
  rw[e1]at r;obtain rfl:K=b:=cM Addr.block (cE r);omega),Ff E p.t.lt,λx r j hj G=>by rw[aG x r];exact v x r j hj G,by omega,λh=>by omega⟩,
  p.sched.move λb S fz g r=>⟨g,(Q.block b (cF.lt_of_heap r) g.2.1).trans r⟩,p.cap.tape Q.tape,cJ p.size Q.size,cJ p.drawn Q.drawn⟩
 exactλx r=>(xo (ai x r)).trans (Fg E hL ad x r);refine(M.trans K2 (H:=λb=>b=T\/O=some ⟨b,0,none⟩) (λ_ _ h=>h) λx r h=>?_).trans Q (λ_ _ h=>h) λ_ _ h=>.inl h;rcases h with h|h;exact .inl h;rcases B with m|⟨c,hc,m⟩;exact .inr (m.symm.trans h);rw[m]at h;have:c=x:=cM Addr.block (cE h);omega;rcases aj with m|⟨c,hc,m⟩;rcases B with F|⟨c',ak,F⟩;exact .inl (m.trans F);exact .inr ⟨c',ak,m.trans F⟩;exact .inr ⟨c,cJ M.size hc,m⟩
def wx{D:dR}{L a:Nat->Nat}(h:∀x,x<6->L x=a x)(b:List Nat):dX D L b=dX D a b:=by
 have:By L=By a:=by unfold By;rw[h 0 (by omega),h 1 (by omega),h 2 (by omega),h 3 (by omega),h 4 (by omega),h 5 (by omega)]
 unfold dX gH;rw[this]
theorem rQ{D:dR}:∀(n:Nat) {L L':Nat->Nat} (_:∀x,x<6->L x=L' x) (a:List Nat) (b:Sp),dS D n a L b=dS D n a L' b
 |0,L,L',h,a,b=>by simp only[dS];rw[wx h]
 |n+1,L,L',h,a,b=>by simp only[dS];congr 1;funext b i;exact rQ n (λx c=>by unfold jz;rw[h x c]) _ b
def F7{b:Type}(f:b->Nat->b)(a:b)(k:Nat):(List.range (k+1)).foldl f a=f ((List.range k).foldl f a) k:=by rw[kA,uf];rfl
theorem gT.ext{D:dR}{L:Nat->Nat}{y:SV}{s:Sp}(h:gT A m k D i j w l a o L y s)(c:Ext w t):gT A m k D i j t l a o L y s:=
 ⟨⟨h.t.plan.same λb d=>c.block b (h.t.sep b d).1,λb d=>⟨dl (h.t.sep b d).1 c.size,(h.t.sep b d).2⟩,c.at_ h.t.at_,h.t.own.ext λb d _=>c.block b d,h.t.lt,h.t.free,h.t.len,h.t.bare⟩,h.sched.ext c,h.cap.tape c.tape,cJ h.size c.size,cJ h.drawn c.drawn⟩
def z0{y:SV}(h:xI w m o y):∀j v,([.slice y.sa y.sl y.sc,.int .i64 y.m,.int .i64 y.k,.bool y.b]:List ce)[j]? =some v->w.cell? ⟨m,o+j,none⟩=some v:=by obtain⟨c,d,e,f⟩:=h;rintro(_|_|_|_|j) v a;cases a;exact c;cases a;exact d;cases a;exact e;cases a;exact f;simp at a
def xI.ext{y:SV}(h:xI w m o y)(e:Ext w t):xI t m o y:=⟨e.cell h.1,e.cell h.2.1,e.cell h.2.2.1,e.cell h.2.2.2⟩
def Og{L:Nat->Nat}(h:∀s,s<6->w.cell? ⟨m,2+s,none⟩=some (.int .u8 (L s))):∀j v,([.int .u8 (L 0),.int .u8 (L 1),.int .u8 (L 2),.int .u8 (L 3),.int .u8 (L 4),.int .u8 (L 5)]:List ce)[j]? =some v->w.cell? ⟨m,2+j,none⟩=some v:=by rintro(_|_|_|_|_|_|j) v a;cases a;exact h 0 (by omega);cases a;exact h 1 (by omega);cases a;exact h 2 (by omega);cases a;exact h 3 (by omega);cases a;exact h 4 (by omega);cases a;exact h 5 (by omega);simp at a
def H6(p:ce)(x y:SV)(w:cd):Calls V.prog 194 #[p,x.val,y.val] w (fy λv a=>v=.bool (gG x y)/\Ext w a):=
 (CV p x y w).mono λ_ _ ⟨h,b,d⟩=>⟨_,h,rfl,b.os,b.tape,b.output,b.size,d,b.block⟩
def K6:rP 0:=by
 intro N pb T D m0 G w i z H L y s hn q;have j:i.length=D.opn.length:=by omega
 have I:=q.t.plan.ok.five;obtain⟨t0,t1,t2,t3,t4⟩:=gZ q.t.at_;obtain⟨wk,u1,u2,J,_,K,M,af⟩:=q.t.plan.at_;have p1:w.cell? ⟨pb,1,none⟩=some u1:=by simp[World.cell?,K,dg]
 obtain⟨oa,oc,rfl⟩:=M.len;refine go V.func216 Tryz.ntmps216 ?_;refine cQ cO (cG t1 (jW (cG t0 (cG p1 (jW (Ja λA n=>iR (by simp[j]) ?_))))));have d:=q.ext n;have O:i=[]->z=none:=λh=>q.t.bare (by rw[<-j,h];rfl);refine cQ cO (cG (n.cell t0) (cG (n.cell t1) (dx (M4 L) (λB o=>dP (Og λs P=>o.cell (n.cell (t2 s P))) ⟨rfl,cO.refl _⟩) (.rel (C0 D L i G A) Fl (λB o=>?_) (Od ?_)))));refine ck (R:=λv r=>C0 D L i G A v r/\Ext B r) ((Hn N pb T D L i z H G B (d.t.plan.same λb c=>o.block b (d.t.sep b c).1) (λb c=>dl (d.t.sep b c).1 o.size) d.t.lt (d.t.own.ext λb c _=>o.block b c).UF O (by omega) (cJ d.drawn o.drawn)).mono ?_) λ_ _ h=>h;rintro e w' ⟨y,rfl,P,hc,c,hd⟩;exact⟨_,rfl,⟨y,rfl,cU.imp (λb _ _ c _=>cJ o.size c) P,hc⟩,c.os,c.tape,c.output,c.size,hd,c.block⟩;rintro B x2 _ ⟨C,rfl,Q,c⟩ _ ⟨x,rfl,S,U⟩;refine cZ c λr W X=>?_;have Y:r.heap[C]? =some (dO x):=X;have Z:=x2.cy W Q;have g:=d.ext Z;have k:cU (λb=>A.heap.size<=b/\b≠C) r (dX D L i) x:=(S.imp (o':=λb=>A.heap.size<=b/\b≠C) λb cs J h1 f=>⟨h1,by rintro rfl;rw[c]at f;injection f with f;injection f with _ f _;cases f⟩).grow λb cs J h1 f=>W.fg f h1.2;obtain⟨aa,_,_,ab,_⟩:=gZ g.t.at_;obtain⟨q0,q1,q2,q3,_⟩:=dM Y;have u:xI r C 0 x:=⟨q0,q1,q2,q3⟩;have ac:gG x y=lE (dX D L i) s:=k.better g.sched;have p:dS D 0 i L s=if gG x y=true then dX D L i else s:=by simp only[dS,lM,ac]
 rw[p];refine cQ cO (cG aa (dx x.val (λE F=>dP (z0 (u.ext F)) ⟨rfl,cO.refl _⟩) (dx y.val (λE F=>dP (z0 (ab.ext F)) ⟨rfl,cO.refl _⟩) (je _ (λE F=>H6 _ x y E) λE l=>⟨λht=>?_,λhf=>?_⟩))));rw[cx ht];refine dP (z0 (u.ext l)) (cZ (l.at_ g.t.at_) λw5 m ad=>?_);have a:=g.ext l;have ae:=d.t.own;have s1:=n.size;refine⟨rfl,z,H,L,x,⟨⟨a.t.plan.same λb c=>m.block b (a.t.sep b c).1 (a.t.sep b c).2.1,λb c=>⟨dl (a.t.sep b c).1 m.size,(a.t.sep b c).2⟩,?_,a.t.own.ext λb c f=>m.block b c ?_,a.t.lt,a.t.free,a.t.len,a.t.bare⟩,?_,?_,cJ a.size m.size,cJ a.drawn m.drawn⟩,λ_ _=>rfl,?_,.inl rfl⟩;rw[ad];simp[fT,Value.cells,dY];have:=(a.t.own.at_ f).2;omega;have ag:T<w.heap.size:=cF.lt_of_heap q.t.at_;exact k.move λb cs J c f=>⟨⟨cJ d.size c.1,by omega,λh=>by have:=(ae.at_ h).1;omega⟩,m.fg (l.at_ f) (by omega)⟩;exact((U.tape W.tape).tape l.tape).tape m.tape;exact((l.xn (Z.xn (n.keep _))).trans m (λ_ _ h=>h) λ_ _ h=>.inl h);rw[cr (by simp[hf])];exact⟨rfl,z,H,L,y,g.ext l,λ_ _=>rfl,l.xn (Z.xn (n.keep _)),.inl rfl⟩
def K8(n:Nat)(hg:rP n):rP (n+1):=by
 intro N q T D G H w a I pc L y s hn m;have r:a.length<D.opn.length:=by omega
 have J:=m.t.plan.ok.five;obtain⟨Z,t1,t2,t3,t4⟩:=gZ m.t.at_;obtain⟨wk,u1,u2,fz,_,u,K,M⟩:=m.t.plan.at_;have p1:w.cell? ⟨q,1,none⟩=some u1:=by simp[World.cell?,u,dg]
 have p2:w.cell? ⟨q,2,none⟩=some u2:=by simp[World.cell?,u,dg]
 obtain⟨oa,oc,rfl⟩:=K.len;have j:a.length<D.lists.length:=by rw[m.t.plan.ok.len];exact r
 obtain⟨lb,lc,lu,rfl,aa,O,z⟩:=M.at_ a.length j;have e1:D.lists[a.length]=dz D a.length:=pZ j rfl;rw[e1]at z;obtain⟨ra,rc,rfl⟩:=z.len;have P:(dz D a.length).length<=65536:=m.t.plan.ok.many _ (e1▸dt j);refine go V.func216 Tryz.ntmps216 ?_;refine cQ cO (cG t1 (jW (cG Z (cG p1 (jW (Ja λw1 o=>iG (by simp;omega) ?_))))));refine cQ cO (cG (o.cell Z) (cG (o.cell p2) (cG (o.cell t1) (jW (me a.length j (cG (o.cell (by rw[cB];exact O)) (jW λw2 x2=>?_)))))))
 refine ei (n:=(dz D a.length).length) (λk=>[(0,.pointer (some ⟨T,0,none⟩)),(59,.int .i64 (dz D a.length).length),(60,.int .i64 k)])
  (λk Q=>∃d g L' A,gT N q T D G H Q a d g L' A ((List.range k).foldl (λb i=>dS D n (a++[i]) (jz (fh D a.length) ((dz D a.length).getD i []) L) b) s)/\(∀s,s<6->L' s=L s)/\
   cN (λb=>b=T\/I=some ⟨b,0,none⟩) w Q/\(d=I\/∃b,w.heap.size<=b/\d=some ⟨b,0,none⟩)) ⟨⟨rfl,rfl,rfl,trivial⟩,I,pc,L,y,(m.ext o).ext x2,λ_ _=>rfl,x2.xn (o.keep _),.inl rfl⟩ ?_ ?_ ?_
 intro k Q _ hJ;exact cV ⟨rfl,rfl,⟨rfl,rfl,rfl,trivial⟩,hJ⟩;rintro k w3 hk ⟨d,g,L',A,S,C,E,f⟩;refine ck (R:=λ_ F=>Fh N q T D G H w3 a d L' (dS D n (a++[k]) (jz (fh D a.length) ((dz D a.length).getD k []) L') ((List.range k).foldl (λb i=>dS D n (a++[i]) (jz (fh D a.length) ((dz D a.length).getD i []) L) b) s)) (.returned undef) F) ((F6 n hg N q T D G H w3 a d g L' A _ k hn S hk).mono λe F U=>⟨_,U.1,U.1▸U⟩) ?_;rintro v F ⟨_,W,X,L2,y2,g1,g2,g3,p⟩;refine cq ⟨⟨rfl,rfl,rfl,trivial⟩,W,X,L2,y2,?_,λx B=>(g2 x B).trans (C x B),?_,?_⟩;rw[F7];rw[rQ n (L:=jz (fh D a.length) ((dz D a.length).getD k []) L') (L':=jz (fh D a.length) ((dz D a.length).getD k []) L) (λx B=>by unfold jz;rw[C x B])]at g1;exact g1;refine E.trans g3 (λ_ _ h=>h) λx B l=>?_;rcases l with l|l;exact .inl l;rcases f with f|⟨c,Y,f⟩;exact .inr (f.symm.trans l);rw[f]at l;have:c=x:=cM Addr.block (cE l);omega;rcases p with p|⟨c,Y,p⟩;rcases f with f|⟨c,Y,f⟩;exact .inl (p.trans f);exact .inr ⟨c,Y,p.trans f⟩;exact .inr ⟨c,by have:=E.size;omega,p⟩;rintro F ⟨d,g,L',A,S,C,E,f⟩;exact⟨rfl,d,g,L',A,S,C,E,f⟩
theorem wz:∀n,rP n
 |0=>K6
 |n+1=>K8 n (wz n)
def Oh:Nf:=λN c T D d e w a f g L y s b=>wz (D.opn.length-a.length) N c T D d e w a f g L y s (by have:=b.t.len;omega) b
def Oi:Fi:=λN b T D c d w a e f L y s i g j h=>F6 (D.opn.length-a.length-1) (wz _) N b T D c d w a e f L y s i (by omega) g h
end Go.Proofs.W
namespace Go.Proofs.W
open Go.Conc Go.cF Go.cF.Cr Go.RowKit
noncomputable def fK:Array Oper:=#[{dst:=some 2,op:=Op.move (.const (.bool true)),type:=4,pos:= "",after:=#[],guard:=none},{dst:=some 2,op:=Op.move (.const (.bool false)),type:=4,pos:= "",after:=#[],guard:=none}]
noncomputable def lQ:Code:=match V.xX with
 | .seq _ (.seq _ r)=>r
 |_=>.skip
noncomputable def ig(a:Array ce):Act:=(fR a).put (some 1) (.func (.func 227) #[] (mw a))
def K9{b:Array Oper}{Q:Exit->Act->cd->Prop}{o:Oper}{a:Act}{K:Act->cd->Prop}(v:ce)(c:b[i]? =some o)(d:o.guard=none)(e:(execOp a.eval o).run P w=.halt (.panic v) t)(h:Q (.panic [{v,recovered:=false}]) a t):wpOp P b Q i K a w:=by
 have f:Region.wanted o (yielded b a.tmps)=true:=by simp[Region.wanted,d]
 unfold wpOp;rw[c];simp only[f,cX];refine .inl ?_;unfold Oper.wp;rw[e];exact h
def F8{R:Ending->cd->Prop}(t:Nat)(C:w.tape w.drawn (.order 163 1)=t) (h:wpOps V.prog fK (Exit.then (lQ.wp V.prog (bodyPost V.prog V.f163 R)) (bodyPost V.prog V.f163 R)) (Region.schedule (V.prog.follows .mixedOrders) fK t) (ig W) w.drew):Calls V.prog 163 W w R:=by
 intro cs;let b:Frame:={(default:Frame)with fn:=163,kind:=.normal};have m:Frame.enter V.prog 163 W .normal=b.at ⟨W++Array.replicate (9-W.size) undef,[]⟩ [.code V.xX]:=by simp[Frame.enter,Frame.at,V.func163,V.f163,b]
 have D:(Code.region 0 #[{dst:=some 9,op:=Op.move (.const (.bool true)),type:=4,pos:= "",after:=#[],guard:=none},{dst:=some 1,op:=Op.makeFunc (.func 227) #[] #[.tmp 0,.tmp 1,.tmp 2,.tmp 3,.tmp 4,.tmp 5,.tmp 6,.tmp 7,.tmp 8,.tmp 9],type:=0,pos:= "",after:=#[],guard:=none}] false).wp V.prog
  (λe a w'=>e=.normal/\a=ig W/\w'=w) ⟨W++Array.replicate (9-W.size) undef,[]⟩ w:=by
  refine ow ?_;show wpOps _ _ _ [0,1] _ _;rw[wpOps_cons];refine jg (w':=w) (o:={dst:=some 9,op:=Op.move (.const (.bool true)),type:=4,pos:= "",after:=#[],guard:=none}) (.bool true) rfl rfl (by go_simp) ?_;rw[wpOps_cons];refine jg (w':=w) (o:={dst:=some 1,op:=Op.makeFunc (.func 227) #[] #[.tmp 0,.tmp 1,.tmp 2,.tmp 3,.tmp 4,.tmp 5,.tmp 6,.tmp 7,.tmp 8,.tmp 9],type:=0,pos:= "",after:=#[],guard:=none}) (.func (.func 227) #[] (mw W)) rfl rfl ?_ ⟨rfl,rfl,rfl⟩;have x:∀j:dj->ce,(execOp j {dst:=some 1,op:=Op.makeFunc (.func 227) #[] #[.tmp 0,.tmp 1,.tmp 2,.tmp 3,.tmp 4,.tmp 5,.tmp 6,.tmp 7,.tmp 8,.tmp 9],type:=0,pos:= "",after:=#[],guard:=none}).run V.prog w=.ok (.value (.func (.func 227) #[] #[j (.tmp 0),j (.tmp 1),j (.tmp 2),j (.tmp 3),j (.tmp 4),j (.tmp 5),j (.tmp 6),j (.tmp 7),j (.tmp 8),j (.tmp 9)])) w:=by intro j;go_simp;try rfl
  exact x _
 obtain⟨O,Q,n,⟨rfl,rfl,rfl⟩,E⟩:=D b (.code (.seq (.region 1 fK true) lQ)::[]) cs;have F:Steps V.prog (lone (Frame.enter V.prog 163 W .normal) cs n) (lone (b.at (ig W) [.code (.seq (.region 1 fK true) lQ)]) cs n):=by rw[m];exact .head step_seq E
 have G:Steps V.prog (lone (Frame.enter V.prog 163 W .normal) cs n) (lone (b.at (ig W) [.inRegion fK (Region.schedule (V.prog.follows .mixedOrders) fK t),.code lQ]) cs n.drew):=by refine F.trans (.head step_seq (.one ?_));have:=step_region_draw (P:=V.prog) (b:=b) (a:=ig W) (k:=[.code lQ]) (cs:=cs) (w:=n) (ops:=fK) (id:=1);rw[show n.tape n.drawn (.order b.fn 1)=t from C]at this;exact this
 have f:∀(k:List Item) (e:Exit) (a:Act) (w':cd),(e=.normal->k=[])->bodyPost V.prog V.f163 R e a w'->Arrives V.prog (lone (Frame.enter V.prog 163 W .normal) cs n) b k cs e a w'->∃e w' y,R e w'/\Go.Comes V.prog (lone (Frame.enter V.prog 163 W .normal) cs n) (lone y cs w') e/\y.fn=163/\y.leaving V.prog w' e:=by
  intro k e a w' H g d;cases e with
  |normal=>
   obtain rfl:=H rfl;obtain⟨p,v,z,q⟩:=g;exact⟨.returned v,w',_,q,Steps.trans d (.one step_end),rfl,rfl,p,rfl,V.f163,V.func163,z⟩
  |ret=>
   obtain⟨p,v,z,q⟩:=g;obtain⟨r,A⟩:=d;exact⟨.returned v,w',_,q,A,rfl,rfl,p,rfl,V.f163,V.func163,z⟩
  |panic c=>
   obtain⟨p,q⟩:=g;obtain⟨r,A⟩:=d;exact⟨.panicked c,w',_,q,A,rfl,rfl,p,V.f163,V.func163⟩
  |exit id=>exact g.elim
  |goto l=>exact g.elim
  |outgrown=>exact⟨.outgrown,w',b,g,d.resolve_left (by simp[b]),rfl,trivial⟩
 obtain⟨I,s,u,g,J⟩:=wp_ops _ _ _ h b [.code lQ] cs;have i:=Arrives.of_steps G J;cases I with
 |normal=>
  obtain⟨K,L,M,B,N⟩:=g b [] cs;exact f [] K L M (λ_=>rfl) B (Arrives.of_steps i N)
 |ret=>exact f _ .ret s u (λh=>by cases h) g i
 |panic c=>exact f _ (.panic c) s u (λh=>by cases h) g i
 |exit id=>exact f _ (.exit id) s u (λh=>by cases h) g i
 |goto l=>exact f _ (.goto l) s u (λh=>by cases h) g i
 |outgrown=>exact f _ .outgrown s u (λh=>by cases h) g i
def Tv:Region.schedule (V.prog.follows .mixedOrders) fK 1=[1,0]:=by kernel_rfl
def Tw:Region.schedule (V.prog.follows .mixedOrders) fK 0=[0,1]:=by kernel_rfl
def Ju(b:Array ce)(w:cd)(h:Region.schedule (V.prog.follows .mixedOrders) fK (w.tape w.drawn (.order 163 1))=[1,0]):Calls V.prog 163 b w λe w'=>e=.panicked iL/\w'=w.drew.alloc (rO (mw b)):=by
 refine F8 _ rfl ?_;rw[h];rw[wpOps_cons];refine jg (w':=w.drew) (o:={dst:=some 2,op:=Op.move (.const (.bool false)),type:=4,pos:= "",after:=#[],guard:=none}) (.bool false) rfl rfl (by go_simp) ?_;rw[wpOps_cons];refine jg (w':=w.drew) (o:={dst:=some 2,op:=Op.move (.const (.bool true)),type:=4,pos:= "",after:=#[],guard:=none}) (.bool true) rfl rfl (by go_simp) ?_;have k:10<=(ig b).tmps.size\/(ig b).tmps.size=9:=by
  have:(ig b).tmps.size=b.size+(9-b.size):=by unfold ig fR;rw[lZ,lZ];simp
  omega
 have l:9<=(ig b).tmps.size:=by omega
 obtain⟨a,i⟩:∃a,a=((ig b).put (some 2) (.bool false)).put (some 2) (.bool true):=⟨_,rfl⟩;have m:a.eval (.tmp 2)=.bool true:=by rw[i,uD _ _ _ (by rw[lZ];omega)]
 have n:a.eval (.tmp 1)=.func (.func 227) #[] (mw b):=by
  rw[i,pI _ _ _ _ (by simp),pI _ _ _ _ (by simp)];exact uD _ _ _ (by
   have:(fR b).tmps.size=b.size+(9-b.size):=by unfold fR;rw[lZ];simp
   omega)
 have p:a.defers=[]:=by rw[i];rfl
 have q:9<=a.tmps.size:=by rw[i,lZ,lZ];exact l
 show Code.wp V.prog lQ _ (((ig b).put (some 2) (.bool false)).put (some 2) (.bool true)) w.drew;rw[<-i];clear i;show Code.wp V.prog (Code.seq (Code.cond (.tmp 2) _ .skip) _) _ a w.drew;refine jU (wp_cond_true m (jU (ow ?_)));show wpOps _ _ _ [0] _ _;rw[wpOps_cons];refine jg (w':=w.drew.alloc (rO (mw b))) (o:={dst:=some 3,op:=Op.box 200 (.tmp 1),type:=0,pos:= "",after:=#[],guard:=none}) (.pointer (some ⟨w.drew.heap.size,0,none⟩)) rfl rfl ?_ ?_;have c:∀(o:Oper) (f:dj->ce),o.op=Op.box 200 (.tmp 1)->f (.tmp 1)=.func (.func 227) #[] (mw b)->(execOp f o).run V.prog w.drew=.ok (.value (.pointer (some ⟨w.drew.heap.size,0,none⟩))) (w.drew.alloc (rO (mw b))):=by rintro⟨d,op,t,r,s,g⟩ f rfl j;generalize mw b=u at j⊢;unfold rO;go_simp
 exact c _ _ rfl n;refine ow ?_;show wpOps _ _ _ [0] _ _;rw[wpOps_cons];have c:∀f:dj->ce,f (.const (.iface 3 (.int .i64 7)))=.iface 3 (.int .i64 7)->(execOp f {dst:=none,op:=Op.panic (.const (.iface 3 (.int .i64 7))),type:=0,pos:= "",after:=#[],guard:=none}).run V.prog (w.drew.alloc (rO (mw b)))=.halt (.panic (.iface 3 (.int .i64 7))) (w.drew.alloc (rO (mw b))):=by intro f j;go_simp
 exact K9 (o:={dst:=none,op:=Op.panic (.const (.iface 3 (.int .i64 7))),type:=0,pos:= "",after:=#[],guard:=none}) _ rfl rfl (c _ rfl) ⟨by rw[tA,p],rfl,rfl⟩
def La(a:Nat)(w:cd):(Instr.build 245 #[(0,.pointer (some ⟨a,0,none⟩))]).run V.prog w=.ok (.agg (jp ⟨a,0,none⟩)) w:=by kernel_rfl
def Oj(N:Nat->Prop)(f:Nat)(D:dR)(w:cd)(Q:eV N f D w)(L:∀b,N b->b<w.heap.size)(h:Region.schedule (V.prog.follows .mixedOrders) fK (w.tape w.drawn (.order 163 1))=[0,1]):Calls V.prog 163 #[.pointer (some ⟨f,0,none⟩)] w (λe w'=>zZ D w e w'/\Ext w w'):=by
 refine F8 _ rfl ?_;rw[h];rw[wpOps_cons];refine jg (w':=w.drew) (o:={dst:=some 2,op:=Op.move (.const (.bool true)),type:=4,pos:= "",after:=#[],guard:=none}) (.bool true) rfl rfl (by go_simp) ?_;rw[wpOps_cons];refine jg (w':=w.drew) (o:={dst:=some 2,op:=Op.move (.const (.bool false)),type:=4,pos:= "",after:=#[],guard:=none}) (.bool false) rfl rfl (by go_simp) ?_;have J:(fR #[.pointer (some ⟨f,0,none⟩)]).tmps.size=9:=by unfold fR;rw[lZ];simp
 obtain⟨a,H⟩:∃a,a=((ig #[.pointer (some ⟨f,0,none⟩)]).put (some 2) (.bool true)).put (some 2) (.bool false):=⟨_,rfl⟩;have R:a.tmps.size=9:=by rw[H,lZ,lZ];unfold ig;rw[lZ,J]
 have S:a.eval (.tmp 2)=.bool false:=by rw[H,uD _ _ _ (by rw[lZ];unfold ig;rw[lZ,J];decide)]
 have T:a.eval (.tmp 0)=.pointer (some ⟨f,0,none⟩):=by rw[H,pI _ _ _ _ (by simp),pI _ _ _ _ (by simp)];unfold ig;rw[pI _ _ _ _ (by simp)];unfold fR;rw[pI _ _ _ _ (by simp)];rfl
 have U:a.defers=[]:=by rw[H];rfl
 show Code.wp V.prog lQ _ (((ig _).put (some 2) (.bool true)).put (some 2) (.bool false)) w.drew;rw[<-H];clear H;show Code.wp V.prog (Code.seq (Code.cond (.tmp 2) _ .skip) _) _ a w.drew;refine jU (wp_cond_false S (wp_skip ?_));refine jU (ow ?_);show wpOps _ _ _ [0] _ _;rw[wpOps_cons];refine jg (w':=w.drew) (o:={dst:=some 3,op:=Op.build 245 #[(0,.tmp 0)],type:=245,pos:= "",after:=#[],guard:=none}) (.agg (jp ⟨f,0,none⟩)) rfl rfl ?_ ?_;have i:=La f w.drew;have d:∀c:dj->ce,c (.tmp 0)=.pointer (some ⟨f,0,none⟩)->(execOp c {dst:=some 3,op:=Op.build 245 #[(0,.tmp 0)],type:=245,pos:= "",after:=#[],guard:=none}).run V.prog w.drew=.ok (.value (.agg (jp ⟨f,0,none⟩))) w.drew:=by intro c I;simp[execOp,I,i,Result.andThen]
 exact d _ T;show wpOps _ _ _ [] (a.put (some 3) _) _;obtain⟨A,n⟩:∃A,A=a.put (some 3) (.agg (jp ⟨f,0,none⟩)):=⟨_,rfl⟩;have W:A.tmps.size=9:=by rw[n,lZ,R]
 have X:A.defers=[]:=by rw[n,tA,U]
 have Y:A.eval (.tmp 3)=.agg (jp ⟨f,0,none⟩):=by rw[n,uD _ _ _ (by omega)]
 rw[<-n];clear n;show Code.wp V.prog (Code.seq _ _) _ A w.drew;refine jU (ow ?_);show wpOps _ _ _ [0] _ _;rw[wpOps_cons];obtain⟨p,x⟩:∃p,p=w.drew.alloc (dY f none 0 0 L0 P6):=⟨_,rfl⟩;refine jg (w':=p) (o:={dst:=some 4,op:=Op.box 245 (.tmp 3),type:=0,pos:= "",after:=#[],guard:=none}) (.pointer (some ⟨w.heap.size,0,none⟩)) rfl rfl ?_ ?_;have d:∀c:dj->ce,c (.tmp 3)=.agg (jp ⟨f,0,none⟩)->(execOp c {dst:=some 4,op:=Op.box 245 (.tmp 3),type:=0,pos:= "",after:=#[],guard:=none}).run V.prog w.drew=.ok (.value (.pointer (some ⟨w.heap.size,0,none⟩))) p:=by intro c I;rw[x,<-KX];generalize jp ⟨f,0,none⟩=Z at I⊢;go_simp
 exact d _ Y;show wpOps _ _ _ [] (A.put (some 4) _) _;obtain⟨B,q⟩:∃B,B=A.put (some 4) (.pointer (some ⟨w.heap.size,0,none⟩)):=⟨_,rfl⟩;have z2:B.tmps.size=9:=by rw[q,lZ,W]
 have d2:B.defers=[]:=by rw[q,tA,X]
 have O:B.eval (.tmp 4)=.pointer (some ⟨w.heap.size,0,none⟩):=by rw[q,uD _ _ _ (by omega)]
 rw[<-q];clear q;have g:Ext w p:=by rw[x];exact(Ext.drew w).trans (Ext.alloc _ _)
 have B1:p.heap[w.heap.size]? =some (dY f none 0 0 L0 P6):=by rw[x];exact eU w.drew _
 have hS:gT N f w.heap.size D w.heap.size w.drawn p [] none 0 L0 P6 none:=
  ⟨⟨Q.same λb i=>g.block b (L b i),λb i=>⟨dl (L b i) g.size,by have:=L b i;omega,by simp⟩,B1,.inl ⟨rfl,rfl,rfl⟩,λs _=>by simp[L0],λs _ j _ _=>BU _,fN _,λ_=>rfl⟩,rfl,(λl m k h=>by cases h),g.size,g.drawn⟩
 clear x;show Code.wp V.prog (Code.seq _ _) _ B p;refine jU (ow ?_);show wpOps _ _ _ [0] _ _;rw[wpOps_cons];refine zf (o:={dst:=some 5,op:=Op.call {callee:=.value (.func 216),args:=#[.tmp 4],argTypes:=#[243]},type:=0,pos:= "",after:=#[],guard:=none}) 216 #[.pointer (some ⟨w.heap.size,0,none⟩)] rfl rfl ?_ ((Oh N f w.heap.size D w.heap.size w.drawn p [] none 0 L0 P6 none hS).mono ?_);have d:∀c:dj->ce,c (.tmp 4)=.pointer (some ⟨w.heap.size,0,none⟩)->c (.func 216)=.func (.func 216) #[] #[]->(execOp c {dst:=some 5,op:=Op.call {callee:=.value (.func 216),args:=#[.tmp 4],argTypes:=#[243]},type:=0,pos:= "",after:=#[],guard:=none}).run V.prog p=.ok (.enter 216 #[.pointer (some ⟨w.heap.size,0,none⟩)]) p:=by intro c I q1;go_simp
 exact d _ O rfl;rintro e v ⟨rfl,aa,ab,L2,E,y,_,F,_⟩;refine .inl ⟨_,rfl,?_⟩;have G:dS D (D.opn.length-([]:List Nat).length) [] L0 none=gm D:=rfl;rw[G]at y;obtain⟨_,_,_,⟨y0,y1,ac,y3⟩,_⟩:=gZ y.t.at_;show wpOps _ _ _ [] (B.put (some 5) _) _;obtain⟨C,r⟩:∃C,C=B.put (some 5) undef:=⟨_,rfl⟩;have z3:C.tmps.size=9:=by rw[r,lZ,z2]
 have d3:C.defers=[]:=by rw[r,tA,d2]
 have M:C.eval (.tmp 4)=.pointer (some ⟨w.heap.size,0,none⟩):=by rw[r,pI _ _ _ _ (by simp),O]
 rw[<-r];clear r;show Code.wp V.prog (Code.seq _ _) _ C v;refine jU (ow ?_);show wpOps _ _ _ [0] _ _;rw[wpOps_cons];refine jg (w':=v) (o:={dst:=some 6,op:=Op.fieldAddr 245 (.tmp 4) 3,type:=0,pos:= "",after:=#[],guard:=none}) (.pointer (some ⟨w.heap.size,8,none⟩)) rfl rfl ?_ ?_;have d:∀c:dj->ce,c (.tmp 4)=.pointer (some ⟨w.heap.size,0,none⟩)->(execOp c {dst:=some 6,op:=Op.fieldAddr 245 (.tmp 4) 3,type:=0,pos:= "",after:=#[],guard:=none}).run V.prog v=.ok (.value (.pointer (some ⟨w.heap.size,8,none⟩))) v:=by intro c I;go_simp
 exact d _ M;show wpOps _ _ _ [] (C.put (some 6) _) _;obtain⟨z,u⟩:∃z,z=C.put (some 6) (.pointer (some ⟨w.heap.size,8,none⟩)):=⟨_,rfl⟩;have z4:z.tmps.size=9:=by rw[u,lZ,z3]
 have d4:z.defers=[]:=by rw[u,tA,d3]
 have e6:z.eval (.tmp 6)=.pointer (some ⟨w.heap.size,8,none⟩):=by rw[u,uD _ _ _ (by omega)]
 rw[<-u];clear u;show Code.wp V.prog (Code.seq _ Code.ret) _ z v;refine jU (ow ?_);show wpOps _ _ _ [0] _ _;rw[wpOps_cons];refine jg (w':=v) (o:={dst:=some 7,op:=Op.load 199 (.tmp 6),type:=199,pos:= "",after:=#[],guard:=none}) E.val rfl rfl ?_ ?_;have d:∀c:dj->ce,c (.tmp 6)=.pointer (some ⟨w.heap.size,8,none⟩)->(execOp c {dst:=some 7,op:=Op.load 199 (.tmp 6),type:=199,pos:= "",after:=#[],guard:=none}).run V.prog v=.ok (.value E.val) v:=by intro c I;simp only[SV.val];go_simp
 exact d _ e6;show wpOps _ _ _ [] (z.put (some 7) _) _;show Code.wp V.prog Code.ret _ (z.put (some 7) E.val) v;have K:∀b,b<w.heap.size->v.heap[b]? =w.heap[b]? :=by intro b i;rw[F.block b (dl i g.size) (by rintro(h|h);omega;cases h),g.block b i]
 refine wp_ret ⟨by rw[tA,d4],E.val,?_,⟨E,rfl,?_,y.cap,K,?_⟩,⟨F.os.trans g.os,F.tape.trans g.tape,F.output.trans g.output,cJ g.size F.size,cJ g.drawn F.drawn,K⟩⟩;have P:(z.put (some 7) E.val).eval (.tmp 7)=E.val:=uD _ _ _ (by omega);rw[kH]at P;simp[results,V.f163,P];exact y.sched.move λb Z fz i hx=>⟨i.1,hx⟩;rw[F.tape,g.tape]
def Tx(a:Array ce)(w:cd)(h:w.tape w.drawn (.order 163 1)=1):Calls V.prog 163 a w λe b=>e=.panicked iL/\b=w.drew.alloc (rO (mw a)):=Ju a w (by rw[h];exact Tv)
def UY(N:Nat->Prop)(a:Nat)(D:dR)(w:cd)(c:eV N a D w)(d:∀b,N b->b<w.heap.size)(h:w.tape w.drawn (.order 163 1)=0):Calls V.prog 163 #[.pointer (some ⟨a,0,none⟩)] w (zZ D w):=(Oj N a D w c d (by rw[h];exact Tw)).mono λ_ _ h=>h.1
def Lb(t:Nat):Region.schedule (V.prog.follows .mixedOrders) fK t=[0,1]\/Region.schedule (V.prog.follows .mixedOrders) fK t=[1,0]:=by
 have d:Region.departs fK=false:=by kernel_rfl
 have e:Region.schedule (V.prog.follows .mixedOrders) fK t=Region.linearise .any fK t:=by unfold Region.schedule;rw[d];simp
 rw[e]
 have b:∀(n t:Nat) (L:Array Bool) (a:List Nat) (c:List Nat),((List.range fK.size).filter λi=>!L.getD i true&&((fK[i]?).map (·.after.all λe=>!Region.binds .any e||L.getD e.on false)).getD false)=c->Region.linearise.go .any fK (n+1) t L a=match c[t%c.length]? with
  |some i=>Region.linearise.go .any fK n (t/c.length) (L.setIfInBounds i true) (i::a)
  |none=>a.reverse:=by
  intro n t L a c h;subst h;rfl
 show Region.linearise.go .any fK 2 t #[false,false] []=_\/Region.linearise.go .any fK 2 t #[false,false] []=_;rw[b 1 t #[false,false] [] [0,1] (by kernel_rfl)];rcases(show t%2=0\/t%2=1 by omega)with h|h;have:([0,1]:List Nat)[t%([0,1]:List Nat).length]? =some 0:=by show([0,1]:List Nat)[t%2]? =some 0;rw[h];rfl
 simp only[this];rw[b 0 _ (#[false,false].setIfInBounds 0 true) [0] [1] (by kernel_rfl)];have:([1]:List Nat)[t/([0,1]:List Nat).length%([1]:List Nat).length]? =some 1:=by show([1]:List Nat)[t/2%1]? =some 1;rw[Nat.mod_one];rfl
 simp only[this];exact .inl rfl;have:([0,1]:List Nat)[t%([0,1]:List Nat).length]? =some 1:=by show([0,1]:List Nat)[t%2]? =some 1;rw[h];rfl
 simp only[this];rw[b 0 _ (#[false,false].setIfInBounds 1 true) [1] [0] (by kernel_rfl)];have:([0]:List Nat)[t/([0,1]:List Nat).length%([0]:List Nat).length]? =some 0:=by show([0]:List Nat)[t/2%1]? =some 0;rw[Nat.mod_one];rfl
 simp only[this];exact .inr rfl
def Lc:BV:=⟨Tx,UY,λN a D w b c d=>Qx Oi N a D w b c d⟩
end Go.Proofs.W
variable{H N:Go.Proofs.W.Gd}{M Y:List ce}
namespace Go.Proofs.W
open Go.RowKit
def qa(R:ce->cd->Prop):Ending->cd->Prop:=λe w=>(∃v,e=.returned v/\R v w)\/(e=.panicked iL/\R2 w)
def qa.of{R:ce->cd->Prop}(h:Calls V.prog K W w (fy R)):Calls V.prog K W w (qa R):=h.mono λe w h=>.inl h
def fG{k:ce->cd->Prop}{R:ce->cd->Prop}{b:List PanicEntry->cd->Prop}(g:Calls V.prog K M.toArray w (qa R))(i:∀a,R2 a->b iL a)(h:∀v a,R v a->k v a)(c:∀f w,Sem.run V.prog (callFunc K f) w=.ok (.enter K f) w:=by intro _ _;kernel_rfl):P9 V.prog K M w k b:=by refine⟨c,g.mono ?_⟩;rintro e a (⟨v,rfl,d⟩|⟨rfl,d⟩);exact h v a d;exact i a d
def Ol(a:Addr):mw #[.pointer (some a)]=rN (.pointer (some a)):=by rfl
def F9{D:dR}(c:eV A m D w)(a:∀b,A b->b<w.heap.size):Calls V.prog 163 #[cK m] w (qa λv w'=>Ext w w'/\∃y:SV,v=y.val/\cU (λb=>w.heap.size<=b) w' (gm D) y):=by rcases Lb (w.tape w.drawn (.order 163 1))with h|h;refine(Oj A m D w c a h).mono ?_;rintro e w' ⟨⟨y,rfl,d,_⟩,f⟩;exact .inl ⟨_,rfl,f,y,rfl,d⟩;refine(Ju _ w h).mono ?_;rintro e w' ⟨rfl,rfl⟩;refine .inr ⟨rfl,m,w.heap.size,D,A,?_,?_,eV.same (w:=w) (w':=w.drew.alloc (rO (mw #[cK m]))) (λb g=>alloc_old w.drew _ (a b g)) c,a⟩;rw[<-Ol];exact eU w.drew _;exact World.size_alloc _ _
def R5:Sp->Int
 |none=>0
 |some (_,m,_)=>m
def uV(D:dR):Int×Bool:=(R5 (gm D),(gm D).isSome)
def Ga{s:Sp}{y:SV}(h:cU A w s y):∃a l c n,y.val=.agg #[.slice a l c,.int .i64 (R5 s),.int .i64 n,.bool s.isSome]:=by
 cases s with
 |none=>
  have h:y=⟨none,0,0,0,0,false⟩:=h;subst h;exact⟨none,0,0,0,rfl⟩
 |some s=>
  obtain⟨l,m,n⟩:=s;obtain⟨f,g,i,k,j,o⟩:=y;obtain⟨b,d,e,p,q⟩:=h;simp only at b d e;subst b d e;exact⟨f,g,i,j,rfl⟩
def Ld{wp gp mk ms n0:Nat}{f:List Sx}(h:kU wp gp mk ms H f I w)(p:∀b,A b->b<w.heap.size)(q:ku A mk ms H w)(g:n0<=mk)(r:n0<=ms)(i:∀x∈f,tZ 100000 x)(s:m<=fB H):
 Calls V.prog 116 #[cK wp,.int .i64 m] w (qa λv o=>MA n0 mk ms H A w o/\v=.tuple #[.int .i64 (uV (iU H f m)).1,.bool (uV (iU H f m)).2]):=by
 refine go V.func116 Tryz.ntmps116 ?_;refine ck (zS h p q g r i s) ?_;rintro v t ⟨u,L,rfl,z⟩;refine fG (F9 z λb j=>by obtain⟨_,_,_,_,j⟩:=j;exact cF.lt_of_heap j) (λo h=>.inr ⟨rfl,h⟩) ?_;rintro v M ⟨B,y,rfl,C⟩;obtain⟨a,l,c,n,D⟩:=Ga C;rw[D];refine eF λN O E k d=>cZ d λF G e=>?_;have J:Ext t F:=B.trans (E.cy G k);refine cQ cO (cG (ci e rfl) (cG (ci e rfl) λP K=>.inl ⟨_,rfl,(xP n0 mk ms H A).trans _ _ _ u ((J.trans K).ma _ _ _ _ _),rfl⟩))
def Lf{b:List Sx}(h:∀x∈b,tZ k x)(d:Nat):∀x∈leave1 b d,tZ k x:=λx a=>by unfold leave1 at a;split at a;rename_i y c;rcases oS a with a|rfl;exact h x a;exact h y (nR c);exact h x a
theorem BX:∀{l:List Nat} {xs:List Sx},(∀x∈xs,tZ k x)->∀x∈jb xs l,tZ k x
 |[],xs,h=>h
 |d::r,xs,h=>BX (l:=r) (xs:=leave1 xs d) (Lf h d)
def MA.mf{n0 mk ms:Nat}(h:MA n0 mk ms H B w t):MF A n0 mk ms H B w t:=⟨h.1.os,h.1.tape,h.1.output,h.1.size,h.1.drawn,λx o _ a b=>h.1.block x o a b,λ_ c=>h.2 c⟩
structure LB(wp gp mk ms n0:Nat)(G:Gd)(xs:List Sx)(before:Int)(from_:Nat)(canv:Int)(wb fb ob cb:Nat)(A:Nat->Prop)(w:cd):Prop where
 h:kU wp gp mk ms G xs before w
 p:ku A mk ms G w
 a:∀b,A b->b<w.heap.size
 b1:w.heap[wb]? =some (.cells #[cK wp] 133)
 b2:w.heap[fb]? =some (.cells #[.int .i64 from_] 3)
 b4:w.heap[cb]? =some (.cells #[.int .i64 canv] 3)
 off:∀w',(∀b cs t fz,b≠ob->w.heap[b]? =some (.cells cs t fz)->w'.heap[b]? =some (.cells cs t fz))->w.heap.size<=w'.heap.size->kU wp gp mk ms G xs before w'
 nob:wb≠ob/\fb≠ob/\cb≠ob
 ao:A ob
def LB.mf{wp gp mk ms n0:Nat}{f:List Sx}(h:LB wp gp mk ms n0 H f I m J k i j o A w)(e:MF (λx=>x=j) n0 mk ms H A w t):LB wp gp mk ms n0 H f I m J k i j o A t:=
 ⟨h.off t (λb g l n c d=>e.at_ c d) e.size,e.m h.a h.p,λb c=>dl (h.a b c) e.size,e.at_ h.nob.1 h.b1,e.at_ h.nob.2.1 h.b2,e.at_ h.nob.2.2 h.b4,λq r s=>h.off q (λb g l n c d=>r b g l n c (e.at_ c d)) (cJ e.size s),h.nob,h.ao⟩
def tO(G:Gd)(c:List Sx)(a:Nat)(b:Int)(l:List Nat):Bool:=(uV (iU G (jb c l) a)).2&&decide ((uV (iU G (jb c l) a)).1<=b)
def Tz{wp gp mk ms n0:Nat}{r:List Sx}(h:LB wp gp mk ms n0 H r I m J k i j o A w)(C:n0<=mk)(S:n0<=ms)(D:∀q∈r,tZ 100000 q)(T:m<=fB H) (U:eO w a l)(W:∀d∈l,d<r.length)(s:l.length<=100000)(E:w.heap[j]? =some (.cells #[x] 27)):
 Calls V.prog 170 #[.slice a l.length p,cK k,cK i,cK j,cK o] w (qa λv G=>MF (λq=>q=j) n0 mk ms H A w G/\v=.bool (tO H r m J l)/\G.heap[j]? =some (.cells #[.slice a l.length p] 27)):=by
 refine go V.func170 Tryz.ntmps170 ?_;have K:∀{g},MA n0 mk ms H A w g->MF (λq=>q=j) n0 mk ms H A w g:=λe=>e.mf;obtain⟨F,L⟩:∃F,F=uV (iU H (jb r l) m):=⟨_,rfl⟩;refine cQ (xP n0 mk ms H A) ?_;refine .exact (cK wp) (λg f=>cu (ci (f.1.at_ h.b1) rfl) ⟨rfl,(xP n0 mk ms H A).refl _⟩) ?_;refine .rel (λu g=>∃c,u=cK c/\kU c gp mk ms H (jb r l) I g) (λu aa b ⟨c,M,N⟩ e=>⟨c,M,N.gi e.1⟩) (λg f=>?_) ?_;exact ck (HQ (h.h.gi f.1) (U.gi f.1) W s) λu B ⟨X,c,M,N⟩=>⟨⟨c,M,N⟩,X.ma _ _ _ _ _⟩;refine .exact (.int .i64 m) (λg f=>cu (ci (f.1.at_ h.b2) rfl) ⟨rfl,(xP n0 mk ms H A).refl _⟩) ?_;refine .exact (.tuple #[.int .i64 F.1,.bool F.2]) (λg f t O=>?_) ?_;obtain⟨c,rfl,Y⟩:∃c,t=cK c/\kU c gp mk ms H (jb r l) I g:=O;exact fG (Ld Y (λb y=>dl (h.a b y) f.1.size) (f.2 h.p) C S (BX D) T) (λG h=>.inr ⟨rfl,h⟩) λv B ⟨Z,hv⟩=>⟨by rw[hv,L],Z⟩;intro g f t _;have z:=f.1.at_ E;refine cZ z λB Q n=>?_;have n:B.heap[j]? =some (.cells #[.slice a l.length p] 27):=n;have P:=Q.fg (f.1.at_ h.b4) h.nob.2.2;have R:MF (λq=>q=j) n0 mk ms H A w B:=(HU _ n0 mk ms H A).trans _ _ _ (K f) (MF.NS Q λq hx=>by subst hx;exact h.ao);refine⟨λy=>?_,λy=>?_⟩;refine cu (ci P rfl) (sW (.inl ⟨_,rfl,R,?_,n⟩));unfold tO;rw[<-L,y];rfl;refine .inl ⟨_,rfl,R,?_,n⟩;unfold tO;rw[<-L,y];rfl
section
variable{w:cd}{k:ce->cd->Prop}
def uW(a:Option Addr)(i c:Nat):Option Addr:=if c=i then a else a.map (·.add i)
def uX(b:Nat)(n:b<=m)(o:m<=i)(h:k (.slice (uW a b i) (m-b) (i-b)) w)(f:I=(b:Nat):=by rfl)(g:ty T=some ⟨3,1,1,0⟩:=by rfl):iO V.prog (Instr.sliceAt T (.slice a m i) (some (.int .i64 I)) none none) w k:=by
 subst f;obtain⟨e,j,l⟩:=rA g rfl;refine⟨_,w,?_,h⟩;have c:(b:Int)<=(m:Int):=by omega
 have d:(0:Int)<=(b:Int):=by omega
 unfold Instr.sliceAt Instr.slice;simp only[Sem.run_bind,fZ j,Result.andThen_ok,Instr.sliceBounds,Instr.sliceBound,asIntOf,pure_bind,d,c,and_self,cX,Sem.run_pure,lq l,tj,iq,eo];simp only[ql,ot,uW]
end
theorem eO.drop{w:cd}(h:eO w a l)(i:Nat)(j:l.length<=m):eO w (uW a i m) (l.drop i):=λk e=>by
 have c:i+k<l.length:=by simp at e;omega
 obtain⟨b,o,f,g⟩:=h (i+k) c;have d:¬m=i:=by omega
 refine⟨b,o+i,?_,?_⟩;unfold uW;rw[cr d,f];simp[fL];rw[show o+i+k=o+(i+k) by omega,g,List.getElem_drop]
structure PE(w2:cd)(k d:Nat)(a b:cd):Prop where
 e:cN (λx=>w2.heap.size<=x) a b
 r:∀x cs,w2.heap.size<=x->a.heap[x]? =some (.cells cs 3)->∃tl,b.heap[x]? =some (.cells tl 3)/\tl.size=cs.size/\∀j,tl[j]? =cs[j]? \/(j=k/\tl[j]? =some (.int .i64 d))
 o:Ext a b\/(∀x,x<w2.heap.size->a.heap[x]? =w2.heap[x]?)\/a.heap.size<w2.heap.size
def Ext.pe{a b:cd}(h:Ext a b)(c:cd)(k d:Nat):PE c k d a b:=⟨h.keep _,λx e _ f=>⟨e,h.at_ f,rfl,λ_=>.inl rfl⟩,.inl h⟩
def WY(s:cd)(k d:Nat):fw (PE s k d):=by refine⟨λw=>(Ext.refl w).pe _ _ _,λa b c h g=>⟨h.e.trans g.e (λ_ _ h=>h) λ_ _ h=>h,λx u m v=>?_,?_⟩,λw=>(Ext.drew w).pe _ _ _⟩;obtain⟨n,i,y,z⟩:=h.r x u m v;obtain⟨p,A,B,C⟩:=g.r x n m i;refine⟨p,A,B.trans y,λj=>?_⟩;rcases C j with f|f;rcases z j with q|q;exact .inl (f.trans q);exact .inr ⟨q.1,f.trans q.2⟩;exact .inr f;rcases h.o with l|l|l;rcases g.o with i|i|i;exact .inl (l.trans i);rcases eA a.heap.size s.heap.size with t|t;exact .inr (.inr t);refine .inr (.inl λx m=>?_);rw[<-i x m];exact(l.block x (by omega)).symm;exact .inr (.inr (Nat.lt_of_le_of_lt l.size i));exact .inr (.inl l);exact .inr (.inr l)
def ku.same{A:Nat->Prop}{mk ms n:Nat}{w w':cd}(h:ku A mk ms H w)(i:w.heap.size<=n)(f:∀x,x<n->x<w.heap.size->w'.heap[x]? =w.heap[x]?):ku A mk ms H w':=by
 have a:∀b o,w.heap[b]? =some o->w'.heap[b]? =some o:=λb o c=>by have e:=cF.lt_of_heap c;rw[f b (by omega) e];exact c
 refine h.go (λ_ h=>.inl h) (λb o v _ d=>?_) λb o _ c=>a b o c;unfold World.cell? at d⊢;split at d;rename_i j t k g;rw[a _ _ g];exact d;cases d
def PE.mf{i:cd}{k d n0 mk ms ob:Nat}{A:Nat->Prop}{a b:cd}(h:PE i k d a b)(n:ku A mk ms H i):MF (λx=>x=ob\/i.heap.size<=x) n0 mk ms H A a b:=by refine⟨h.e.os,h.e.tape,h.e.output,h.e.size,h.e.drawn,λx o c p _=>h.e.fg p λq=>c (.inr q),λr f=>?_⟩;rcases h.o with g|g|g;exact f.ext g;refine n.same (cz _) λx c _=>?_;rw[<-g x c];rcases eA x a.heap.size with j|j;exact h.e.block x j (by omega);have m:a.heap[x]? =none:=mO j;rw[g x c]at m;have:=Array.getElem?_eq_none_iff.1 m;omega;exact f.same (cz _) λx c l=>h.e.block x l (by omega)
def MF.narrow{F c:Nat->Prop}{n0 mk ms:Nat}{A:Nat->Prop}{a b:cd}(h:MF c n0 mk ms H A a b)(e:∀x,x<a.heap.size->c x->F x):MF F n0 mk ms H A a b:=
 ⟨h.os,h.tape,h.output,h.size,h.drawn,λx o f d g=>h.block x o (λi=>f (e x (cF.lt_of_heap d) i)) d g,h.m⟩
def MF.wide{F c:Nat->Prop}{n0 mk ms:Nat}{A:Nat->Prop}{a b:cd}(h:MF F n0 mk ms H A a b)(d:∀x,F x->c x):MF c n0 mk ms H A a b:=
 ⟨h.os,h.tape,h.output,h.size,h.drawn,λx o e f g=>h.block x o (λi=>e (d x i)) f g,h.m⟩
def GN(n:Nat)(w:cd)(v:ce)(l:List Nat):Prop:=GL w v l/\∀b,cw v b->n<=b
def GN.pe{f a b:cd}{v:ce}{k:Nat}(h:GN f.heap.size a v l)(e:PE f k d a b)(m:∀h:k<l.length,l[k]=d):GN f.heap.size b v l:=by refine⟨?_,h.2⟩;rcases h.1 with n|⟨x,c,o,rfl,p,s,t,u⟩;exact .inl n;obtain⟨g,w,y,z⟩:=e.r x o (h.2 x ⟨_,_,rfl⟩) s;refine .inr ⟨x,c,g,rfl,p,w,y.trans t,λj i=>?_⟩;rcases z j with q|⟨rfl,q⟩;rw[q];exact u j i;rw[q,m i]
def dE.gn{w:cd}{v:ce}(h:dE m w v l):GN m w v l:=by refine⟨?_,λb d=>(cA.blk h d).1⟩;obtain⟨o,⟨e,rfl⟩|⟨b,c,f,p,rfl,g,a,i,q,j,r⟩⟩:=h;exact .inl ⟨l9 e,rfl⟩;simp only[dW,fC,ot,cB]at a;refine .inr ⟨b,c,f,rfl,i,g,a,λk n=>?_⟩;rw[j k (by simp[fi];omega)];simp[fi,ew n]
def iC(p:List Nat->Bool):Nat->List Nat->List Nat->Bool×Option (List Nat)
 |0,_,a=>(p a,some a)
 |m+1,l,a=>(List.range l.length).foldl (λb i=>if b.1 then b else((iC p m (l.drop (i+1)) (a++[l.getD i 0])).1,(iC p m (l.drop (i+1)) (a++[l.getD i 0])).2.or b.2)) (false,none)
def eZ(p:List Nat->Bool)(m:Nat)(l a:List Nat)(k:Nat):Bool×Option (List Nat):=(List.range k).foldl (λb i=>if b.1 then b else((iC p m (l.drop (i+1)) (a++[l.getD i 0])).1,(iC p m (l.drop (i+1)) (a++[l.getD i 0])).2.or b.2)) (false,none)
def Dn(p:List Nat->Bool)(m:Nat)(l a:List Nat)(k:Nat)(h:(eZ p m l a k).1=false):eZ p m l a (k+1)=((iC p m (l.drop (k+1)) (a++[l.getD k 0])).1,(iC p m (l.drop (k+1)) (a++[l.getD k 0])).2.or (eZ p m l a k).2):=by
 have:eZ p m l a (k+1)=if(eZ p m l a k).1 then eZ p m l a k else((iC p m (l.drop (k+1)) (a++[l.getD k 0])).1,(iC p m (l.drop (k+1)) (a++[l.getD k 0])).2.or (eZ p m l a k).2):=by unfold eZ;rw[kA,uf];rfl
 rw[this,h];rfl
def Do(p:List Nat->Bool)(b:Nat)(l a:List Nat){k:Nat}(g:k<=m)(h:(eZ p b l a k).1=true):eZ p b l a m=eZ p b l a k:=by
 induction m with
 |zero=>obtain rfl:k=0:=by omega
        rfl
 |succ m c=>
  rcases eA k (m+1)with d|f;have e:=c (by omega);have:eZ p b l a (m+1)=if(eZ p b l a m).1 then eZ p b l a m else((iC p b (l.drop (m+1)) (a++[l.getD m 0])).1,(iC p b (l.drop (m+1)) (a++[l.getD m 0])).2.or (eZ p b l a m).2):=by unfold eZ;rw[kA,uf];rfl
  rw[this,e,h];rfl;obtain rfl:k=m+1:=by omega
  rfl
theorem gq.drop(h:gq A w a l)(i:Nat)(n:l.length<=m):gq A w (uW a i m) (l.drop i):=λk e=>by
 have c:i+k<l.length:=by simp at e;omega
 obtain⟨b,o,f,g,j⟩:=h (i+k) c;have d:¬m=i:=by omega
 refine⟨b,o+i,f,?_,?_⟩;unfold uW;rw[cr d,g];simp[fL];rw[show o+i+k=o+(i+k) by omega,j,List.getElem_drop]
def QF{A:ce->cd->Prop}{G:Array Bool}(B:GL w x l)(H:m<=w.heap.size)(f:l.length<=1000)(p:w.heap[k]? =some (.cells [Value.int .i64 s].toArray 3)) (I:∀v d,GL d v (l++[s])->(∀b,cw v b->cw x b\/m<=b)->cN (cw x) w d->(∀b a,cw x b->w.heap[b]? =some (.cells a 3)->d.heap[b]? =some (.cells a 3)\/d.heap[b]? =some (.cells (a.setIfInBounds l.length (.int .i64 s)) 3))->A v d):wY V.prog (builtin .append #[27,27] T G #[x,.slice (some ⟨k,0,none⟩) 1 i]) w A:=by
 obtain⟨o,q⟩:∃o:Obj,∀b,cw x b->w.heap[b]? =some o:=by by_cases C:∃b,cw x b;obtain⟨b,c⟩:=C;obtain⟨a,r⟩:=B.c3 c;exact⟨.cells a 3,λD t=>by rw[F1 c t];exact r⟩;exact⟨.cells #[] 3,λb c=>absurd ⟨b,c⟩ C⟩
 obtain⟨u,j⟩:∃u:Obj,∀b a,cw x b->o=.cells a 3->u=.cells (a.setIfInBounds l.length (.int .i64 s)) 3:=by
  cases o with
  |cells a T K=>exact⟨.cells (a.setIfInBounds l.length (.int .i64 s)) 3,λb y _ e=>by injection e with e;rw[e]⟩
  |_=>exact⟨.cells #[] 3,λb y _ e=>by cases e⟩
 refine yn (w0:=w) B q H f p u j λv d E F=>I v d ?_ (λb c=>?_) F.k λb a c J=>?_;rcases E with⟨_,_,_,_,_,h⟩|⟨_,_,_,_,h⟩<;>exact h;rcases E with⟨D,c',z,rfl,_⟩|⟨D,c',z,rfl,_⟩;rw[mA (l':=0) (c':=0) c];exact .inl z;rw[mA (l':=0) (c':=0) c];exact .inr z;rcases F.n b _ c J with h|⟨h,g⟩;exact .inl h;exact .inr (by rw[g,j b a c h.symm])
def GL.mf{n0 mk ms:Nat}(h:GL w x l)(e:MF A n0 mk ms H B w t)(d:∀b,cw x b->¬A b):GL t x l:=by rcases h with h|⟨b,c,f,a,g,i,j⟩;exact .inl h;exact .inr ⟨b,c,f,a,g,e.at_ (d b ⟨_,_,a⟩) i,j⟩
def H7(d:Nat)(w:cd)(f:ce)(a:List Nat)(e:cd):Option (List Nat)->Prop
 |none=>e.heap[d]? =w.heap[d]?
 |some o=>a.length<=o.length/\∃c,e.heap[d]? =some (.cells #[c] 27)/\GL e c o/\∀b,cw c b->cw f b\/w.heap.size<=b
def UZ(a b c d:Nat):ce:=.func (.func 170) #[] #[cK a,cK b,cK c,cK d]
def GL.Dp(h:GL w x l)(a:w.heap[m]? =some (.cells #[y] 27)):∀b,cw x b->b≠m:=λb c e=>by subst e;obtain⟨f,d⟩:=h.c3 c;exact eX d a (by decide)
theorem Gb{wp gp mk ms n0:Nat}{xs:List Sx}(an:n0<=mk)(hn:n0<=ms)(ao:∀x∈xs,tZ 100000 x)(hf:m<=fB H):
 ∀(z:Nat) (l c:List Nat) (la:Option Addr) (Y:Nat) (W ov:ce) (w:cd),LB wp gp mk ms n0 H xs I m J k i j o A w->gq (λb=>b=j) w la l->l.length<=Y->l.length<=1000->(∀d∈l,d<xs.length)->GL w W c->(∀d∈c,d<xs.length)->z+c.length<=1000->w.heap[j]? =some (.cells #[ov] 27)->(∀b,cw ov b->b<w.heap.size)->
  Calls V.prog 169 #[.slice la l.length Y,W,.int .i64 z,UZ k i j o] w (qa λv w'=>MF (λx=>x=j) n0 mk ms H A w w'/\v=.bool (iC (tO H xs m J) z l c).1/\H7 j w W c w' (iC (tO H xs m J) z l c).2)
 |0,l,c,la,Y,W,ov,w,hB,hl,ad,aF,ae,s,af,ap,R,aq=>by obtain⟨ba,bc,rfl,ag,aG⟩:=s.row;refine go V.func169 Tryz.ntmps169 ?_;refine eh (iR rfl (fG (Tz hB an hn ao hf ag af (by omega) R) (λw' h=>.inr ⟨rfl,h⟩) λv y ⟨e1,hv,B⟩=>?_));subst hv;exact .inl ⟨_,rfl,e1,rfl,cz _,_,B,s.mf e1 (s.Dp R),λb s=>.inl s⟩
 |z+1,l,c,la,Y,W,ov,w,hB,hl,ad,aF,ae,s,af,ap,R,aq=>by
  obtain⟨p,hp⟩:∃p,p=tO H xs m J:=⟨_,rfl⟩;have ar:=s.Dp R;refine go V.func169 Tryz.ntmps169 ?_;refine eh (iG (by simp;omega) (cD ?_));rw[<-hp];have aH:=(HU (λx=>x=j) n0 mk ms H A).trans;refine ei (n:=l.length) (λg=>[(0,.slice la l.length Y),(1,W),(2,.int .i64 (z+1:Nat)),(3,UZ k i j o),(16,.slice la l.length Y),(17,.int .i64 l.length),(18,.int .i64 g)]) (λg w'=>(eZ p z l c g).1=false/\MF (λx=>x=j) n0 mk ms H A w w'/\H7 j w W c w' (eZ p z l c g).2) ⟨⟨rfl,rfl,rfl,rfl,rfl,rfl,rfl,trivial⟩,rfl,(HU _ _ _ _ _ _).refl _,rfl⟩ ?_ ?_ ?_;rintro g y hk hJ;exact cV ⟨rfl,rfl,⟨rfl,rfl,rfl,rfl,rfl,rfl,rfl,trivial⟩,hJ⟩;rintro g y hk ⟨ah,m1,C⟩;have ai:=hB.mf m1;have au:gq (λb=>b=j) y la l:=hl.go (λ_ h=>.inl h) λb Z v s hc=>m1.cell s hc;have av:GL y W c:=s.mf m1 ar;have s1:=m1.size;obtain⟨D,B,ab⟩:∃D,y.heap[j]? =some (.cells #[D] 27)/\∀b,cw D b->b<y.heap.size:=by
   cases S:(eZ p z l c g).2 with
   |none=>
    rw[S]at C;exact⟨ov,(show y.heap[j]? =w.heap[j]? from C).trans R,λb s=>dl (aq b s) s1⟩
   |some Z=>
    rw[S]at C;obtain⟨_,D,M,E,_⟩:=C;exact⟨D,M,λb s=>E.blk s⟩
  have aI:=cF.lt_of_heap B;obtain⟨lb,lo,aP,rfl,K⟩:=au g hk;obtain⟨d,hd⟩:∃d,d=l[g]:=⟨_,rfl⟩;rw[<-hd]at K;have aJ:d<xs.length:=by rw[hd];exact ae _ (dt hk)
  refine dI g hk (cu K ?_);have hE:=WY y c.length d;refine fV 12 hE (HU (λx=>x=j\/y.heap.size<=x) n0 mk ms H A) (λa b h=>h.mf ai.p) ?_;refine .exact (.int .i64 ((g:Int)+1)) (λf _=>cq ⟨rfl,hE.refl _⟩) ?_;refine .exact (.slice (uW (some ⟨lb,lo,none⟩) (g+1) Y) (l.length-(g+1)) (Y-(g+1))) (λf _=>uX (g+1) (by omega) ad ⟨rfl,hE.refl _⟩) ?_;refine .early rfl (λv f=>GN y.heap.size f v c) (λv a b h e=>h.pe e λh=>by omega) (λf F=>?_) ?_;have aK:GL f W c:=av.keep F.e λb s=>by have:=av.blk s;omega
  obtain⟨ba,bc,rfl,ag,aG⟩:=aK.row;exact ck (lx ag (by omega)) λu w3 ⟨e3,hu⟩=>⟨(hu.low F.e.size).gn,e3.pe _ _ _⟩;refine .early rfl (λv f=>∃N,v=.slice (some ⟨N,0,none⟩) 1 1/\y.heap.size<=N/\f.heap[N]? =some (.cells [Value.int .i64 d].toArray 3)) (λv a b ⟨N,h1,h2,h3⟩ e=>⟨N,h1,h2,?_⟩) (λf F=>dJ [.int .i64 d] 3 λw3 N e3 aw s=>⟨⟨N,rfl,cJ F.e.size aw,s⟩,e3.pe _ _ _⟩) ?_;obtain⟨aj,M,E,L⟩:=e.r N _ h2 h3;rw[M];have:aj=[Value.int .i64 d].toArray:=by
   apply L1;intro ax;rcases L ax with q|⟨q0,q⟩;exact q;have hj:ax<aj.size:=(eP.1 q).1;have E:aj.size=1:=E;obtain rfl:ax=0:=by omega
   rw[q];rfl
  rw[this];refine .early rfl (λv f=>GN y.heap.size f v (c++[d])) (λv a b h e=>h.pe e λh=>by simp) (λf F ay aL ak T=>?_) ?_;obtain⟨N,rfl,aw,az⟩:∃N,ay=.slice (some ⟨N,0,none⟩) 1 1/\y.heap.size<=N/\f.heap[N]? =some (.cells [Value.int .i64 d].toArray 3):=aL;have T:GN y.heap.size f ak c:=T;refine QF T.1 F.e.size (by omega) az λv w3 M E L X=>⟨⟨M,λb s=>(E b s).elim (T.2 b) id⟩,L.trans (cN.refl (λ_=>False) w3) (λx _ Q=>T.2 x Q) (λ_ _ h=>h.elim),λx cs Q hc=>?_,.inr (.inl λx Q=>F.e.block x Q (by omega))⟩;by_cases aA:cw ak x;rcases X x cs aA hc with q|q;exact⟨cs,q,rfl,λ_=>.inl rfl⟩;refine⟨_,q,by simp,λax=>?_⟩;by_cases hj:c.length=ax;subst hj;rcases eA c.length cs.size with hs|hs;exact .inr ⟨rfl,jE hs⟩;left;rw[mO hs,mO (by simpa using hs)];exact .inl (eY hj);exact⟨cs,L.fg hc aA,rfl,λ_=>.inl rfl⟩;refine .exact (.int .i64 ((z+1:Nat)-1)) (λf _=>fx ⟨rfl,hE.refl _⟩) ?_;obtain⟨P,hP⟩:∃P,P=iC p z (l.drop (g+1)) (c++[d]):=⟨_,rfl⟩
  refine .spec (λv f=>v=.bool P.1/\y.heap.size<=f.heap.size/\match P.2 with
   |none=>f.heap[j]? =y.heap[j]?
   |some Z=>c.length<=Z.length/\∃t,f.heap[j]? =some (.cells #[t] 27)/\GL f t Z/\(∀b,cw t b->y.heap.size<=b)/\∃b,cw t b) (λv a b ⟨h1,h2,h3⟩ e=>⟨h1,cJ h2 e.e.size,?_⟩) (λf F al aa=>?_) ?_
  cases S:P.2 with
  |none=>
   rw[S]at h3;have h3:a.heap[j]? =y.heap[j]? :=h3;show b.heap[j]? =y.heap[j]?;rw[<-h3];exact e.e.block j (by omega) (by omega)
  |some Z=>
   rw[S]at h3;obtain⟨M,t,E,L,X,b0,g5⟩:=h3;rcases e.o with he|he|he;exact⟨M,t,he.at_ E,L.keep (he.keep λ_=>False) λ_ _ h=>h,X,b0,g5⟩;exfalso;have:=he j aI;rw[E,B]at this;have:=cE this;injection this with this;have:t=D:=by simpa using cM Array.toList this
   subst this;have:=X b0 g5;have:=ab b0 g5;omega;omega
  have aa:GN y.heap.size f al (c++[d]):=aa;have M2:MF (λx=>x=j) n0 mk ms H A y f:=(F.mf ai.p).narrow λx Q hf=>hf.elim id λh=>by omega
  have aM:=ai.mf M2;have aN:gq (λb=>b=j) f (some ⟨lb,lo,none⟩) l:=au.go (λ_ h=>.inl h) λb Z v s hc=>M2.cell s hc;have ac:f.heap[j]? =some (.cells #[D] 27):=F.e.fg B (by omega);have ih:=Gb an hn ao hf z (l.drop (g+1)) (c++[d]) _ (Y-(g+1)) al D f aM (aN.drop (g+1) ad) (by simp;omega) (by simp;omega) (λx Q=>ae x (List.mem_of_mem_drop Q)) aa.1 (λx Q=>(gl.1 Q).elim (af x) λh=>by rw[fD.1 h];exact aJ) (by simp;omega) ac (λb s=>dl (ab b s) F.e.size);rw[<-hp,<-hP]at ih;have aB:(l.drop (g+1)).length=l.length-(g+1):=by simp
  rw[aB]at ih;rw[show((z+1:Nat):Int)-1=(z:Int) by omega];refine fG ih (λw' h=>.inr ⟨rfl,h⟩) ?_;rintro v w3 ⟨m3,rfl,O⟩;refine⟨⟨rfl,cJ F.e.size m3.size,?_⟩,m3.wide λx Q=>.inl Q⟩;cases S:P.2 with
  |none=>
   rw[S]at O;have O:w3.heap[j]? =f.heap[j]? :=O;show w3.heap[j]? =y.heap[j]?;rw[O,ac,B]
  |some Z=>
   rw[S]at O;obtain⟨M,t,E,L,X⟩:=O;simp only[fX,dW,fC]at M;obtain⟨b0,c0,_,q0,_⟩:=L.v (by omega);exact⟨by omega,t,E,L,λb s=>(X b s).elim (aa.2 b) λh=>cJ F.e.size h,b0,by rw[q0];exact⟨_,_,rfl⟩⟩
  rintro f F aQ ⟨rfl,aR,hR⟩ al _ ay _ ak _;have M2:MF (λx=>x=j) n0 mk ms H A y f:=F.narrow λx Q hf=>hf.elim id λh=>by omega
  have aC:l.getD g 0=d:=by rw[getD_eq hk,hd]
  have G:=Dn p z l c g ah;rw[aC,<-hP]at G;have aD:=aH _ _ _ m1 M2;have am:H7 j w W c f (P.2.or (eZ p z l c g).2):=by
   cases S:P.2 with
   |none=>
    rw[S]at hR;have hR:f.heap[j]? =y.heap[j]? :=hR;cases aE:(eZ p z l c g).2 with
    |none=>
     rw[aE]at C;exact(show f.heap[j]? =w.heap[j]? from hR.trans C)
    |some Z=>
     rw[aE]at C;obtain⟨M,t,E,L,X⟩:=C;exact⟨M,t,hR.trans E,L.mf M2 (L.Dp B),X⟩
   |some Z=>
    rw[S]at hR;obtain⟨M,t,E,L,X,_⟩:=hR;exact⟨M,t,E,L,λb s=>.inr (cJ s1 (X b s))⟩
  rw[<-show(eZ p z l c (g+1)).2=P.2.or (eZ p z l c g).2 by rw[G]]at am;have U:(eZ p z l c (g+1)).1=P.1:=by rw[G]
  refine⟨λht=>?_,λaO=>?_⟩;have e:iC p (z+1) l c=eZ p z l c (g+1):=Do p z l c (show g+1<=l.length by omega) (U.trans ht);exact .inl ⟨_,rfl,aD,by rw[e,U,ht];rfl,by rw[e];exact am⟩;exact cq ⟨⟨rfl,rfl,rfl,rfl,rfl,rfl,rfl,trivial⟩,U.trans aO,aD,am⟩;rintro y ⟨ah,m1,C⟩;exact .inl ⟨_,rfl,m1,by show _=Value.bool (eZ p z l c l.length).1;rw[ah];rfl,C⟩
def kU.QG{wp gp mk ms:Nat}{n:List Sx}(h:kU wp gp mk ms H n I w)(p:∀(b:Nat) (a:Array ce) (d:cg) (e:Nat×Nat),w.heap[b]? =some (Obj.cells a d e)->t.heap[b]? =some (Obj.cells a d e))(q:w.heap.size<=t.heap.size):kU wp gp mk ms H n I t:=by
 have cell:∀{f:Addr} {v:ce},w.cell? f=some v->t.cell? f=some v:=λ{f v} c=>by unfold World.cell? at c⊢;split at c;rename_i a d e r;rw[p _ _ _ _ r];exact c;cases c
 obtain⟨s,u,x,y,z,A⟩:=h.at_;obtain⟨B,C,D,⟨a,E,F,G⟩,J,K⟩:=h.g.at_;refine⟨⟨⟨B,C,D,⟨a,p _ _ _ _ E,F,G⟩,λk i=>?_,cell K⟩,h.g.ok,dl h.g.mlt q,dl h.g.slt q,h.g.ne,h.g.gk⟩,h.len,h.bf,s,u,cell x,cell y,cell z,λk i=>?_⟩;obtain⟨b,o,l,m,L,M⟩:=J k i;exact⟨b,o,l,cell m,cell L,cell M⟩;obtain⟨b,o,l,m⟩:=A k i;exact⟨b,o,l,λj v N=>cell (m j v N)⟩
def jh(p:List Nat->Bool)(l:List Nat)(k:Nat):Bool×List Nat:=(List.range k).foldl (λa m=>if a.1 then a else((iC p m l []).1,(iC p m l []).2.getD a.2)) (false,[])
def oL(p:List Nat->Bool)(l:List Nat):List Nat:=(jh p l (l.length+1)).2
def uY(p:List Nat->Bool)(l:List Nat)(k:Nat):jh p l (k+1)=if(jh p l k).1 then jh p l k else((iC p k l []).1,(iC p k l []).2.getD (jh p l k).2):=by unfold jh;rw[kA,uf];rfl
def Dq(p:List Nat->Bool)(l:List Nat)(d:k<=m)(h:(jh p l k).1=true):jh p l m=jh p l k:=by
 induction m with
 |zero=>obtain rfl:k=0:=by omega
        rfl
 |succ m a=>
  rcases eA k (m+1)with b|c;rw[uY,a (by omega),h];rfl;obtain rfl:k=m+1:=by omega
  rfl
def Om{wp gp mk ms n0:Nat}{f:List Sx}{s canv:Int}(h:kU wp gp mk ms H f s w)(hA:∀b,A b->b<w.heap.size)(hp:ku A mk ms H w)(aa:n0<=mk)(hn:n0<=ms)(ab:∀x∈f,tZ 100000 x)(hf:m<=fB H):
 Calls V.prog 123 #[cK wp,.int .i64 m,.int .i64 canv] w (qa λv J=>MA n0 mk ms H A w J/\∃a c,v=.slice a (oL (tO H f m canv) (cW H.tries f)).length c/\eO J a (oL (tO H f m canv) (cW H.tries f))/\(oL (tO H f m canv) (cW H.tries f)).length<=c):=by
 have ac:=h.g.tY;have h5:=ac.many;have aj:=h.len;have ai:=pm H.tries f;refine go V.func123 Tryz.ntmps123 ?_;refine fo λw1 wb e1 ak j=>fo λw2 fb X al u=>fo λw3 cb O am y=>eF λw4 B P an z=>?_;have j:w1.heap[wb]? =some (.cells #[cK wp] 133):=j;have u:w2.heap[fb]? =some (.cells #[.int .i64 m] 3):=u;have y:w3.heap[cb]? =some (.cells #[.int .i64 canv] 3):=y;have z:w4.heap[B]? =some (.cells #[.slice none 0 0] 27):=z;have l1:=cF.lt_of_heap j;have l2:=cF.lt_of_heap u;have l3:=cF.lt_of_heap y;have l4:=cF.lt_of_heap z;have s1:=e1.size;have s2:=X.size;have s3:=O.size;have E4:Ext w w4:=((e1.trans X).trans O).trans P;refine cu (ci ((X.trans (O.trans P)).at_ j) rfl) (ck (yi (h.ext E4)) ?_);rintro v Y ⟨N,Q⟩;obtain⟨oa,oc,rfl,_,ad⟩:=Q.row;have s4:=E4.size;have s5:=N.size
 have ae:gq (λb=>b=B) Y oa (cW H.tries f):=by
  obtain⟨a,c,R,q2,_⟩:=Q.Th (A:=λb=>b=B) λb i=>by omega
  injection R with R;rw[R];exact q2
 have Z:=E4.trans N;obtain⟨A',D⟩:∃A':Nat->Prop,A'=λx=>A x\/x=B:=⟨_,rfl⟩;have hB:LB wp gp mk ms n0 H f s m canv wb fb B cb A' Y:=by
  refine⟨h.ext Z,(hp.more (A':=A') λb i=>?_).ext Z,λb i=>?_,(X.trans (O.trans (P.trans N))).at_ j,(O.trans (P.trans N)).at_ u,(P.trans N).at_ y,λJ hc hs=>h.QG (λb cs t fz i=>hc b cs t fz (by have:=cF.lt_of_heap i;omega) (Z.at_ i)) (by omega),⟨by omega,by omega,by omega⟩,by rw[D];exact .inr rfl⟩;rw[D]at i;exact i.imp id λe=>by omega
  rw[D]at i;rcases i with i|i;have:=hA b i;omega;omega
 obtain⟨p,S⟩:∃p,p=tO H f m canv:=⟨_,rfl⟩;rw[<-S];have T:∀{E:cd} {F:ce} {l:List Nat},MF (λx=>x=B) n0 mk ms H A' Y E->GL E F l->MA n0 mk ms H A w E/\∃a c,F=.slice a l.length c/\eO E a l/\l.length<=c:=λK hg=>by refine⟨⟨K.after (Z.gi n0) λx hx=>by omega,λ_=>(K.m hB.a hB.p).fewer λb i=>by rw[D];exact .inl i⟩,?_⟩;obtain⟨a,c,R,q2,q3⟩:=hg.row;exact⟨a,c,R,q2,q3⟩
 refine cD (cq ?_);refine ei (n:=(cW H.tries f).length+1) (λk=>[(3,cK wb),(4,cK fb),(5,cK cb),(7,cK B),(8,.slice oa (cW H.tries f).length oc),(14,.int .i64 ((cW H.tries f).length+1:Nat)),(15,.int .i64 k)]) (λk J=>(jh p (cW H.tries f) k).1=false/\MF (λx=>x=B) n0 mk ms H A' Y J/\∃F,J.heap[B]? =some (.cells #[F] 27)/\GL J F (jh p (cW H.tries f) k).2) ⟨⟨rfl,rfl,rfl,rfl,rfl,rfl,rfl,trivial⟩,rfl,(HU _ _ _ _ _ _).refl _,_,N.at_ z,.inl ⟨rfl,rfl⟩⟩ ?_ ?_ ?_;rintro k E hk hJ;exact cV ⟨rfl,rfl,⟨rfl,rfl,rfl,rfl,rfl,rfl,rfl,trivial⟩,hJ⟩;rintro k E hk ⟨U,K,F,q,C⟩;have af:=hB.mf K;have ih:=Gb aa hn ab hf k (cW H.tries f) [] oa oc (.slice none 0 0) F E af (ae.go (λ_ h=>.inl h) λb o v i hc=>K.cell i hc) ad (by omega) (λd hd=>kh hd) (.inl ⟨rfl,rfl⟩) (λd hd=>by cases hd) (by simp;omega) q (λb i=>C.blk i);rw[<-S]at ih;refine fG ih (λJ h=>.inr ⟨rfl,h⟩) ?_;rintro v w7 ⟨m7,rfl,G⟩;have M7:=(HU (λx=>x=B) n0 mk ms H A').trans _ _ _ K m7;have r:=uY p (cW H.tries f) k;rw[U,cr (by simp)]at r;obtain⟨I,L,W⟩:∃I,w7.heap[B]? =some (.cells #[I] 27)/\GL w7 I (jh p (cW H.tries f) (k+1)).2:=by
  rw[r];cases hq:(iC p k (cW H.tries f) []).2 with
  |none=>
   rw[hq]at G;exact⟨F,(show w7.heap[B]? =E.heap[B]? from G).trans q,C.mf m7 (C.Dp q)⟩
  |some o=>
   rw[hq]at G;obtain⟨_,ag,g1,g2,_⟩:=G;exact⟨ag,g1,g2⟩
 have M:(jh p (cW H.tries f) (k+1)).1=(iC p k (cW H.tries f) []).1:=by rw[r]
 refine⟨λht=>?_,λah=>?_⟩;refine cu (ci L rfl) (.inl ⟨_,rfl,?_⟩);have e:oL p (cW H.tries f)=(jh p (cW H.tries f) (k+1)).2:=by unfold oL;rw[Dq p (cW H.tries f) (show k+1<=(cW H.tries f).length+1 by omega) (M.trans ht)]
 rw[e];exact T M7 W;exact cq ⟨⟨rfl,rfl,rfl,rfl,rfl,rfl,rfl,trivial⟩,M.trans ah,M7,I,L,W⟩;rintro E ⟨U,K,F,q,C⟩;exact cu (ci q rfl) (.inl ⟨_,rfl,T K C⟩)
def Jv(D:dR)(ps:List Nat):Prop:=∀k (h:k<ps.length),ps[k]<(dz D k).length
def On(D:dR):Sp->Prop
 |none=>True
 |some (l,_,_)=>∃ps:List Nat,l=ps.map Int.ofNat/\ps.length=D.opn.length/\Jv D ps
theorem Gc(b x:Sp):lM b x=x\/lM b x=b:=by unfold lM;split;exact .inl rfl;exact .inr rfl
theorem xp(D:dR):∀(n:Nat) (ps:List Nat) (L:Nat->Nat) (b:Sp),ps.length+n=D.opn.length->Jv D ps->On D b->On D (dS D n ps L b)
 |0,ps,L,b,j,a,c=>by simp only[dS];rcases Gc b (dX D L ps)with h|h;rw[h];unfold dX;split;trivial;exact⟨ps,rfl,by omega,a⟩;rw[h];exact c
 |n+1,ps,L,b,j,a,c=>by
  simp only[dS]
  have d:∀(g:List Nat) (b:Sp),(∀i∈g,i<(dz D ps.length).length)->On D b->On D (g.foldl (λb i=>dS D n (ps++[i]) (jz (fh D ps.length) ((dz D ps.length).getD i []) L) b) b):=by
   intro g;induction g with
   |nil=>intro b _ c;exact c
   |cons i r l=>
    intro b e c;rw[mP];refine l _ (λx m=>e x (eI _ m)) (xp D n _ _ _ (by simp;omega) (λk o=>?_) c);rcases eA k ps.length with f|p;rw[lI f];exact a k f;obtain rfl:k=ps.length:=by simp at o;omega
    simp only[qI (cz _),lf,mS];exact e i eR
  exact d _ b (λi q=>eJ.1 q) c
theorem Ge(D:dR):On D (gm D):=xp D _ [] L0 none (by simp) (λk a=>by simp at a) trivial
def mg(D:dR)(ps:List Nat):Nat->Nat->Nat
 |0=>L0
 |k+1=>jz (fh D k) ((dz D k).getD (ps.getD k 0) []) (mg D ps k)
def tP(G:Gd)(L:Nat->Nat)(k:Nat):List (Nat×List Nat):=(List.range k).flatMap λs=>((fJ G (L s)).getD []).map λl=>(s,l)
def z7(G:Gd)(D:dR):Option (List (Nat×List Nat)):=match gm D with
 |none=>none
 |some (l,_,_)=>some (tP G (mg D (l.map Int.toNat) l.length) 6)
theorem xq(G:Gd)(L:Nat->Nat)(k:Nat):tP G L (k+1)=tP G L k++((fJ G (L k)).getD []).map λl=>(k,l):=by unfold tP;rw[kA,List.flatMap_append];simp
theorem z8{G:Gd}{L:Nat->Nat}:∀k,(tP G L k).length<=5*k
 |0=>cz _
 |k+1=>by
  rw[xq,fX,kV];have:=z8 (G:=G) (L:=L) k;have a:((fJ G (L k)).getD []).length<=5:=by
   cases h:fJ G (L k)with
   |none=>simp
   |some b=>exact pY h
  omega
theorem z9{s:Nat}{a:List (List Nat)}(h:fJ H s=some a):∀l∈a,l.length<=5:=λl b=>by unfold fJ at h;split at h;obtain rfl:=cE h;cases b;obtain⟨c,_,rfl⟩:=ij.1 h;obtain⟨g,_,rfl⟩:=jj.1 b;exact my
def ta:List (Nat×List Nat)->List ce->List ce
 |p::r,u::s=>.int .i64 p.1::u::ta r s
 |_,_=>[]
theorem uZ(p:Nat×List Nat)(u:ce):∀(ps:List (Nat×List Nat)) (a:List ce),a.length=ps.length->ta (ps++[p]) (a++[u])=ta ps a++[.int .i64 p.1,u]
 |[],[],_=>rfl
 |q::r,v::s,h=>by simp only[qn,ta];rw[uZ p u r s (by simpa using h)]
theorem BY:∀(ps:List (Nat×List Nat)) (a:List ce),a.length=ps.length->(ta ps a).length=2*ps.length
 |[],[],_=>rfl
 |q::r,v::s,h=>by simp only[ta,dW];rw[BY r s (by simpa using h)];omega
theorem BZ:∀(ps:List (Nat×List Nat)) (a:List ce),a.length=ps.length->∀k (h:k<ps.length),(ta ps a)[2*k]? =some (.int .i64 ps[k].1)/\(ta ps a)[2*k+1]? =a[k]?
 |q::r,v::s,h,0,_=>⟨rfl,rfl⟩
 |q::r,v::s,h,k+1,b=>by have:=BZ r s (by simpa using h) k (by simpa using b);rw[show 2*(k+1)=2*k+1+1 by omega];simp only[ta,Be,IC];exact this
def nO(n0:Nat)(w:cd)(v:ce)(ps:List (Nat×List Nat)):Prop:=∃a:List ce,a.length=ps.length/\cA n0 29 [.int .i64 0,.slice none 0 0] w v ps.length (ta ps a)/\∀k (h:k<ps.length),∃u,a[k]? =some u/\dE n0 w u ps[k].2
def wA(w:cd)(a:Option Addr)(ps:List (Nat×List Nat)):Prop:=∀k (h:k<ps.length),∃b o c d,a=some ⟨b,o,none⟩/\w.cell? ⟨b,o+k*2,none⟩=some (.int .i64 ps[k].1)/\w.cell? ⟨b,o+k*2+1,none⟩=some (.slice c ps[k].2.length d)/\eO w c ps[k].2/\ps[k].2.length<=d
section
variable{n0:Nat}{w w':cd}{v:ce}{ps:List (Nat×List Nat)}
theorem nO.nil(n0:Nat)(w:cd):nO n0 w (.slice none 0 0) []:=⟨[],rfl,cA.nil _ _ _ _,λk a=>by simp at a⟩
theorem nO.gi{m:Nat}(h:nO n0 w v ps)(e:iB m w w'):nO n0 w' v ps:=by obtain⟨a,b,c,d⟩:=h;refine⟨a,b,c.gi e,λk f=>?_⟩;obtain⟨u,g,i⟩:=d k f;exact⟨u,g,cA.gi i e⟩
theorem nO.ext(h:nO n0 w v ps)(e:Ext w w'):nO n0 w' v ps:=h.gi (e.gi 0)
theorem nO.low{a:Nat}(h:nO n0 w v ps)(b:a<=n0):nO a w v ps:=by obtain⟨c,d,e,f⟩:=h;exact⟨c,d,e.low b,λk g=>by obtain⟨u,i,j⟩:=f k g;exact⟨u,i,j.low b⟩⟩
theorem nO.blk(h:nO n0 w v ps){b:Nat}(a:cw v b):n0<=b/\b<w.heap.size:=by obtain⟨d,_,c,_⟩:=h;exact c.blk a
theorem nO.row(h:nO n0 w v ps):∃a c,v=.slice a ps.length c/\wA w a ps/\ps.length<=c:=by obtain⟨e,f,⟨z,⟨j,rfl⟩|⟨b,c,A,B,rfl,g,C,l,D,i,E⟩⟩,m⟩:=h;exact⟨none,0,by rw[j],λk d=>by omega,by omega⟩;refine⟨_,c,rfl,λk d=>?_,l⟩;obtain⟨u,n,o⟩:=m k d;obtain⟨p,q,rfl,r,s⟩:=o.row;obtain⟨t,x⟩:=BZ ps e f k d;have y:=BY ps e f;refine⟨b,0,p,q,rfl,ci g ?_,ci g ?_,r,s⟩;rw[cB,Nat.mul_comm,i _ (by omega)];exact t;rw[cB,Nat.mul_comm,i _ (by omega),x];exact n
theorem QH{k:ce->cd->Prop}{r:Array Bool}(h:nO n0 w v ps)(m:n0<=w.heap.size){b c:Nat}{u:ce}{p:Nat×List Nat}(n:dE n0 w u p.2)(s:w.heap[b]? =some (.cells [Value.int .i64 p.1,u].toArray 29))(d:ps.length+1<=1000000) (t:∀e w',nO n0 w' e (ps++[p])->(∀W,Ext W w->W.heap.size<=n0->Ext W w')->cN (cw v) w w'->(∀b,cw e b->cw v b\/w.heap.size<=b)->k e w'):wY V.prog (builtin .append #[26,26] T r #[v,.slice (some ⟨b,0,none⟩) 1 c]) w k:=by
 obtain⟨y,o,j,z⟩:=h;have f:u.oneCell'=true:=by obtain⟨a,c,rfl,_⟩:=dE.row n;rfl
 refine fP Tf j m s d (λe w' A l B=>t e w' ⟨y++[u],by simp[o],by rw[uZ _ _ _ _ o];simpa using A,λi C=>?_⟩ (λW D E=>D.iS l j E) l B) rfl (by show qC [u]=true;simp[qC,f]);rcases eA i ps.length with g|F;obtain⟨x,G,q⟩:=z i g;refine⟨x,by rw[kz (by omega)];exact G,?_⟩;rw[lI g];exact cA.keep q l (gd q j (by decide));obtain rfl:i=ps.length:=by simp at C;omega
 refine⟨u,by rw[mQ (by omega)];simp[o],?_⟩;simp only[qI (cz _),lf,mS];exact cA.keep n l (gd n j (by decide))
end
def QI(a:Nat)(L:Nat->Nat)(w:cd):Prop:=w.heap[a]? =some (.cells #[.int .u8 (L 0),.int .u8 (L 1),.int .u8 (L 2),.int .u8 (L 3),.int .u8 (L 4),.int .u8 (L 5)] 204)
theorem QI.cell{a:Nat}{L:Nat->Nat}{w:cd}(h:QI a L w){s:Nat}(b:s<6):w.cell? ⟨a,s,none⟩=some (.int .u8 (L s)):=by
 have:s=0\/s=1\/s=2\/s=3\/s=4\/s=5:=by omega
 rcases this with rfl|rfl|rfl|rfl|rfl|rfl<;>exact ci h rfl
theorem TA{w:cd}{k:cd->Prop}{a:Nat}{L:Nat->Nat}(h:QI a L w)(s v:Nat)(e:s<6)(b:∀w',cN (λx=>x=a) w w'->QI a (Ho L s v) w'->k w'):DR V.prog (Instr.storeAt 154 (.pointer (some ⟨a,0+s,none⟩)) (.int .u8 v)) w k:=by
 have:s=0\/s=1\/s=2\/s=3\/s=4\/s=5:=by omega
 rcases this with rfl|rfl|rfl|rfl|rfl|rfl<;>exact cZ h λw' c d=>b w' c (by unfold QI;rw[d];rfl)
end Go.Proofs.W
variable{D E:Bool}
namespace Go.Proofs.W
open Go.RowKit
def QJ{k:ce->cd->Prop}(L:Nat->Nat)(s:Nat)(a:s<6)(h:k (.int .u8 (L s)) w):iO V.prog (Instr.index 204 (.agg #[.int .u8 (L 0),.int .u8 (L 1),.int .u8 (L 2),.int .u8 (L 3),.int .u8 (L 4),.int .u8 (L 5)]) (.int .i64 s)) w k:=by
 have:s=0\/s=1\/s=2\/s=3\/s=4\/s=5:=by omega
 rcases this with rfl|rfl|rfl|rfl|rfl|rfl;exact⟨_,w,ES _ _ _ _ _ _ w,h⟩;exact⟨_,w,ET _ _ _ _ _ _ w,h⟩;exact⟨_,w,EU _ _ _ _ _ _ w,h⟩;exact⟨_,w,EV _ _ _ _ _ _ w,h⟩;exact⟨_,w,EX _ _ _ _ _ _ w,h⟩;exact⟨_,w,EY _ _ _ _ _ _ w,h⟩
theorem Aa{D:dR}{ps:List Nat}(a:H.doors.length<=5)(b:∀d∈D.opn,d<H.doors.length):∀k,k<=D.opn.length->∀s,lP H (mg D ps k s)
 |0,_,s=>lP.zero H
 |k+1,e,s=>by have c:=Aa (ps:=ps) a b k (by omega) s;simp only[mg,jz];split;exact c.nZ (b _ (by unfold fh;rw[getD_eq (by omega)];exact dt _)) a;exact c
def Ky.rows{o:Option (List (List Nat))}(h:Ky A o x D w):∃a c,x=.slice a (o.getD []).length c/\kZ A w a (o.getD []):=by
 cases o with
 |none=>exact⟨none,0,h.1,λk b=>by simp at b⟩
 |some f=>
  obtain⟨_,a,c,d,e,_⟩:=h;exact⟨a,c,d,e⟩
def U0(a:Nat)(o:Option (List (Nat×List Nat)))(v:ce)(w:cd):Prop:=match o with
 |none=>v=.tuple #[.slice none 0 0,.bool false]
 |some b=>∃u,v=.tuple #[u,.bool true]/\nO a w u b
def QK{wp gp mk ms n0:Nat}{G:Gd}{xs:List Sx}(h:kU wp gp mk ms G xs I w)(hA:∀b,A b->b<w.heap.size)(hp:ku A mk ms G w)(ay:n0<=mk)(hn:n0<=ms)(aV:∀x∈xs,tZ 100000 x)(hf:m<=fB G):
 Calls V.prog 117 #[cK wp,.int .i64 m] w (qa λv z=>MA n0 mk ms G A w z/\U0 w.heap.size (z7 G (iU G xs m)) v z):=by
 have az:=h.g.tY;have h5:=az.many;have aA:=h.len;refine go V.func117 Tryz.ntmps117 ?_;refine ck (zS h hA hp ay hn aV hf) ?_;rintro v w1 ⟨m1,pb,rfl,hP⟩;have hN:∀b,F3 w.heap.size w1 b->b<w1.heap.size:=λb f=>by obtain⟨_,_,_,_,f⟩:=f;exact cF.lt_of_heap f
 refine fG (F9 hP hN) (λz h=>.inr ⟨rfl,h⟩) ?_;rintro v w2 ⟨e2,y,rfl,X⟩;have hD:∀d∈(iU G xs m).opn,d<G.doors.length:=λd hd=>by rw[<-aA];exact kh hd
 have B:=FZ az aA m;have al:=Ge (iU G xs m);unfold z7;obtain⟨D,aW⟩:∃D,D=iU G xs m:=⟨_,rfl⟩;rw[<-aW]at hP X hD B al⊢;obtain⟨ya,yl,yc,ym,yk,yb⟩:=y;refine eF λw3 sb e3 aX aB=>cZ aB λw4 k4 F=>?_;have F:w4.heap[sb]? =some (.cells #[.slice ya yl yc,.int .i64 ym,.int .i64 yk,.bool yb] 199):=F;have am:Ext w2 w4:=e3.cy k4 aX;have an:Ext w1 w4:=e2.trans am;have s2:=e2.size;have bn:=an.size;cases hq:gm D with
 |none=>
  rw[hq]at X;have X:(⟨ya,yl,yc,ym,yk,yb⟩:SV)=⟨none,0,0,0,0,false⟩:=X;injection X with _ _ _ _ _ X;subst X;exact cu (ci F rfl) (eu (iR rfl (.inl ⟨_,rfl,(xP n0 mk ms G A).trans _ _ _ m1 (an.ma _ _ _ _ _),rfl⟩)))
 |some s=>
  obtain⟨l,mm,nn⟩:=s;rw[hq]at X al;obtain⟨q,rfl,bo,aY⟩:=al;obtain⟨y1,y2,y3,y4,y5⟩:=X;simp only at y1 y2 y3 y4 y5;subst y3;have y4:yl=q.length:=by rw[y4];simp
  subst y4
  have aZ:∀i (W:i<q.length),∃b,ya=some ⟨b,0,none⟩/\w1.heap.size<=b/\w2.cell? ⟨b,i,none⟩=some (.int .i64 q[i]):=λi W=>by
   rcases y5 with⟨h0,_⟩|⟨_,b,g1,g2,g3,_,fz,_,g4⟩;have:=cM List.length h0;simp at this;rw[this]at W;simp at W;refine⟨b,g2,g1,?_⟩;simp only[World.cell?,g4];have:(fE (q.map Int.ofNat) yc)[i]? =some (.int .i64 q[i]):=by unfold fE;simp[List.getElem?_append,W]
   simpa using this
  clear y5;refine cu (ci F rfl) (eu (iG rfl (eF λw5 O e5 bp ae=>?_)));have a0:QI O L0 w5:=ae;have aC:=an.trans e5;have a1:=am.trans e5;have bq:=cF.lt_of_heap ae;have a2:eV (F3 w.heap.size w1) pb D w5:=hP.same λb f=>aC.block b (hN b f);obtain⟨wk,u1,u2,fz,_,af,a3,aD⟩:=a2.at_;have H:∀{b:Nat},F3 w.heap.size w1 b->¬b=O:=λf e=>by have:=hN _ f;omega
  have c1:∀{z},cN (λx=>x=O) w5 z->z.cell? ⟨pb,1,none⟩=some u1:=λk=>k.ef (by simp only[World.cell?,af];rfl) (H hP.lt);have c2:∀{z},cN (λx=>x=O) w5 z->z.cell? ⟨pb,2,none⟩=some u2:=λk=>k.ef (by simp only[World.cell?,af];rfl) (H hP.lt);have br:=cF.lt_of_heap F;refine cu (ci (e5.at_ F) rfl) (cD ?_);refine ei (n:=q.length) (λi=>[(0,cK wp),(6,cK pb),(8,cK O),(29,.slice ya q.length yc),(30,.int .i64 q.length),(31,.int .i64 i)]) (λi z=>cN (λx=>x=O) w5 z/\QI O (mg D q i) z) ⟨⟨rfl,rfl,rfl,rfl,rfl,rfl,trivial⟩,cN.refl _ _,a0⟩ ?_ ?_ ?_;rintro i w6 W hJ;exact cV ⟨rfl,rfl,⟨rfl,rfl,rfl,rfl,rfl,rfl,trivial⟩,hJ⟩;rintro i w6 W ⟨k6,Y⟩;have bs:i<5:=by have:=B.five;omega
  obtain⟨ao,rfl,bm,aE⟩:=aZ i W;have ag:w6.cell? ⟨ao,i,none⟩=some (.int .i64 q[i]):=k6.ef (a1.cell aE) (λ(e:ao=O)=>by have:=nF aE;have:=am.size;omega);obtain⟨n,aF⟩:∃n,n=q[i]:=⟨_,rfl⟩;have C:=aY i W;rw[<-aF]at ag C;refine dI i W (cu (by rw[cB];exact ag) ?_);have P:i<D.lists.length:=by rw[B.len];omega
  have Z:i<D.opn.length:=by omega
  obtain⟨b2,bt,ui,a4,aG,a5,a6⟩:=aD.at_ i P;have aH:dz D i=D.lists[i]:=by unfold dz;rw[getD_eq P]
  rw[aH]at C;obtain⟨b3,bu,bv,a7,aI,a8,Q⟩:=a6.at_ n C;obtain⟨a9,ba,ap⟩:=Q.len;obtain⟨r,E⟩:∃r,r=D.lists[i][n]:=⟨_,rfl⟩;rw[<-E]at Q ap;have aJ:∀s∈r,s<6:=by rw[E];exact B.shift _ (dt P) _ (dt C)
  have aK:r.length<=65536:=by rw[E];exact B.long _ (dt P) _ (dt C)
  refine cu (c2 k6) ?_;rw[a4];refine dI i P (cu (by rw[cB];exact k6.ef a5 (H aG)) ?_);rw[a7];refine dI n C (cu (by rw[cB];exact k6.ef a8 (H aI)) ?_);rw[ap];have R:mg D q (i+1)=jz (fh D i) r (mg D q i):=by simp only[mg];rw[aH,getD_eq W,<-aF,getD_eq C,E]
  obtain⟨d,hd⟩:∃d,d=fh D i:=⟨_,rfl⟩;have aL:d=D.opn[i]:=by rw[hd];unfold fh;rw[getD_eq Z]
  have aq:d<5:=by have:=hD d (by rw[aL];exact dt Z);omega
  rw[<-hd]at R;obtain⟨b4,bw,ud,bc,aM,bd,ar⟩:=a3.at_ i Z;have ar:ud=.int .i64 d:=by rw[aL];exact ar
  subst ar;have ah:∀s,s<6->mg D q i s<32:=λs _=>(Aa h5 hD i (by omega) s).1;refine cD ?_;refine ei (n:=r.length) (λj=>[(0,cK wp),(6,cK pb),(8,cK O),(9,.int .i64 i),(29,.slice (some ⟨ao,0,none⟩) q.length yc),(30,.int .i64 q.length),(31,.int .i64 i),(45,.slice a9 r.length ba),(46,.int .i64 r.length),(47,.int .i64 j)]) (λj z=>cN (λx=>x=O) w5 z/\QI O (jz d (r.take j) (mg D q i)) z) ⟨⟨rfl,rfl,rfl,rfl,rfl,rfl,rfl,rfl,rfl,rfl,trivial⟩,k6,?_⟩ ?_ ?_ ?_;have:jz d (r.take 0) (mg D q i)=mg D q i:=by funext s;simp[jz]
  rw[this];exact Y;rintro j w7 J hJ;exact cV ⟨rfl,rfl,⟨rfl,rfl,rfl,rfl,rfl,rfl,rfl,rfl,rfl,rfl,trivial⟩,hJ⟩;rintro j w7 J ⟨k7,S⟩;obtain⟨b5,bx,us,aa,aN,be,au⟩:=Q.at_ j J;obtain⟨s,hs⟩:∃s,s=r[j]:=⟨_,rfl⟩;have au:us=.int .i64 s:=by rw[hs];exact au
  subst au;have K:s<6:=by rw[hs];exact aJ _ (dt J)
  rw[ap]at aa;injection aa with aa _ bz;subst aa;refine dI j J (cu (by rw[cB];exact k7.ef be (H aN)) ?_);have aO:jz d (r.take j) (mg D q i) s<32:=CZ aq ah s K;refine cQ cO (pM s 6 K (cG (by rw[cB];exact S.cell K) (cG (c1 k7) ?_)));rw[bc];refine me i Z (cG (by rw[cB];exact k7.ef bd (H aM)) (ia cO _ (λw8 e8=>yg _ d w8 aO aq) (pM s 6 K λw8 e8=>?_)));have bf:QI O (jz d (r.take j) (mg D q i)) w8:=e8.at_ S;refine TA bf s _ K λw9 k9 bg=>cq ⟨⟨rfl,rfl,rfl,rfl,rfl,rfl,rfl,rfl,rfl,rfl,trivial⟩,(k7.trans (e8.keep λ_=>False) (λ_ _ h=>h) λ_ _ h=>h.elim).trans k9 (λ_ _ h=>h) λ_ _ h=>h,?_⟩;have:=BA (L:=mg D q i) aq ah j J (by rw[<-hs];exact K);rw[<-hs]at this;rw[<-this];exact bg;rintro w7 ⟨k7,S⟩;rw[kX,<-R]at S;exact cq ⟨⟨rfl,rfl,rfl,rfl,rfl,rfl,trivial⟩,k7,S⟩;rintro w6 ⟨k6,Y⟩;have aK:(List.map Int.ofNat q).length=q.length:=by simp
  have aP:(List.map Int.ofNat q).map Int.toNat=q:=by simp[yw]
  simp only[aK,aP];obtain⟨t,aQ⟩:∃t,t=mg D q q.length:=⟨_,rfl⟩;rw[<-aQ]at Y⊢;have bh:∀s,lP G (t s):=λs=>by rw[aQ];exact Aa h5 hD _ (by omega) s
  have bi:Ext w1 w6:=aC.cy k6 (by omega);have m6:MA n0 mk ms G A w w6:=(xP n0 mk ms G A).trans _ _ _ m1 (bi.ma _ _ _ _ _);refine dP (vs:=[.int .u8 (t 0),.int .u8 (t 1),.int .u8 (t 2),.int .u8 (t 3),.int .u8 (t 4),.int .u8 (t 5)]) (λj v J=>by rw[cB];exact ci Y (by simpa using J)) ?_;have av:∀b,¬cw (.slice none 0 0) b:=λb f=>by obtain⟨_,_,f⟩:=f;cases f
  refine gC (n:=6) (λk v=>[(0,cK wp),(13,v),(66,.agg #[.int .u8 (t 0),.int .u8 (t 1),.int .u8 (t 2),.int .u8 (t 3),.int .u8 (t 4),.int .u8 (t 5)]),(67,.int .i64 k)]) (λk v z=>iB n0 w z/\ku (λx=>A x\/cw v x) mk ms G z/\nO w.heap.size z v (tP G t k)) (.slice none 0 0) ⟨⟨rfl,rfl,rfl,rfl,trivial⟩,m6.1,(m6.2 hp).more λb f=>f.elim .inl λf=>absurd f (av b),nO.nil _ _⟩ ?_ ?_ ?_;rintro k v w7 hk hJ;exact cV ⟨rfl,rfl,⟨rfl,rfl,rfl,rfl,trivial⟩,hJ⟩;rintro k v w7 hk ⟨m7,ab,ac⟩;have h7:=h.gi m7;have s7:=m7.size;obtain⟨sa,sc,g1,g2,g3,g4⟩:=h7.at_;refine QJ t k hk (cu g1 (ck (zM h7.g (λb f=>f.elim (λf=>by have:=hA b f;omega) λf=>(ac.blk f).2) ab ay hn (bh k)) ?_));rintro v8 w8 ⟨m8,u,b,rfl,bj⟩;have M8:=m7.trans m8.1;obtain⟨a,c,rfl,ai⟩:=bj.rows;obtain⟨M,aw⟩:∃M,M=(fJ G (t k)).getD []:=⟨_,rfl⟩;rw[<-aw]at ai⊢;have aR:M.length<=5/\∀l∈M,l.length<=5:=by
   rw[aw];cases hw:fJ G (t k)with
   |none=>exact⟨by simp,λl hl=>by cases hl⟩
   |some bA=>exact⟨pY hw,z9 hw⟩
  have bB:=z8 (G:=G) (L:=t) k;refine cD (gC (n:=M.length) (λj v=>[(0,cK wp),(13,v),(14,.int .i64 k),(66,.agg #[.int .u8 (t 0),.int .u8 (t 1),.int .u8 (t 2),.int .u8 (t 3),.int .u8 (t 4),.int .u8 (t 5)]),(67,.int .i64 k),(80,.slice a M.length c),(81,.int .i64 M.length),(82,.int .i64 j)]) (λj v z=>iB n0 w z/\ku (λx=>A x\/cw v x) mk ms G z/\nO w.heap.size z v (tP G t k++(M.take j).map λl=>(k,l))/\kZ (λx=>A x\/cw v x) z a M) v ⟨⟨rfl,rfl,rfl,rfl,rfl,rfl,rfl,rfl,trivial⟩,M8,m8.2 ab,by simpa using ac.gi m8.1,ai⟩ ?_ ?_ ?_);rintro j v w9 J hJ;exact cV ⟨rfl,rfl,⟨rfl,rfl,rfl,rfl,rfl,rfl,rfl,rfl,trivial⟩,hJ⟩;rintro j v w9 J ⟨m9,ax,ad,aS⟩;obtain⟨bb,oo,a',c',_,rfl,hc,bk,_⟩:=aS j J;refine dI j J (cu hc (ck (lx bk.n (by have:=aR.2 _ (dt J);omega)) λu bC hu=>?_));obtain⟨T,hu⟩:=hu;obtain⟨ua,uc,rfl,_,_⟩:=hu.row;have s9:=m9.size;have bD:=T.size;refine dA (.agg #[.int .i64 k,.slice ua M[j].length uc]) (dJ [.int .i64 k,.slice ua M[j].length uc] 29 λaT nb N bE f=>?_);have bl:iB n0 w aT:=m9.trans ((T.trans N).gi n0);have aj:=(ad.ext T).ext N;have U:=(ax.ext T).ext N;have aU:kZ (λx=>A x\/cw v x) aT (some ⟨bb,oo,none⟩) M:=aS.gi (n0:=0) ((T.trans N).gi 0);refine QH (p:=(k,M[j])) aj (by have:=N.size;omega) (cA.ext (hu.low (by omega)) N) f (by simp;omega) λv' bF g1 g2 g3 g4=>cq ⟨v',⟨rfl,rfl,rfl,rfl,rfl,rfl,rfl,rfl,trivial⟩,?_,?_,?_,?_⟩;obtain⟨us,_,q2,_⟩:=aj;exact bl.iS g3 q2 (cz _);exact U.go (λb f=>f.elim (λf=>.inl (.inl f)) λf=>(g4 b f).imp .inr id) (λb o v f hc=>g3.ef hc λhf=>f (.inr hf)) λb o f ho=>g3.fg ho λhf=>by rcases f with rfl|rfl;exact U.ak (.inr hf);exact U.asm (.inr hf)
  rw[gP J,nQ,<-List.append_assoc];exact g1;exact aU.go (λb f=>f.elim (λf=>.inl (.inl f)) λf=>(g4 b f).imp .inr id) λb o v f hc=>g3.ef hc λhf=>f (.inr hf);rintro v w9 ⟨m9,ax,ad,_⟩;rw[kX]at ad;refine cq ⟨v,⟨rfl,rfl,rfl,rfl,trivial⟩,m9,ax,?_⟩;rw[xq,<-aw];exact ad;rintro v w7 ⟨m7,ab,ac⟩;exact .inl ⟨_,rfl,⟨m7,λ_=>ab.fewer λb f=>.inl f⟩,_,rfl,ac⟩
def nH{b:Type}(a:b->Nat)(es:List b):Nat->List b
 |0=>es
 |j+1=>match es[j+1]?,es[j]? with
  |some x,some y=>if a x<a y then nH a ((es.set (j+1) y).set j x) j else es
  |_,_=>es
def ly{b:Type}(a:b->Nat)(es:List b):Nat->List b
 |0=>es
 |k+1=>nH a (ly a es k) (k+1)
def pq{a:Type}(b:a->Nat)(es:List a):List a:=ly b es (es.length-1)
theorem B2{b:Type}(a:b->Nat):∀(j:Nat) (es:List b),(nH a es j).length=es.length
 |0,es=>rfl
 |j+1,es=>by simp only[nH];split;split;rw[B2 a j];simp;rfl;rfl
theorem qb{b:Type}(a:b->Nat)(es:List b):∀k,(ly a es k).length=es.length
 |0=>rfl
 |k+1=>by simp only[ly];rw[B2,qb a es k]
theorem B3{d:Type}(c:d->Nat):∀(j:Nat) (es:List d) (x:d),x∈nH c es j->x∈es
 |0,es,x,h=>h
 |j+1,es,x,h=>by simp only[nH]at h;split at h;rename_i a b e f;split at h;have:=B3 c j _ x h;rcases oS this with h|rfl;rcases oS h with h|rfl;exact h;exact nR f;exact nR e;exact h;exact h
theorem tQ{b:Type}(a:b->Nat)(es:List b):∀(k:Nat) (x:b),x∈ly a es k->x∈es
 |0,x,h=>h
 |k+1,x,h=>tQ a es k x (B3 a _ _ x h)
theorem B4{c d:Type}(b:c->Nat)(a:d->Nat)(f:c->d)(e:∀x,a (f x)=b x):∀(j:Nat) (es:List c),nH a (es.map f) j=(nH b es j).map f
 |0,es=>rfl
 |j+1,es=>by
  simp only[nH,mR];cases g:es[j+1]? with
  |none=>rfl
  |some x=>
   cases h:es[j]? with
   |none=>rfl
   |some y=>
    simp only[iX,e];split;rw[<-B4 b a f e j];simp;rfl
theorem Ab{c d:Type}(b:c->Nat)(a:d->Nat)(f:c->d)(e:∀x,a (f x)=b x)(es:List c):∀k,ly a (es.map f) k=(ly b es k).map f
 |0=>rfl
 |k+1=>by simp only[ly];rw[Ab b a f e es k,B4 b a f e]
def Lg{c d:Type}(b:c->Nat)(a:d->Nat)(f:c->d)(e:∀x,a (f x)=b x)(es:List c):pq a (es.map f)=(pq b es).map f:=by unfold pq;rw[kV,Ab b a f e]
structure El where
 s:Nat
 a:Option Addr
 c:Nat
 l:List Nat
def vF(e:El):List ce:=[.int .i64 e.s,.slice e.a e.l.length e.c]
structure pr(sb:Nat)(es:List El)(w:cd):Prop where
 out:∃cs,w.heap[sb]? =some (.cells cs 29)/\es.length*2<=cs.size/\∀k (h:k<es.length) j v,(vF es[k])[j]? =some v->cs[k*2+j]? =some v
section
variable{w:cd}{sb:Nat}{es:List El}
def pr.ext{a:cd}(h:pr sb es w)(e:Ext w a):pr sb es a:=by obtain⟨b,c,d⟩:=h.out;exact⟨b,e.at_ c,d⟩
def pr.keep{a:cd}{F:Nat->Prop}(h:pr sb es w)(k:cN F w a)(b:¬F sb):pr sb es a:=by obtain⟨c,d,e⟩:=h.out;exact⟨c,k.fg d b,e⟩
def pr.cell(h:pr sb es w)(k:Nat)(a:k<es.length):∀j v,(vF es[k])[j]? =some v->w.cell? ⟨sb,0+k*2+j,none⟩=some v:=λj v b=>by obtain⟨e,c,f,d⟩:=h.out;exact ci c (by rw[cB];exact d k a j v b)
def R6{s:cd->Prop}(h:pr sb es w)(k:Nat)(z:k<es.length)(e:El)(n:∀a,cN (λx=>x=sb) w a->pr sb (es.set k e) a->s a):DR V.prog (Instr.storeAt 29 (.pointer (some ⟨sb,0+k*2,none⟩)) (.agg (vF e).toArray)) w s:=by
 obtain⟨o,p,q,r⟩:=h.out;have A:k*2+2<=o.size:=by have:=oq 2 (show k+1<=es.length by omega);omega
 refine iA p (by show 0+k*2+2<=_;omega) (λa t c=>n a t ⟨_,c,by rw[n8];simpa using q,λi v j u b=>?_⟩) (fU (l:=vF e) rfl);have y:j<2:=(gy.1 b).1;rw[nB _ _ _ _ (by show 0+k*2+2<=_;omega)];have d:(Value.agg (vF e).toArray).cells.toList=vF e:=rfl;rw[d];have f:(vF e).length=2:=rfl;rw[f];have g:i<es.length:=by simpa using v
 by_cases m:i=k;subst m;rw[List.getElem_set_self]at b;rw[cx (by omega),show i*2+j-(0+i*2)=j by omega];exact b;rw[List.getElem_set_ne (by omega)]at b;rw[cr (by omega)];exact r i g j u b
end
def QL(s t:Nat)(a b:Option Addr)(l g c h:Nat)(w:cd)(r:s<=1000000)(u:t<=1000000):Calls V.prog 157 #[.agg #[.int .i64 s,.slice a l c],.agg #[.int .i64 t,.slice b g h]] w (fy λv k=>v=.int .i64 ((s:Int)-t)/\Ext w k):=by refine go V.func157 Tryz.ntmps157 ?_;refine fo λm n o p e=>fo λq f i j d=>?_;have e:m.heap[n]? =some (.cells #[.int .i64 s,.slice a l c] 29):=e;have d:q.heap[f]? =some (.cells #[.int .i64 t,.slice b g h] 29):=d;exact cu (ci (i.at_ e) rfl) (cu (ci d rfl) (fx ⟨_,rfl,rfl,o.trans i⟩))
def H8:ce:=.func (.func 157) #[] #[]
def B5{f c:Nat}{g:List El}(h:pr f g w)(hn:0<g.length)(aa:g.length<=1000)(hs:∀e∈g,e.s<=1000000):
 Calls V.prog 200 #[.slice (some ⟨f,0,none⟩) g.length c,.int .i64 0,.int .i64 g.length,H8] w (fy λv A=>cN (λx=>x=f) w A/\pr f (pq El.s g) A):=by
 refine go V.func200 Tryz.ntmps200 ?_;refine cq ?_;refine dZ (g.length-1) (λk (_:Unit)=>[(0,.slice (some ⟨f,0,none⟩) g.length c),(1,.int .i64 0),(2,.int .i64 g.length),(3,H8),(8,.int .i64 (k+1:Nat))]) (λk _ A=>cN (λx=>x=f) w A/\pr f (ly El.s g k) A) () ⟨⟨rfl,rfl,rfl,rfl,rfl,trivial⟩,cN.refl _ _,h⟩ ?_;rintro k _ w1 hk ⟨k1,R⟩;have L:(ly El.s g k).length=g.length:=qb _ _ _;refine cV ⟨λM=>?_,λB=>?_⟩;have M:k+1<g.length:=by have:=cY M;omega
 obtain⟨r,u⟩:∃r,r=ly El.s g k:=⟨_,rfl⟩;have C:∀x∈r,x.s<=1000000:=λx K=>hs x (by rw[u]at K;exact tQ _ _ _ _ K);rw[<-u]at R L;refine dZ (k+1) (λt (d:List El)=>[(0,.slice (some ⟨f,0,none⟩) g.length c),(1,.int .i64 0),(2,.int .i64 g.length),(3,H8),(8,.int .i64 (k+1:Nat)),(9,.int .i64 (k+1-t:Nat))]) (λt d A=>cN (λx=>x=f) w A/\pr f d A/\d.length=g.length/\(∀x∈d,x.s<=1000000)/\nH El.s d (k+1-t)=nH El.s r (k+1)) r ⟨⟨rfl,rfl,rfl,rfl,rfl,rfl,trivial⟩,k1,R,L,C,rfl⟩ ?_;rintro t d w2 ht ⟨k2,Q,S,D,E⟩;obtain⟨j,hj⟩:∃j,j=k+1-t:=⟨_,rfl⟩;rw[<-hj]at E⊢;have stop:∀o,Ext w2 o->nH El.s d j=d->cN (λx=>x=f) w o/\pr f (ly El.s g (k+1)) o:=λo n T=>by refine⟨k2.trans (n.keep λ_=>False) (λ_ _ h=>h) λ_ _ h=>h.elim,?_⟩;simp only[ly];rw[<-u,<-E,T];exact Q.ext n
 refine cQ cO (FB ⟨λp=>?_,λp=>?_⟩);have p:0<j:=by have:=cY p;omega
 obtain⟨i,rfl⟩:∃i,j=i+1:=⟨j-1,by omega⟩;have F:i+1<d.length:=by omega
 have G:i<d.length:=by omega
 obtain⟨x,K⟩:∃x,x=d[i+1]:=⟨_,rfl⟩;obtain⟨y,U⟩:∃y,y=d[i]:=⟨_,rfl⟩;have W:=Q.cell (i+1) F;have X:=Q.cell i G;rw[<-K]at W;rw[<-U]at X;have N:x.s<=1000000:=D x (by rw[K];exact dt _);have O:y.s<=1000000:=D y (by rw[U];exact dt _);have l:nH El.s d (i+1)=if x.s<y.s then nH El.s ((d.set (i+1) y).set i x) i else d:=by simp only[nH];rw[ew F,ew G,<-K,<-U]
 refine kK (i+1) 2 (by omega) (dx (.agg (vF x).toArray) (λo n=>dP (vs:=vF x) (λm v H=>n.cell (W m v H)) ⟨rfl,Ext.refl _⟩) (vX (kK i 2 (by omega) (dx (.agg (vF y).toArray) (λo n=>dP (vs:=vF y) (λm v H=>n.cell (X m v H)) ⟨rfl,Ext.refl _⟩) (je (.int .i64 ((x.s:Int)-y.s)) (λo n=>QL x.s y.s _ _ _ _ _ _ o N O) (RH λo n=>⟨λI=>?_,λI=>?_⟩))) (by omega))));have I:x.s<y.s:=by have:=cY I;omega
 rw[cx I]at l;have h3:=Q.ext n;have k3:cN (λx=>x=f) w o:=k2.trans (n.keep λ_=>False) (λ_ _ h=>h) λ_ _ h=>h.elim;refine fV 15 cO (gu (λx=>x=f)) (λa b h=>h.keep _) ?_;refine .exact (.int .i64 ((i+1:Nat)-1)) (λq _=>fx ⟨rfl,Ext.refl _⟩) (.exact (.int .i64 ((i+1:Nat)-1)) (λq _=>fx ⟨rfl,Ext.refl _⟩) (.exact (.pointer (some ⟨f,0+i*2,none⟩)) (λq _=>fF i 2 (by omega) ⟨rfl,Ext.refl _⟩ (by omega)) ?_));refine .C3 rfl (.agg (vF y).toArray) (λq J=>dP (vs:=vF y) (λm v H=>J.cell (n.cell (X m v H))) ⟨rfl,Ext.refl _⟩) (.exact (.pointer (some ⟨f,0+(i+1)*2,none⟩)) (λq _=>fF (i+1) 2 (by omega) ⟨rfl,Ext.refl _⟩) (.C3 rfl (.agg (vF x).toArray) (λq J=>dP (vs:=vF x) (λm v H=>J.cell (n.cell (W m v H))) ⟨rfl,Ext.refl _⟩) (.exact (.pointer (some ⟨f,0+(i+1)*2,none⟩)) (λq _=>fF (i+1) 2 (by omega) ⟨rfl,Ext.refl _⟩) ?_)));refine .xd (λ_ q=>pr f (d.set (i+1) y) q) (λ_ a b h e=>h.ext e) (λq J=>R6 (h3.ext J) (i+1) F y λw5 Y Z=>⟨Z,Y⟩) ?_;refine .exact (.pointer (some ⟨f,0+i*2,none⟩)) (λq _=>fF i 2 (by omega) ⟨rfl,Ext.refl _⟩ (by omega)) ?_;intro q J hJ;have hJ:pr f (d.set (i+1) y) q:=hJ;refine R6 hJ i (by simpa using G) x λw5 Y Z=>fx ⟨by omega,(d.set (i+1) y).set i x,⟨rfl,rfl,rfl,rfl,rfl,?_,trivial⟩,(k3.trans J (λ_ _ h=>h) λ_ _ h=>h).trans Y (λ_ _ h=>h) λ_ _ h=>h,Z,by simpa using S,λz P=>?_,?_⟩;show some (Value.int .i64 (((i+1:Nat):Int)-1))=some (.int .i64 ((k+1-(t+1):Nat)));rw[show((i+1:Nat):Int)-1=((k+1-(t+1):Nat):Int) by omega];rcases oS P with P|rfl;rcases oS P with P|rfl;exact D z P;exact O;exact N;rw[show k+1-(t+1)=i by omega,<-l,E];have I:¬x.s<y.s:=by have:=dQ I;omega
 rw[cr I]at l;exact cq ⟨by omega,(),⟨rfl,rfl,rfl,rfl,rfl,trivial⟩,stop o n l⟩;have p:j=0:=by have:=dQ p;omega
 subst p;exactλo n=>iG rfl (cq ⟨by omega,(),⟨rfl,rfl,rfl,rfl,rfl,trivial⟩,stop o n rfl⟩);have B:k=g.length-1:=by have:=dQ B;omega
 subst B;exact⟨_,rfl,k1,R⟩
def tR(e:Nat)(w:cd)(v:ce)(b:List El):Prop:=(b=[]/\∃a c,v=.slice a 0 c)\/∃d c,e<=d/\v=.slice (some ⟨d,0,none⟩) b.length c/\pr d b w
def rR(v:ce)(a:Nat)(w:cd)(c:a<=1000):Calls V.prog 200 #[v,.int .i64 a,.int .i64 a,H8] w (fy λv b=>b=w):=by refine go V.func200 Tryz.ntmps200 ?_;refine cq ?_;refine dZ 0 (λk (_:Unit)=>[(2,.int .i64 a),(8,.int .i64 ((a:Int)+1))]) (λk _ b=>b=w) () ⟨⟨rfl,rfl,trivial⟩,rfl⟩ ?_;rintro k _ b d rfl;exact cV (iG (by simp;omega) ⟨_,rfl,rfl⟩)
def H9{d:List El}(h:tR m w x d)(A:d.length<=20)(B:∀e∈d,e.s<=1000000):
 Calls V.prog 184 #[x,.int .i64 d.length,H8] w (fy λ_ b=>cN (λg=>m<=g) w b/\tR m b x (pq El.s d)):=by
 refine go V.func184 Tryz.ntmps184 ?_;have n:(pq El.s d).length=d.length:=qb _ _ _;refine dZ 1 (λk (_:Unit)=>[(0,x),(1,.int .i64 d.length),(2,H8),(6,.int .i64 20),(7,.int .i64 (20*k:Nat)),(8,.int .i64 (20*k+20:Nat))]) (λk _ b=>cN (λg=>m<=g) w b/\(k=0->tR m b x d)/\(k=1->d.length=20/\tR m b x (pq El.s d))) () ⟨⟨rfl,rfl,rfl,rfl,rfl,rfl,trivial⟩,cN.refl _ _,λ_=>h,λh=>by omega⟩ ?_;rintro k _ r q ⟨o,C,t⟩;refine sW ⟨λf=>?_,λf=>?_⟩;have f:20*k+20<=d.length:=by have:=cY f;omega
 obtain rfl:k=0:=by omega
 rcases C rfl with⟨rfl,_⟩|⟨p,c,u,rfl,v⟩;simp at f;have j:d.length=20:=by omega
 have D:=B5 (c:=c) v (by omega) (by omega) B;rw[j]at D⊢;refine ck D ?_;rintro _ i ⟨y,z⟩;refine cq ⟨by omega,(),⟨rfl,rfl,rfl,rfl,rfl,rfl,trivial⟩,o.trans y (λ_ _ h=>h) λg _ (E:g=p)=>by omega,λh=>by omega,λ_=>⟨rfl,.inr ⟨p,c,u,by rw[n,j],z⟩⟩⟩;have f:¬20*k+20<=d.length:=by have:=dQ f;omega
 have F:∀{Q:QW} {G:L} {i:cd},cN (λg=>m<=g) w i/\tR m i x (pq El.s d)->(∀l b,cN (λg=>m<=g) w b/\tR m b x (pq El.s d)->Q .normal l b)->True:=λ_ _=>trivial;obtain rfl|rfl:k=0\/k=1:=by omega
 rcases C rfl with⟨rfl,a,c,rfl⟩|⟨p,c,u,rfl,v⟩;refine ck (rR _ 0 r (by omega)) ?_;rintro _ i rfl;refine dZ 0 (λk (_:Unit)=>[(1,.int .i64 0),(6,.int .i64 20)]) (λk _ b=>b=i) () ⟨⟨rfl,rfl,trivial⟩,rfl⟩ ?_;rintro k _ b q rfl;exact cV (iG rfl ⟨_,rfl,o,.inl ⟨rfl,a,c,rfl⟩⟩);rcases nS d.length with j|j;obtain rfl:=l9 j;refine ck (rR _ 0 r (by omega)) ?_;rintro _ i rfl;refine dZ 0 (λk (_:Unit)=>[(1,.int .i64 0),(6,.int .i64 20)]) (λk _ b=>b=i) () ⟨⟨rfl,rfl,trivial⟩,rfl⟩ ?_;rintro k _ b q rfl;exact cV (iG rfl ⟨_,rfl,o,.inl ⟨rfl,_,c,rfl⟩⟩);refine ck (B5 (c:=c) v j (by omega) B) ?_;rintro _ i ⟨y,z⟩;refine dZ 0 (λk (_:Unit)=>[(1,.int .i64 d.length),(6,.int .i64 20)]) (λk _ b=>b=i) () ⟨⟨rfl,rfl,trivial⟩,rfl⟩ ?_;rintro k _ b q rfl;exact cV (iG (by simp;omega) ⟨_,rfl,o.trans y (λ_ _ h=>h) λg _ (E:g=p)=>by omega,.inr ⟨p,c,u,by rw[n],z⟩⟩);obtain⟨j,t⟩:=t rfl;rw[j];refine ck (rR _ 20 r (by omega)) ?_;rintro _ i rfl;refine dZ 0 (λk (_:Unit)=>[(1,.int .i64 20),(6,.int .i64 20)]) (λk _ b=>b=i) () ⟨⟨rfl,rfl,trivial⟩,rfl⟩ ?_;rintro k _ b q rfl;exact cV (iG rfl ⟨_,rfl,o,t⟩)
def tR.v_{b:List El}(h:tR m w x b):∃a c,x=.slice a b.length c:=by rcases h with⟨rfl,a,c,rfl⟩|⟨d,c,_,rfl,_⟩;exact⟨a,c,rfl⟩;exact⟨_,c,rfl⟩
def Oo{d:List El}(h:tR m w x d)(b:d.length<=20)(g:∀e∈d,e.s<=1000000):
 Calls V.prog 156 #[x,H8] w (fy λ_ f=>cN (λi=>m<=i) w f/\tR m f x (pq El.s d)):=by
 obtain⟨a,c,rfl⟩:=h.v_;refine go V.func156 Tryz.ntmps156 ?_;refine cD (ck (H9 h b g) ?_);rintro _ k j;exact⟨_,rfl,j⟩
def Yh(x:Sx):ce:=.agg (kY x).toArray
def Ia{wp gp mk ms wb:Nat}{e:List Sx}(h:kU wp gp mk ms H e I w)(f:w.heap[wb]? =some (.cells #[cK wp] 133))(x:Sx):Calls V.prog 160 #[Yh x,cK wb] w (fy λv i=>v=.bool (!gA H.tries x)/\Ext w i):=by obtain⟨p,q,k,r,s,t⟩:=h.at_;refine go V.func160 Tryz.ntmps160 ?_;refine fo λl m c n a=>?_;have a:l.heap[m]? =some (.cells (kY x).toArray 166):=a;refine cQ cO (cG (ci (c.at_ f) rfl) (cG (c.cell k) (dx (Yh x) (λd b=>dP (vs:=kY x) (λj v o=>by rw[cB];exact ci (b.at_ a) (by simpa using o)) ⟨rfl,Ext.refl _⟩) (je (.bool (gA H.tries x)) (λd b=>uL (h.g.ext (c.trans b)) x) (rE λd b=>⟨_,rfl,rfl,c.trans b⟩)))))
def qc(p:Sx->Bool):List Sx->Nat->Int
 |[],_=> -1
 |y::r,i=>if p y then i else qc p r (i+1)
def Gf(p:Sx->Bool)(l:List Sx)(k:Nat)(a:k<l.length):qc p (l.drop k) k=if p l[k]then(k:Int)else qc p (l.drop (k+1)) (k+1):=by rw[qH a];rfl
theorem Ac(p:Sx->Bool):∀(l:List Sx) (i:Nat),decide (0<=qc p l i)=l.any p
 |[],_=>rfl
 |y::r,i=>by
  simp only[qc,List.any_cons];by_cases h:p y=true;simp[h];have h:p y=false:=by simpa using h
  simpa[h]using Ac p r (i+1)
def Lh{wp gp mk ms wb:Nat}{q:List Sx}(h:kU wp gp mk ms H q I w)(r:w.heap[wb]? =some (.cells #[cK wp] 133)){d:List Sx}{c:Nat}(s:tI w a d)(m:d.length<=100000):
 Calls V.prog 159 #[.slice a d.length c,.func (.func 160) #[] #[cK wb]] w (fy λv g=>v=.bool (d.any λx=>!gA H.tries x)/\Ext w g):=by
 have i:Calls V.prog 185 #[.slice a d.length c,.func (.func 160) #[] #[cK wb]] w (fy λv g=>v=.int .i64 (qc (λx=>!gA H.tries x) d 0)/\Ext w g):=by refine go V.func185 Tryz.ntmps185 ?_;refine cD (ei (n:=d.length) (λk=>[(0,.slice a d.length c),(1,.func (.func 160) #[] #[cK wb]),(7,.int .i64 d.length),(8,.int .i64 k)]) (λk g=>Ext w g/\qc (λx=>!gA H.tries x) d 0=qc (λx=>!gA H.tries x) (d.drop k) k) ⟨⟨rfl,rfl,rfl,rfl,trivial⟩,Ext.refl _,rfl⟩ ?_ ?_ ?_);rintro k l j t;exact cV ⟨rfl,rfl,⟨rfl,rfl,rfl,rfl,trivial⟩,t⟩;rintro k l j ⟨e,f⟩;obtain⟨b,o,rfl,u⟩:=(s.ext e) k j;rw[Gf _ _ _ j]at f;refine fF k 8 j (dP (vs:=kY d[k]) u (dq (v0:=.bool (!gA H.tries d[k])) (Ia (h.ext e) (e.at_ r) d[k]) λA p=>⟨λy=>?_,λz=>?_⟩));rw[cx y]at f;exact⟨_,rfl,by rw[f];rfl,e.trans p⟩;rw[cr (by rw[z];simp)]at f;exact cq ⟨⟨rfl,rfl,rfl,rfl,trivial⟩,e.trans p,f⟩;rintro l ⟨e,f⟩;exact⟨_,rfl,by rw[f];simp[qc],e⟩
 refine go V.func159 Tryz.ntmps159 ?_;exact dq i λl e=>n6 ⟨_,rfl,by rw[<-Ac _ d 0];rfl,e⟩
end Go.Proofs.W
variable{S:cd->Prop}
namespace Go.Proofs.W
open Go.RowKit
def im(T:Int)(b:Nat):List Sx->List Nat->Option (List Sx)
 |a,[]=>some a
 |a,d::r=>if tH (a.getD d oe) (b/2)||gA T (a.getD d oe)then none else im T b (a.set d (iJ (a.getD d oe) b false)) r
def Li(f:Nat->Int)(s:Nat)(v:Int):Nat->Int:=λx=>if x=s then v else f x
def iM(G:Gd)(b:Int):List Sx->(Nat->Int)->List (Nat×List Nat)->Option (List Sx)
 |c,_,[]=>some c
 |c,a,p::r=>if b<a p.1+1\/G.minutes<dF G p.2 then none else match im G.tries p.1 c p.2 with
  |none=>none
  |some d=>iM G b d (Li a p.1 (a p.1+1)) r
def sq(G:Gd)(c:List Sx)(a:Int)(d:List (Nat×List Nat)):Bool:=match iM G a c (λ_=>0) (pq Prod.fst d)with
 |none=>false
 |some b=>!b.any λx=>!gA G.tries x
def xS(T:Int)(b:Nat)(a:List Sx)(l:List Nat)(k:Nat)(c:k<l.length):im T b a (l.drop k)=if tH (a.getD l[k] oe) (b/2)||gA T (a.getD l[k] oe)then none else im T b (a.set l[k] (iJ (a.getD l[k] oe) b false)) (l.drop (k+1)):=by rw[qH c];rfl
def xT(G:Gd)(b:Int)(e:List Sx)(a:Nat->Int)(c:List (Nat×List Nat))(k:Nat)(f:k<c.length):iM G b e a (c.drop k)=if b<a c[k].1+1\/G.minutes<dF G c[k].2 then none else match im G.tries c[k].1 e c[k].2 with
 |none=>none
 |some d=>iM G b d (Li a c[k].1 (a c[k].1+1)) (c.drop (k+1)):=by
 rw[qH f];rfl
def tZ.le{x:Sx}(h:tZ k x)(d:k<=m):tZ m x:=by obtain⟨a,b,c⟩:=h;refine⟨⟨a.1,by omega⟩,⟨b.1,by omega⟩,c.1,by omega⟩
theorem xr{c:Type}{P:Nat->c->Prop}:∀(n:Nat),(∀k,k<n->∃x,P k x)->∃l:List c,l.length=n/\∀k (h:k<l.length),P k l[k]
 |0,_=>⟨[],rfl,λk b=>by simp at b⟩
 |n+1,h=>by
  obtain⟨l,d,e⟩:=xr n λk b=>h k (by omega);obtain⟨x,f⟩:=h n (by omega);refine⟨l++[x],by simp[d],λk b=>?_⟩;rcases eA k l.length with a|g;rw[lI a];exact e k a;obtain rfl:k=n:=by simp at b;omega
  have:(l++[x])[k]=x:=by simp[d]
  rw[this];exact f
theorem wB:∀a:List El,(a.flatMap vF).length=a.length*2
 |[]=>rfl
 |x::r=>by have:=wB r;simp[vF,this];omega
theorem wC:∀(a:List El) (k:Nat) (b:k<a.length) (j:Nat) (v:ce),(vF a[k])[j]? =some v->(a.flatMap vF)[k*2+j]? =some v
 |x::r,0,_,j,v,h=>by have c:j<(vF x).length:=(gy.1 h).1;simp only[ky,Nat.zero_mul,cB];rw[kz c];exact h
 |x::r,k+1,b,j,v,h=>by have d:=wC r k (by simpa using b) j v (by simpa using h);have e:(vF x).length=2:=rfl;simp only[ky];rw[mQ (by omega),e,show(k+1)*2+j-2=k*2+j by omega];exact d
def Lj(e:El):Nat×List Nat:=(e.s,e.l)
def wA.Zz{f:List (Nat×List Nat)}(h:wA w a f):∃g:List El,g.map Lj=f/\(∀e∈g,eO w e.a e.l/\e.l.length<=e.c)/\jA w a (g.flatMap vF):=by
 obtain⟨g,A,p⟩:=xr (P:=λk (e:El)=>∃(m:k<f.length),Lj e=f[k]/\eO w e.a e.l/\e.l.length<=e.c/\∃b o,a=some ⟨b,o,none⟩/\∀j v,(vF e)[j]? =some v->w.cell? ⟨b,o+k*2+j,none⟩=some v) f.length λk m=>by
  obtain⟨b,o,B,C,q,s,D,E,F⟩:=h k m;refine⟨⟨f[k].1,B,C,f[k].2⟩,m,rfl,E,F,b,o,q,λj v d=>?_⟩;match j,d with
  |0,d=>cases d;exact s
  |1,d=>cases d;exact D
 refine⟨g,?_,λe G=>?_,?_⟩;apply List.ext_getElem;simpa using A;intro i n t;rw[List.getElem_map];exact(p i (by simpa using n)).2.1;obtain⟨i,H,rfl⟩:=List.getElem_of_mem G;obtain⟨_,_,q,s,_⟩:=p i H;exact⟨q,s⟩;rcases g with _|⟨x,r⟩;exact .inl rfl;obtain⟨_,_,_,_,b,o,rfl,_⟩:=p 0 (by simp);refine .inr ⟨b,o,rfl,λj u d=>?_⟩;have I:j<(x::r).length*2:=by rw[<-wB];exact(gy.1 d).1
 have m:j/2<(x::r).length:=by omega
 obtain⟨_,_,_,_,J,K,e,L⟩:=p (j/2) m;obtain⟨rfl,rfl⟩:b=J/\o=K:=by injection e with e;injection e with M N;exact⟨M,N⟩
 have O:j%2<(vF (x::r)[j/2]).length:=by show j%2<2;omega
 have z:=ew O;have n:=wC (x::r) (j/2) m (j%2) _ z;have t:=L (j%2) _ z;have y:j/2*2+j%2=j:=by omega
 rw[y]at n;rw[d]at n;obtain rfl:=cE n;have:o+j/2*2+j%2=o+j:=by omega
 rw[this]at t;exact t
def wA.rI{a:List (Nat×List Nat)}(h:wA w none a):a.length=0:=by rcases a with _|⟨x,r⟩;rfl;obtain⟨b,o,_,_,e,_⟩:=h 0 (by simp);cases e
theorem wA.gi{n0:Nat}{c:List (Nat×List Nat)}(h:wA w a c)(e:iB n0 w t):wA t a c:=λk d=>by obtain⟨b,o,f,g,i,j,l,m,n⟩:=h k d;exact⟨b,o,f,g,i,e.cell j,e.cell l,m.gi e,n⟩
def Gg{d:List El}{c:Nat}(m:jA w a (d.flatMap vF))(n:a=none->d.length=0)(f:d.length<=1000000):Calls V.prog 155 #[.slice a d.length c] w (fy λv h=>Ext w h/\tR w.heap.size h v d):=by refine(NF a d.length c (d.flatMap vF) w (wB d) n m (λu g=>?_) f).mono ?_;obtain⟨x,_,g⟩:=lJ.1 g;simp[vF]at g;rcases g with rfl|rfl<;>rfl;rintro e h ⟨v,rfl,i,C,⟨o,rfl⟩|⟨b,p,q,r,rfl,s,t,y,D,z,E⟩⟩;exact⟨_,rfl,i,.inl ⟨l9 o,none,0,rfl⟩⟩;refine⟨_,rfl,i,.inr ⟨b,p,r,rfl,⟨q,s,?_,λk A j v B=>?_⟩⟩⟩;have:([.int .i64 0,.slice none 0 0]:List ce).length=2:=rfl;rw[this]at t;have:=oq 2 y;omega;have l:=wC d k A j v B;rw[z _ (gy.1 l).1];exact l
def QM(a:Nat)(f:Nat->Int)(w:cd):Prop:=w.heap[a]? =some (.cells #[.int .i64 (f 0),.int .i64 (f 1),.int .i64 (f 2),.int .i64 (f 3),.int .i64 (f 4),.int .i64 (f 5)] 178)
def QM.cell{f:Nat->Int}(h:QM m f w)(a:s<6):w.cell? ⟨m,0+s,none⟩=some (.int .i64 (f s)):=by
 have:s=0\/s=1\/s=2\/s=3\/s=4\/s=5:=by omega
 rcases this with rfl|rfl|rfl|rfl|rfl|rfl<;>exact ci h rfl
def TB{f:Nat->Int}(h:QM m f w)(s:Nat)(v:Int)(e:s<6)(b:∀a,cN (λx=>x=m) w a->QM m (Li f s v) a->S a):DR V.prog (Instr.storeAt 3 (.pointer (some ⟨m,0+s,none⟩)) (.int .i64 v)) w S:=by
 have:s=0\/s=1\/s=2\/s=3\/s=4\/s=5:=by omega
 rcases this with rfl|rfl|rfl|rfl|rfl|rfl<;>exact cZ h λa c d=>b a c (by unfold QM;rw[d];rfl)
theorem tM.keep{a:List Sx}(h:tM m w x a)(k:cN A w t)(e:∀b,cw x b->¬A b):tM m t x a:=by rcases h with h|⟨d,c,f,rfl,g⟩;exact .inl h;exact .inr ⟨d,c,f,rfl,g.keep k (e d ⟨_,_,rfl⟩)⟩
theorem tR.keep{a:List El}(h:tR m w x a)(k:cN A w t)(e:∀b,cw x b->¬A b):tR m t x a:=by rcases h with h|⟨d,c,f,rfl,g⟩;exact .inl h;exact .inr ⟨d,c,f,rfl,g.keep k (e d ⟨_,_,rfl⟩)⟩
def tM.v_{b:List Sx}(h:tM m w x b):∃a c,x=.slice a b.length c:=by rcases h with⟨rfl,a,c,rfl⟩|⟨d,c,_,rfl,_⟩;exact⟨a,c,rfl⟩;exact⟨_,c,rfl⟩
def tM.WZ{b:List Sx}(h:tM m w x b):∃a c,x=.slice a b.length c/\tI w a b:=by rcases h with⟨rfl,a,c,rfl⟩|⟨f,c,_,rfl,d⟩;exact⟨a,c,rfl,λk e=>by simp at e⟩;exact⟨_,c,rfl,d.row⟩
def tM.blk{a:List Sx}(h:tM m w x a)(b:0<a.length)(d:cw x k):m<=k/\k<w.heap.size:=by rcases h with⟨rfl,_⟩|⟨g,c,e,rfl,f⟩;simp at b;obtain⟨i,q,_⟩:=f.out;have:=cF.lt_of_heap q;rw[mA (l':=0) (c':=0) d];exact⟨e,this⟩
def Lk{wp gp mk ms:Nat}{A:List Sx}{ak canv:Int}(h:kU wp gp mk ms H A ak w)(ba:∀x∈A,tZ 100000 x){Y:List (Nat×List Nat)}{pc:Nat}(hr:wA w a Y)(bs:Y.length<=20)(aO:∀p∈Y,p.1<6/\p.2.length<=1000/\∀d∈p.2,d<A.length):
 Calls V.prog 109 #[cK wp,.int .i64 canv,.slice a Y.length pc] w (fy λv y=>v=.bool (sq H A canv Y)/\Ext w y):=by
 have bb:=h.g.tY;have h5:=bb.many;have bw:=h.len;obtain⟨es,al,bc,am⟩:=hr.Zz;have Z:es.length=Y.length:=by rw[<-al];simp
 refine go V.func109 Tryz.ntmps109 ?_;refine fo λw1 wb e1 bx K=>?_;have K:w1.heap[wb]? =some (.cells #[cK wp] 133):=K;have bz:=cF.lt_of_heap K;obtain⟨sa,sc,g1,g2,g3,g4⟩:=h.at_;refine cu (ci K rfl) (cu (e1.cell g2) (ck (uP (g4.ext e1) (by omega)) ?_));rintro dv w2 ⟨e2,aE⟩;refine eF λw3 mb e3 bA ax=>?_;have bd:QM mb (λ_=>0) w3:=ax;have bB:=cF.lt_of_heap ax;have s1:=e1.size;have s2:=e2.size;have aP:=(e1.trans e2).trans e3;have aQ:=Gg (c:=pc) (w:=w3) (by rcases am with J|⟨b,o,q1,q2⟩;exact .inl J;exact .inr ⟨b,o,q1,λj u hj=>aP.cell (q2 j u hj)⟩) (λe=>by subst e;rw[Z];exact hr.rI) (by omega);rw[Z]at aQ;refine ck aQ ?_;rintro ev w4 ⟨e4,be⟩;have aR:∀e∈es,e.s<6:=λe he=>(aO (Lj e) (by rw[<-al];exact List.mem_map_of_mem he)).1;refine ck (Oo be (by omega) λe he=>by have:=aR e he;omega) ?_;rintro _ w5 ⟨k5,aF⟩;obtain⟨E,an⟩:∃E,E=pq El.s es:=⟨_,rfl⟩;rw[<-an]at aF;have bC:E.length=Y.length:=by rw[an,<-Z];exact qb _ _ _
 have bf:∀e∈E,e∈es:=λe he=>tQ _ _ _ _ (by rw[an]at he;exact he);have bg:pq Prod.fst Y=E.map Lj:=by rw[an,<-al];exact Lg El.s Prod.fst Lj (λx=>rfl) es
 obtain⟨ea,ec,rfl⟩:=aF.v_;have ao:Ext w3 w5:=e4.qu k5 λb hb=>hb;have E5:=aP.trans ao;obtain⟨da,dc,rfl⟩:=aE.v_;have ay:∀b,0<A.length->cw (.slice da A.length dc) b->w1.heap.size<=b/\b<w2.heap.size:=λb J hb=>aE.blk J hb
 have aa:sq H A canv Y=match iM H canv A (λ_=>0) (E.map Lj)with
  |none=>false
  |some bh=>!bh.any λx=>!gA H.tries x:=by unfold sq;rw[bg]<;>rfl
 have s3:=e3.size;have s4:=e4.size;have s5:=k5.size;refine cD ?_
 refine gC (n:=E.length) (λk (st:List Sx×(Nat->Int))=>[(1,.int .i64 canv),(3,cK wb),(7,.slice da A.length dc),(8,cK mb),(23,.slice ea E.length ec),(24,.int .i64 E.length),(25,.int .i64 k)])
  (λk st y=>Ext w y/\w5.heap.size<=y.heap.size/\y.heap[wb]? =some (.cells #[cK wp] 133)/\tM w1.heap.size y (.slice da A.length dc) st.1/\QM mb st.2 y/\tR w3.heap.size y (.slice ea E.length ec) E/\st.1.length=A.length/\(∀x∈st.1,tZ (100000+1000*k) x)/\(∀s,0<=st.2 s/\st.2 s<=k)/\iM H canv A (λ_=>0) (E.map Lj)=iM H canv st.1 st.2 ((E.map Lj).drop k))
  (A,λ_=>0) ⟨⟨rfl,rfl,rfl,rfl,rfl,rfl,rfl,trivial⟩,E5,cz _,((e2.trans e3).trans ao).at_ K,aE.keep ((e3.trans ao).keep λ_=>False) (λ_ _ h=>h),ao.at_ bd,aF,rfl,ba,λs=>by simp,rfl⟩ ?_ ?_ ?_
 rintro k st w6 hk hJ;exact cV ⟨rfl,rfl,⟨rfl,rfl,rfl,rfl,rfl,rfl,rfl,trivial⟩,hJ⟩;rintro k ⟨ys,t⟩ w6 hk ⟨E6,s6,ab,ac,aG,aS,R,aH,L,f⟩;simp only at ac aG R aH L f;rcases aS with⟨h0,_⟩|⟨eb,bD,bi,M,aI⟩;rw[h0]at hk;simp at hk;injection M with M _ ad;subst M;subst ad;obtain⟨e,he⟩:∃e,e=E[k]:=⟨_,rfl⟩;have N:e∈es:=bf e (by rw[he];exact dt _);have aT:=aI.cell k hk;rw[<-he]at aT;have B:=aR e N;obtain⟨aU,bE⟩:=bc e N;obtain⟨_,aV,ap⟩:=aO (Lj e) (by rw[<-al];exact List.mem_map_of_mem N);have aV:e.l.length<=1000:=aV;have ap:∀d∈e.l,d<A.length:=ap;have bj:k<(E.map Lj).length:=by simpa using hk
 rw[xT H canv ys t _ k bj]at f;have bk:(E.map Lj)[k]=(e.s,e.l):=by rw[List.getElem_map,<-he];rfl
 rw[bk]at f;simp only at f;refine fF k 2 hk (dP (vs:=vF e) aT (eF λw7 xb e7 aW aX=>cZ aX λw8 k8 aq=>?_));have aq:w8.heap[xb]? =some (.cells #[.int .i64 e.s,.slice e.a e.l.length e.c] 29):=aq;have S:Ext w6 w8:=e7.cy k8 aW;have bF:eb<w6.heap.size:=by obtain⟨cs,q,_⟩:=aI.out;exact cF.lt_of_heap q
 have aY:QM mb t w8:=S.at_ aG;refine cu (ci aq rfl) (rC e.s 6 B (cu (aY.cell B) (cq (rC e.s 6 B (TB aY e.s (t e.s+1) B λw9 k9 aJ=>?_)) (by have:=L e.s;omega))));have E9:Ext w w9:=(E6.trans S).cy k9 (by omega);have ae:w9.heap[wb]? =some (.cells #[cK wp] 133):=k9.fg (S.at_ ab) (by omega);have aK:w9.heap[xb]? =some (.cells #[.int .i64 e.s,.slice e.a e.l.length e.c] 29):=k9.fg aq (by omega);have bl:∀b,0<A.length->cw (.slice da A.length dc) b->¬b=mb:=λb J hb=>by have:=ay b J hb;omega
 have bm:tM w1.heap.size w9 (.slice da A.length dc) ys:=by rcases nS A.length with J|J;have hy:ys=[]:=l9 (R.trans J);rw[hy,J];exact .inl ⟨rfl,_,_,rfl⟩;exact(ac.keep (S.keep λ_=>False) λ_ _ h=>h).keep k9 λb hb=>bl b J hb
 have bn:pr eb E w9:=(aI.ext S).keep k9 (by omega);have aL:=h.ext E9;obtain⟨bG,bH,z1,z2,z3,z4⟩:=aL.at_;obtain⟨r,G⟩:∃r,r=Li t e.s (t e.s+1):=⟨_,rfl⟩;rw[<-G]at aJ f;have bo:r e.s=t e.s+1:=by rw[G];unfold Li;rw[cx rfl]
 have aZ:∀s,0<=r s/\r s<=(k+1:Nat):=λs=>by rw[G];unfold Li;have:=L s;have:=L e.s;split<;>omega
 have s9:=S.size;have bI:=k9.size;have a0:∀y,Ext w9 y->iM H canv A (λ_=>0) (E.map Lj)=none->∃v,Ending.returned (one [.bool false])=.returned v/\v=.bool (sq H A canv Y)/\Ext w y:=λy e' hn=>⟨_,rfl,by rw[aa,hn];rfl,E9.trans e'⟩;have a1:=aJ.cell B;rw[bo]at a1;refine cQ cO (cG (ci aK rfl) (pM e.s 6 B (cG a1 (FB ⟨λO=>?_,λO=>?_⟩))));have O:canv<t e.s+1:=cY O;exactλaf z=>iR rfl (a0 af z (by rw[f,cx (.inl O)]));have O:¬canv<t e.s+1:=dQ O;refine cG (ci ae rfl) (cG z1 (cG (ci aK rfl) (je (.int .i64 (dF H e.l)) (λaf z=>yf (aL.g.ext z) (λd hd=>by have:=ap d hd;omega) (by omega) ((aU.ext E9).ext z)) (cG (ci ae rfl) (cG z1 (cG aL.g.c3 (FB λaf z=>⟨λC=>?_,λC=>?_⟩)))))));have C:H.minutes<dF H e.l:=cY C;exact a0 af z (by rw[f,cx (.inr C)]);have C:¬H.minutes<dF H e.l:=dQ C;rw[cr (λJ=>J.elim O C)]at f;have az:=z.at_ aK;have bJ:=z.size;refine cu (ci az rfl) (cD ?_)
 refine gC (n:=e.l.length) (λj (m:List Sx)=>[(1,.int .i64 canv),(3,cK wb),(7,.slice da A.length dc),(8,cK mb),(11,cK xb),(23,.slice (some ⟨eb,0,none⟩) E.length ec),(24,.int .i64 E.length),(25,.int .i64 k),(60,.slice e.a e.l.length e.c),(61,.int .i64 e.l.length),(62,.int .i64 j)])
  (λj m y=>Ext w y/\af.heap.size<=y.heap.size/\y.heap[wb]? =some (.cells #[cK wp] 133)/\tM w1.heap.size y (.slice da A.length dc) m/\QM mb r y/\pr eb E y/\y.heap[xb]? =some (.cells #[.int .i64 e.s,.slice e.a e.l.length e.c] 29)/\m.length=A.length/\(∀x∈m,tZ (100000+1000*k+j) x)/\im H.tries e.s ys e.l=im H.tries e.s m (e.l.drop j)) ys ⟨⟨rfl,rfl,rfl,rfl,rfl,rfl,rfl,rfl,rfl,rfl,rfl,trivial⟩,E9.trans z,cz _,z.at_ ae,bm.keep (z.keep λ_=>False) (λ_ _ h=>h),z.at_ aJ,bn.ext z,az,R,aH,rfl⟩ ?_ ?_ ?_
 rintro j m ar hj hJ;exact cV ⟨rfl,rfl,⟨rfl,rfl,rfl,rfl,rfl,rfl,rfl,rfl,rfl,rfl,rfl,trivial⟩,hJ⟩;rintro j m ar hj ⟨T,bp,I,ag,ah,ai,Q,U,au,D⟩;obtain⟨lb,lo,a2,a3⟩:=(aU.ext T) j hj;obtain⟨d,hd⟩:∃d,d=e.l[j]:=⟨_,rfl⟩;rw[<-hd]at a3;have av:d<A.length:=by rw[hd];exact ap _ (dt hj)
 rw[a2];refine dI j hj (cu a3 ?_);rw[<-a2];rcases ag with⟨h0,_⟩|⟨sb,c',a4,M,hS⟩;rw[h0]at U;simp at U;omega;injection M with M _ ad;subst M;subst ad;have aw:d<m.length:=by omega
 have bK:sb<w2.heap.size:=(ay sb (by omega) ⟨_,_,rfl⟩).2;have bt:w1.heap.size<=sb:=a4;have aA:=h.ext T;obtain⟨bu,bv,t1,t2,t3,t4⟩:=aA.at_;have D:=D;rw[xS _ _ _ _ j hj,<-hd,getD_eq aw]at D;have aM:∀{y},nD sb m y->∀i v,(kY m[d])[i]? =some v->y.cell? ⟨sb,0+d*8+i,none⟩=some v:=λhS i v hi=>by obtain⟨cs,y1,y2,y3⟩:=hS.out;exact ci y1 (by rw[cB];exact y3 d aw i v hi)
 have a5:ar.cell? ⟨sb,0+d*8+4+e.s/2,none⟩=some (.bool (tH m[d] (e.s/2))):=by
  have:(kY m[d])[4+e.s/2]? =some (.bool (tH m[d] (e.s/2))):=by
   obtain h0|h0|h0:e.s/2=0\/e.s/2=1\/e.s/2=2:=by omega
   all_goals rw[h0];rfl
  have:=aM hS _ _ this;rwa[<-yz]at this
 have aB:∀y,Ext ar y->im H.tries e.s ys e.l=none->∃v,Ending.returned (one [.bool false])=.returned v/\v=.bool (sq H A canv Y)/\Ext w y:=λy e' hn=>⟨_,rfl,by rw[hn]at f;rw[aa,f];rfl,T.trans e'⟩;refine cQ cO (cG (ci Q rfl) (dx (.int .i64 (e.s/2:Nat)) (λP _=>rG (n:=2) (by omega) (by omega) ⟨rfl,Ext.refl _⟩) (kK d 8 av (dx (.pointer (some ⟨sb,0+d*8+4+e.s/2,none⟩)) (λP _=>yh 3 (by omega) ⟨rfl,Ext.refl _⟩) (cG a5 ⟨λh1=>?_,λh1=>?_⟩)))));exactλP F=>iR rfl (aB P F (by rw[D,cx (by rw[h1];rfl)]));refine cG (ci I rfl) (cG t1 (kK d 8 av (dx (.agg (kY m[d]).toArray) (λP F=>dP (vs:=kY m[d]) (aM (hS.ext F)) ⟨rfl,Ext.refl _⟩) (je (.bool (gA H.tries m[d])) (λP F=>uL (aA.g.ext F) m[d]) λP F=>⟨λh2=>?_,λh2=>?_⟩))));exact aB P F (by rw[D,cx (by rw[h2];simp)]);rw[cr (by rw[h1,h2];simp)]at D;have a7:=au _ (dt aw);have bq:(0<=m[d].tries/\m[d].tries<=1000000)/\(0<=m[d].mornings/\m[d].mornings<=1000000)/\0<=m[d].evenings/\m[d].evenings<=1000000:=by obtain⟨z1,z2,z3⟩:=a7;omega
 have aC:=hS.ext F;have a8:=F.at_ Q;refine cQ cO (kK d 8 av (dx (.agg (kY m[d]).toArray) (λaN aj=>dP (vs:=kY m[d]) (aM (aC.ext aj)) ⟨rfl,Ext.refl _⟩) (cG (ci a8 rfl) (je (.agg (kY (iJ m[d] e.s false)).toArray) (λaN aj=>BM m[d] e.s false aN B bq) (kK d 8 av λaN aj=>?_)))));have W:=F.trans aj;refine NK (aC.ext aj) d 0 aw (by omega) (iJ m[d] e.s false) (sO rfl) (λi u hi=>?_) λbL X a9=>?_;have br:i<8:=(gy.1 hi).1;rw[cx ⟨fN _,br⟩];exact hi;have bM:=W.size;refine cq ⟨m.set d (iJ m[d] e.s false),⟨rfl,rfl,rfl,rfl,rfl,rfl,rfl,rfl,rfl,rfl,rfl,trivial⟩,(T.trans W).cy X (by omega),by have:=X.size;omega,X.fg (W.at_ I) (by omega),.inr ⟨sb,dc,a4,by rw[qJ,U],a9⟩,X.fg (W.at_ ah) (by omega),(ai.ext W).keep X (by omega),X.fg (W.at_ Q) (by omega),by simpa using U,λx J=>?_,D⟩;rcases oS J with J|rfl;exact(au x J).le (by omega);exact(a7.RV e.s false).le (by omega);rintro m ar ⟨T,bp,I,ag,ah,ai,Q,U,au,D⟩;have D:im H.tries e.s ys e.l=some m:=by rw[D];simp[im]
 rw[D]at f;simp only at f;refine cq ⟨(m,r),⟨rfl,rfl,rfl,rfl,rfl,rfl,rfl,trivial⟩,T,by omega,I,ag,ah,.inr ⟨eb,ec,bi,rfl,ai⟩,U,λx J=>(au x J).le (by omega),aZ,f⟩;rintro⟨ys,t⟩ w6 ⟨E6,s6,ab,ac,aG,aS,R,aH,L,f⟩;simp only at ac R f;have f:iM H canv A (λ_=>0) (E.map Lj)=some ys:=by rw[f,List.drop_of_length_le (by simp)];rfl
 obtain⟨a6,c6,q1,q2⟩:=ac.WZ;injection q1 with q1 _ q3;subst q1;subst q3;have aD:=Lh (h.ext E6) ab q2 (c:=dc) (by omega);rw[R]at aD;refine dq aD λw7 e7=>eu ⟨_,rfl,?_,E6.trans e7⟩;rw[aa,f];rfl
def xO.U1{w b:cd}{gp mk ms:Nat}{G:Gd}(h:xO w gp mk ms G b):ku (λ_=>False) mk ms G b:=
 ⟨⟨#[],0,h.sm,λe a=>by cases a⟩,⟨#[],0,h.km,λe a=>by cases a⟩,λh=>h,λh=>h⟩
def ee(G:Gd)(l:List Tq)(a b:Int):Int:=if wn G l=0 then(if rH G (iK l) a=0 then(if jX b 0 5 then 0 else 1)else rH G (iK l) a)else wn G l
def Oq(w:cd)(G:Gd)(l:List Tq)(e:Int)(v:ce)(b:cd):Prop:=
 (e≠0/\v=.tuple #[.pointer none,.int .i64 e])\/(e=0/\∃a c mk d,v=.tuple #[cK a,.int .i64 0]/\FV w a c mk d G (gO G l).2 (iK l) b/\∀x∈(gO G l).2,tZ 100000 x)
section
variable{G:Gd}{da:Option Addr}{dc:Nat}{w:cd}{l:List Tq}{la:Option Addr}{lc:Nat}
def mB(o:gD w da G.doors)(g:G.doors.length<=100000)(p: -1000000<=G.streets/\G.streets<=1000000)(q:sI w la l)(h:l.length<=100000)(a b:Int):
 Calls V.prog 105 #[gV G da dc,.slice la l.length lc,.int .i64 a,.int .i64 b] w (fy λv m=>Ext w m/\Oq w G l (ee G l a b) v m):=by
 refine go V.func105 Tryz.ntmps105 ?_;refine fo λA B f r s=>di s (ck (wo (dc:=dc) (o.ext f) g p (q.ext f) h) ?_);rintro v C ⟨i,⟨d,rfl⟩|⟨d,t,u,mk,y,rfl,n,z⟩⟩;exact eG (iR (by simpa using d) ⟨_,rfl,f.trans i,.inl ⟨by unfold ee;rw[cr d];exact d,by unfold ee;rw[cr d];rfl⟩⟩);refine eG (iG (by simp) (cS (Qm n.k a) (eG ⟨λc=>?_,λc=>?_⟩)));have c:¬rH G (iK l) a=0:=cY c;exact⟨_,rfl,f.trans i,.inl ⟨by unfold ee;rw[cx d,cr c];exact c,by unfold ee;rw[cx d,cr c];rfl⟩⟩;have c:rH G (iK l) a=0:=by simpa using c
 refine cS (ej _ _ _ _) (eu ⟨λe=>?_,λe=>?_⟩);have e:jX b 0 5=false:=by simpa using e
 exact⟨_,rfl,f.trans i,.inl ⟨by unfold ee;rw[cx d,cx c,e];decide,by unfold ee;rw[cx d,cx c,e];rfl⟩⟩;have e:jX b 0 5=true:=by simpa using e
 exact⟨_,rfl,f.trans i,.inr ⟨by unfold ee;rw[cx d,cx c,e];rfl,t,u,mk,y,rfl,n.low f,λx j=>(z x j).le h⟩⟩
def lG(b:G.Ok)(h:ee G l I J=0):∃f:Nat,I=f/\f<=fB G/\f<2*G.days:=by unfold ee at h;split at h;split at h;rename_i a;unfold rH at a;split at a;rename_i c;simp only[jX,ez,jk]at c;have:=b.days;exact⟨I.toNat,by omega,by unfold fB;omega,by omega⟩;omega;rename_i a;exact absurd h a;rename_i d;exact absurd h d
def Ot(a:Nat)(o:Option (List (List Nat)))(v:ce)(w:cd):Prop:=match o with
 |none=>v=.tuple #[.slice none 0 0,.int .i64 11]
 |some b=>∃u,v=.tuple #[u,.int .i64 0]/\eW a w u b
def xt(y:gD w da G.doors)(k:G.doors.length<=100000)(H: -1000000<=G.streets/\G.streets<=1000000){ds:List Int}{a:Option Addr}{c:Nat}(D:ja w a ds)(m:ds.length<=100000)(I:ds.length<=c):
 Calls V.prog 69 #[gV G da dc,.slice a ds.length c] w (fy λv E=>Ext w E/\((kg G ds≠0/\v=.tuple #[.slice none 0 0,.int .i64 (kg G ds)])\/(kg G ds=0/\Ot w.heap.size (fJ G (dB (ds.map Int.toNat))) v E))):=by
 refine go V.func69 Tryz.ntmps69 ?_;refine fo λU W i J z=>di z (ck (pT (dc:=dc) (y.ext i) k H (D.ext i) m I) ?_);rintro v K ⟨t,⟨n,rfl⟩|⟨n,X,mk,Y,rfl,o⟩⟩;have e:kg G ds=eg G:=by simp[kg,n]
 exact eG (iR (by simpa using n) ⟨_,rfl,i.trans t,.inl ⟨by rw[e];exact n,by rw[e];rfl⟩⟩);have e:kg G ds=gx G.doors.length ds:=by simp[kg,n]
 refine eG ⟨λf=>?_,λf=>?_⟩;have f:¬gx G.doors.length ds=0:=cY f;exact⟨_,rfl,i.trans t,.inl ⟨by rw[e];exact f,by rw[e];rfl⟩⟩;have f:gx G.doors.length ds=0:=by simpa using f
 obtain⟨j,rfl,p⟩:=n9 f;have A:=o.g.tY;have L:=A.many;have M:(lU j).length=j.length:=by simp[lU]
 have q:(lU j).map Int.toNat=j:=by simp[lU,yw]
 have B:=(D.ext (i.trans t)).FI;rw[M]at m⊢;rw[q];have r:=lP.dB (G:=G) L (l:=j) p;refine cS (pj j a c K B (λd y=>by have:=p d y;omega) m) (ck (zM (n0:=w.heap.size) o.g (λb z=>z.elim) o.U1 (by have:=o.lo;have:=i.size;omega) (by have:=o.lo;have:=i.size;omega) r) ?_);rintro v F ⟨N,u,b,rfl,h⟩;have C:Ext w F:=N.1.from (i.trans t) (cz _);cases x:fJ G (dB j)with
 |none=>
  rw[x]at h;obtain⟨rfl,rfl⟩:=h;exact eu (iR rfl ⟨_,rfl,C,.inr ⟨by rw[e];exact f,rfl⟩⟩)
 |some O=>
  rw[x]at h;obtain⟨rfl,P,Q,rfl,s,_⟩:=h;have R:=pY x;refine eu (iG rfl (ck (HJ O P Q F s.rows (by omega) λl m=>by have:=z9 x l m;omega) ?_));rintro v Z ⟨S,T⟩;exact⟨_,rfl,C.trans S,.inr ⟨by rw[e];exact f,_,rfl,T.low C.size⟩⟩
end
def ki(G:Gd)(b:List Sx)(a:Nat)(d:Nat):Bool:=(il G (b.getD d oe) a).isEmpty||!jH G (dB [d])
def Gi(G:Gd)(b:List Sx)(a:Nat):List Nat:=(cW G.tries b).filter (ki G b a)
def QN(a:Nat)(o:Option (List (Nat×List Nat)))(v:ce)(w:cd):Prop:=match o with
 |none=>v=.tuple #[.slice none 0 0,.int .i64 11]
 |some b=>∃u,v=.tuple #[u,.int .i64 0]/\nO a w u b
section
variable{G:Gd}{da:Option Addr}{dc:Nat}{w:cd}{l:List Tq}{la:Option Addr}{lc:Nat}
def Ib(t:gD w da G.doors)(i:G.doors.length<=100000)(x: -1000000<=G.streets/\G.streets<=1000000)(y:sI w la l)(m:l.length<=100000)(a:Int):
 Calls V.prog 48 #[gV G da dc,.slice la l.length lc,.int .i64 a] w (qa λv n=>Ext w n/\((ee G l a 0≠0/\v=.tuple #[.slice none 0 0,.int .i64 (ee G l a 0)])\/(ee G l a 0=0/\QN w.heap.size (z7 G (iU G (gO G l).2 a.toNat)) v n))):=by
 refine go V.func48 Tryz.ntmps48 ?_;refine fo λF H c z o=>di o (ck (mB (dc:=dc) (t.ext c) i x (y.ext c) m a 0) ?_);rintro v I ⟨p,⟨d,rfl⟩|⟨d,J,K,mk,L,rfl,j,A⟩⟩;exact eG (iR (by simpa using d) (.inl ⟨_,rfl,c.trans p,.inl ⟨d,rfl⟩⟩));have B:=j.g.lo;have M:=c.size;obtain⟨f,rfl,q,_⟩:=lG j.k.g.tY d;refine eG (iG (by simp) (fG (QK (n0:=w.heap.size) j.k (λb o=>o.elim) j.g.U1 (by omega) (by omega) A q) (λn h=>.inr ⟨rfl,h⟩) ?_));rintro v C ⟨D,e⟩;have r:Ext w C:=D.1.from (c.trans p) (cz _);rw[ql];cases s:z7 G (iU G (gO G l).2 f)with
 |none=>
  rw[s]at e;have e:v=.tuple #[.slice none 0 0,.bool false]:=e;subst e;exact eu (iR rfl (.inl ⟨_,rfl,r,.inr ⟨d,rfl⟩⟩))
 |some N=>
  rw[s]at e;obtain⟨u,rfl,E⟩:=e;exact eu (iG rfl (.inl ⟨_,rfl,r,.inr ⟨d,u,rfl,E.low (by have:=(c.trans p).size;omega)⟩⟩))
def Gj(s:gD w da G.doors)(e:G.doors.length<=100000)(t: -1000000<=G.streets/\G.streets<=1000000)(u:sI w la l)(n:l.length<=100000)(d canv:Int):
 Calls V.prog 55 #[gV G da dc,.slice la l.length lc,.int .i64 d,.int .i64 canv] w (qa λv o=>Ext w o/\((ee G l d canv≠0/\v=.tuple #[.slice none 0 0,.int .i64 (ee G l d canv)])\/(ee G l d canv=0/\∃a c,v=.tuple #[.slice a (oL (tO G (gO G l).2 d.toNat canv) (cW G.tries (gO G l).2)).length c,.int .i64 0]/\eO o a (oL (tO G (gO G l).2 d.toNat canv) (cW G.tries (gO G l).2))/\(oL (tO G (gO G l).2 d.toNat canv) (cW G.tries (gO G l).2)).length<=c))):=by
 refine go V.func55 Tryz.ntmps55 ?_;refine fo λD E i x p=>di p (ck (mB (dc:=dc) (s.ext i) e t (u.ext i) n d canv) ?_);rintro v F ⟨r,⟨j,rfl⟩|⟨j,H,I,mk,J,rfl,m,y⟩⟩;exact eG (iR (by simpa using j) (.inl ⟨_,rfl,i.trans r,.inl ⟨j,rfl⟩⟩));have z:=m.g.lo;have K:=i.size;obtain⟨f,rfl,q,_⟩:=lG m.k.g.tY j;refine eG (iG (by simp) (fG (Om (n0:=w.heap.size) (canv:=canv) m.k (λb p=>p.elim) m.g.U1 (by omega) (by omega) y q) (λo h=>.inr ⟨rfl,h⟩) ?_));rintro v L ⟨A,a,c,rfl,B,C⟩;rw[ql];exact .inl ⟨_,rfl,A.1.from (i.trans r) (cz _),.inr ⟨j,a,c,rfl,B,C⟩⟩
def Ad(hd:gD w da G.doors)(Y:G.doors.length<=100000)(hs: -1000000<=G.streets/\G.streets<=1000000)(hr:sI w la l)(ag:l.length<=100000)(h:Int):
 Calls V.prog 53 #[gV G da dc,.slice la l.length lc,.int .i64 h] w (fy λv W=>Ext w W/\((ee G l h 0≠0/\v=.tuple #[.slice none 0 0,.int .i64 (ee G l h 0)])\/(ee G l h 0=0/\∃u,v=.tuple #[u,.int .i64 0]/\dE w.heap.size W u (Gi G (gO G l).2 h.toNat)))):=by
 refine go V.func53 Tryz.ntmps53 ?_;refine fo λw1 gb Z ar m=>di m (ck (mB (dc:=dc) (hd.ext Z) Y hs (hr.ext Z) ag h 0) ?_);rintro v w2 ⟨e2,⟨z,rfl⟩|⟨z,wp,gp,mk,K,rfl,hg,X⟩⟩;exact eG (iR (by simpa using z) ⟨_,rfl,Z.trans e2,.inl ⟨z,rfl⟩⟩);have au:=hg.g.lo;have s1:=Z.size;have aa:=hg.k.g.tY;have h5:=aa.many;have ah:=hg.k.len;obtain⟨f,rfl,ai,_⟩:=lG aa z;obtain⟨c,aj⟩:∃c,c=(gO G l).2:=⟨_,rfl⟩;have hk:=hg.k;rw[<-aj]at hk X ah⊢;have aq:=pm G.tries c;refine eG (iG (by simp) (ck (yi hk) ?_));rintro ov L ⟨e3,al⟩;obtain⟨oa,oc,rfl,am,av⟩:=al.row;have E2:=Z.trans e2;have E3:=E2.trans e3;have s2:=E2.size;rw[ql];have M:∀b,¬cw (.slice none 0 0) b:=λb m=>by obtain⟨_,_,m⟩:=m;cases m
 refine cD ?_;refine gC (n:=(cW G.tries c).length) (λk v=>[(2,.int .i64 f),(8,cK wp),(10,v),(24,.slice oa (cW G.tries c).length oc),(25,.int .i64 (cW G.tries c).length),(26,.int .i64 k)]) (λk v W=>iB w.heap.size L W/\ku (cw v) mk K G W/\dE L.heap.size W v (((cW G.tries c).take k).filter (ki G c f))) (.slice none 0 0) ⟨⟨rfl,rfl,rfl,rfl,rfl,rfl,trivial⟩,iB.refl _ _,(hg.g.U1.ext e3).more λb m=>absurd m (M b),cA.nil _ _ _ _⟩ ?_ ?_ ?_;rintro k v I ab hJ;exact cV ⟨rfl,rfl,⟨rfl,rfl,rfl,rfl,rfl,rfl,trivial⟩,hJ⟩;rintro k v I B ⟨N,C,y⟩;obtain⟨b,o,rfl,hc⟩:=(am.gi N) k B;obtain⟨d,O⟩:∃d,d=(cW G.tries c)[k]:=⟨_,rfl⟩;have P:d<c.length:=by rw[O];exact kh (dt B)
 rw[<-O]at hc;have Q:=hk.gi ((e3.gi w.heap.size).trans N);have J:=lP.dB (G:=G) h5 (l:=[d]) λx X=>by rw[fD.1 X];omega
 obtain⟨sa,sc,g1,g2,g3,g4⟩:=Q.at_;have R:=xP w.heap.size mk K G (cw v);have an:∀b,cw v b->b<I.heap.size:=λb m=>(cA.blk y m).2;have A:(cW G.tries c).take (k+1)=(cW G.tries c).take k++[d]:=by rw[gP B,O]
 have aw:(((cW G.tries c).take k).filter (ki G c f)).length<=5:=by have:=List.length_filter_le (ki G c f) ((cW G.tries c).take k);simp only[yy]at this;omega
 have S:ki G c f d=((il G c[d] f).isEmpty||!jH G (dB [d])):=by unfold ki;rw[getD_eq P]
 have same:∀j,MA w.heap.size mk K G (cw v) I j->ki G c f d=false->iB w.heap.size L j/\ku (cw v) mk K G j/\dE L.heap.size j v (((cW G.tries c).take (k+1)).filter (ki G c f)):=λj m5 hf=>by
  refine⟨N.trans m5.1,m5.2 C,?_⟩;have e:((cW G.tries c).take (k+1)).filter (ki G c f)=((cW G.tries c).take k).filter (ki G c f):=by rw[A,List.filter_append,List.filter_cons,hf];simp
  rw[e];exact cA.gi y m5.1
 have ac:∀j,MA w.heap.size mk K G (cw v) I j->ki G c f d=true->∀k':ce->cd->Prop,(∀D q,iB w.heap.size L q->ku (cw D) mk K G q->dE L.heap.size q D (((cW G.tries c).take (k+1)).filter (ki G c f))->k' D q)->∀(p:Nat) (q:cd),Ext j q->q.heap[p]? =some (.cells [.int .i64 d].toArray 3)->∀(t:cg) (cb:Array Bool),wY V.prog (builtin .append #[27,27] t cb #[v,.slice (some ⟨p,0,none⟩) 1 1]) q k':=λj m5 ht k' ab p q E m t cb=>by
  have F:MA w.heap.size mk K G (cw v) I q:=R.trans _ _ _ m5 (E.ma _ _ _ _ _);have ad:dE L.heap.size q v (((cW G.tries c).take k).filter (ki G c f)):=cA.gi y F.1;have T:=F.2 C;refine fP oG ad (by have:=N.size;have:=F.1.size;omega) m (by omega) λD w7 z r h3=>ab D w7 ((N.trans F.1).iS r ad (cz _)) ?_ ?_;exact T.go (λb m=>h3 b m) (λb o v m hc=>r.ef hc m) λb o m ho=>r.fg ho λhf=>by rcases m with rfl|rfl;exact T.ak hf;exact T.asm hf
  have e:((cW G.tries c).take (k+1)).filter (ki G c f)=((cW G.tries c).take k).filter (ki G c f)++[d]:=by rw[A,List.filter_append,List.filter_cons,ht];simp
  rw[e];simpa[dE,fi]using z
 refine dI k B (cu hc ?_);refine cQ R ?_;refine .rel (λu j=>eW I.heap.size j u (il G c[d] f)) (λu a b hu e=>hu.gi e.1) (λj s=>ck (F2 (Q.gi s.1) P (X _ (dt P)) ai) λu q ⟨E,hu⟩=>⟨hu.low s.1.size,E.ma _ _ _ _ _⟩) ?_;refine .exact (.int .i64 (il G c[d] f).length) (λj s U ao=>?_) ?_;obtain⟨a3,c3,rfl,_⟩:=eW.row (show eW I.heap.size j U (il G c[d] f)from ao);exact cD ⟨rfl,R.refl _⟩;refine Ja ⟨λr=>?_,λr=>?_⟩ R;have r:(il G c[d] f).length=0:=by have:=cY r;omega
 have hl:ki G c f d=true:=by rw[S,l9 r];rfl
 exactλj s U _=>iR rfl (dJ [.int .i64 d] 3 λq p E H m=>ac j s hl _ (λD w7 q1 q2 q3=>cq ⟨D,⟨rfl,rfl,rfl,rfl,rfl,rfl,trivial⟩,q1,q2,q3⟩) p q E m _ _);have r:¬(il G c[d] f).length=0:=λe=>by have:=dQ r;omega
 have ae:(il G c[d] f).isEmpty=false:=by
  cases hq:il G c[d] f with
  |nil=>rw[hq]at r;exact absurd rfl r
  |cons _ _=>rfl
 refine .exact (cK gp) (λj s=>cu (s.1.cell g1) ⟨rfl,R.refl _⟩) ?_;refine .rel (λu j=>∃p,u=.slice (some ⟨p,0,none⟩) 1 1/\j.heap[p]? =some (.cells [Value.int .i64 d].toArray 3)) (λu a b ⟨p,z,r⟩ e=>⟨p,z,e.1.at_ r⟩) (λj s=>dJ [.int .i64 d] 3 λq p E H m=>⟨⟨p,rfl,m⟩,E.ma _ _ _ _ _⟩) ?_;refine .exact (.int .u8 (dB [d])) (λj s af ap=>?_) ?_;obtain⟨p,rfl,H⟩:∃p,af=.slice (some ⟨p,0,none⟩) 1 1/\j.heap[p]? =some (.cells [Value.int .i64 d].toArray 3):=ap
 exact cS (pj [d] _ 1 j (λi hi=>⟨p,0,rfl,ci H (by have:i=0:=by simp at hi;omega
                                                  subst this;rfl)⟩) (λx X=>by rw[fD.1 X];omega) (by simp)) ⟨rfl,R.refl _⟩
 refine .exact (.bool (jH G (dB [d]))) (λj s=>ck (Dh (Q.g.gi s.1) (λb m=>dl (an b m) s.1.size) (s.2 C) (by omega) J.1 J.2) λu q ⟨z,r⟩=>⟨z,r⟩) ?_;refine rE ?_ R;intro j s af _ U _;refine⟨λh3=>?_,λh3=>?_⟩;have hl:ki G c f d=true:=by rw[S,ae,h3];rfl
 exact dJ [.int .i64 d] 3 λq p E H m=>ac j s hl _ (λD w7 q1 q2 q3=>cq ⟨D,⟨rfl,rfl,rfl,rfl,rfl,rfl,trivial⟩,q1,q2,q3⟩) p q E m _ _;have hl:ki G c f d=false:=by rw[S,ae,h3];rfl
 exact cq ⟨v,⟨rfl,rfl,rfl,rfl,rfl,rfl,trivial⟩,same j s hl⟩;rintro v I ⟨N,C,y⟩;rw[kX]at y;exact⟨_,rfl,N.from E3 (cz _),.inr ⟨z,v,rfl,y.low E3.size⟩⟩
end
def Ae(w:cd)(a:Option Addr)(c:List (Int×List Int)):Prop:=∀k (h:k<c.length),∃b o d e,a=some ⟨b,o,none⟩/\w.cell? ⟨b,o+k*2,none⟩=some (.int .i64 c[k].1)/\w.cell? ⟨b,o+k*2+1,none⟩=some (.slice d c[k].2.length e)/\ja w d c[k].2/\c[k].2.length<=e
theorem Ae.ext{w c:cd}{a:Option Addr}{d:List (Int×List Int)}(h:Ae w a d)(e:Ext w c):Ae c a d:=λk f=>by obtain⟨b,o,g,i,j,l,m,n,p⟩:=h k f;exact⟨b,o,g,i,j,e.cell l,e.cell m,n.ext e,p⟩
def jS(n:Int)(a last:Int):List (Int×List Int)->Int
 |[]=>0
 |p::r=>if jX p.1 a last then(if gx n p.2=0 then jS n a last r else gx n p.2)else 3
def Ds(n a last:Int)(b:List (Int×List Int))(k:Nat)(c:k<b.length):jS n a last (b.drop k)=if jX b[k].1 a last then(if gx n b[k].2=0 then jS n a last (b.drop (k+1))else gx n b[k].2)else 3:=by rw[qH c];rfl
def Pe(p:Int×List Int):Nat×List Nat:=(p.1.toNat,p.2.map Int.toNat)
theorem Af{n:Nat}{a last:Int}:∀{d:List (Int×List Int)},jS n a last d=0->∀p∈d,jX p.1 a last=true/\gx n p.2=0
 |p::r,h,q,b=>by simp only[jS]at h;split at h;rename_i e;split at h;rename_i c;rcases eQ.1 b with rfl|b;exact⟨e,c⟩;exact Af h q b;rename_i c;exact absurd h c;omega
theorem Ae.FI{n:Nat}{c last:Int}{w:cd}{a:Option Addr}{f:List (Int×List Int)}(h:Ae w a f)(J:0<=c)(x:jS n c last f=0):wA w a (f.map Pe)/\∀p∈f.map Pe,(p.1:Int)<=last/\∀d∈p.2,d<n:=by
 have t:=Af x;refine⟨λk y=>?_,λp z=>?_⟩;have i:k<f.length:=by simpa using y
 obtain⟨b,o,A,B,C,D,l,u,m⟩:=h k i;obtain⟨r,s⟩:=t _ (dt i);obtain⟨g,j,v⟩:=n9 s;have e:(lU g).map Int.toNat=g:=by simp[lU,yw]
 have E:((f.map Pe)[k]).2=g:=by simp[Pe,j,e]
 have F:(((f.map Pe)[k]).1:Int)=f[k].1:=by simp only[jX,ez,jk]at r;simp only[List.getElem_map,Pe];omega
 rw[E];rw[j]at l u m;have G:(lU g).length=g.length:=by simp[lU]
 rw[G]at l m;exact⟨b,o,A,B,C,by rw[F];exact D,l,u.FI,m⟩;obtain⟨q,H,rfl⟩:=jj.1 z;obtain⟨r,s⟩:=t q H;obtain⟨g,j,v⟩:=n9 s;have e:(lU g).map Int.toNat=g:=by simp[lU,yw]
 simp only[jX,ez,jk]at r;refine⟨by simp only[Pe];omega,λd I=>v d ?_⟩;simpa[Pe,j,e]using I
def oi(G:Gd)(l:List Tq)(a b:Int)(c:List (Int×List Int)):Bool×Int:=
 if ee G l a b=0 then(if jS G.doors.length a (2*G.days-1) c=0 then(sq G (gO G l).2 b (c.map Pe),0)else(false,jS G.doors.length a (2*G.days-1) c))else(false,ee G l a b)
section
variable{G:Gd}{da:Option Addr}{dc:Nat}{w:cd}{l:List Tq}{la:Option Addr}{lc:Nat}
def Dt(S:gD w da G.doors)(C:G.doors.length<=100000)(hs: -1000000<=G.streets/\G.streets<=1000000)(hr:sI w la l)(T:l.length<=100000)(h canv:Int){ps:List (Int×List Int)}{O:Option Addr}{pc:Nat}(hp:Ae w O ps)(U:ps.length<=20)(D:∀p∈ps,p.2.length<=1000):
 Calls V.prog 38 #[gV G da dc,.slice la l.length lc,.int .i64 h,.int .i64 canv,.slice O ps.length pc] w (fy λv u=>Ext w u/\v=.tuple #[.bool (oi G l h canv ps).1,.int .i64 (oi G l h canv ps).2]):=by
 refine go V.func38 Tryz.ntmps38 ?_;refine fo λw1 gb P ae hb=>di hb (ck (mB (dc:=dc) (S.ext P) C hs (hr.ext P) T h canv) ?_);rintro v w2 ⟨e2,⟨A,rfl⟩|⟨A,wp,gp,mk,ms,rfl,hg,hx⟩⟩;exact eG (iR (by simpa using A) ⟨_,rfl,P.trans e2,by unfold oi;rw[cr A];rfl⟩);have E:=hg.k;have x:=E.g.tY;have h5:=x.many;have W:=E.len;obtain⟨f,rfl,af,ag⟩:=lG x A;have Q:=P.trans e2;obtain⟨sa,sc,g1,g2,g3,g4⟩:=E.at_;refine eG (iG (by simp) (cD ?_));refine ei (n:=ps.length) (λk=>[(2,.int .i64 f),(3,.int .i64 canv),(4,.slice O ps.length pc),(12,cK wp),(28,.slice O ps.length pc),(29,.int .i64 ps.length),(30,.int .i64 k)]) (λk u=>Ext w2 u/\jS G.doors.length f (2*G.days-1) ps=jS G.doors.length f (2*G.days-1) (ps.drop k)) ⟨⟨rfl,rfl,rfl,rfl,rfl,rfl,rfl,trivial⟩,Ext.refl _,rfl⟩ ?_ ?_ ?_;rintro k X ah hJ;exact cV ⟨rfl,rfl,⟨rfl,rfl,rfl,rfl,rfl,rfl,rfl,trivial⟩,hJ⟩;rintro k X s ⟨B,a⟩;obtain⟨b,o,a',c',rfl,q1,q2,q3,q4⟩:=(hp.ext (Q.trans B)) k s;rw[Ds _ _ _ _ _ s]at a;have y:=D _ (dt s);obtain⟨p,Y⟩:∃p,p=ps[k]:=⟨_,rfl⟩;rw[<-Y]at q1 q2 q3 q4 a y;refine fF k 2 s (dP (vs:=[.int .i64 p.1,.slice a' p.2.length c']) (λj v F=>?_) (eF λw4 xb Z aa H=>cZ H λw5 k5 t=>?_));match j,F with
 |0,F=>cases F;exact q1
 |1,F=>cases F;exact q2
 have t:w5.heap[xb]? =some (.cells #[.int .i64 p.1,.slice a' p.2.length c'] 29):=t;have I:Ext X w5:=Z.cy k5 aa;have m:=B.trans I;have J:=E.ext m;have K:∀u (c:Int),Ext w5 u->jS G.doors.length f (2*G.days-1) ps=c->c≠0->∃v,Ending.returned (one [.bool false,.int .i64 c])=.returned v/\Ext w u/\v=.tuple #[.bool (oi G l f canv ps).1,.int .i64 (oi G l f canv ps).2]:=λu c e hc h0=>⟨_,rfl,(Q.trans m).trans e,by unfold oi;rw[cx A,hc,cr h0];rfl⟩;refine cQ cO (cG (ci t rfl) (cG (m.cell g1) (ia cO _ (λR r=>last_at (J.g.ext r)) (ia cO _ (λR r=>ej _ _ _ R) (rE λR r=>⟨λz=>?_,λz=>?_⟩)))));have z:jX p.1 f (2*G.days-1)=false:=by simpa using z
 exact K R 3 r (by rw[a,cr (by rw[z];simp)]) (by omega);have z:jX p.1 f (2*G.days-1)=true:=by simpa using z
 rw[cx z]at a;have ab:=J.ext r;refine cQ cO (cG (r.cell (m.cell g1)) (cG (ci (r.at_ t) rfl) (ia cO _ (λw7 L=>BL (ab.g.ext L) ((q3.ext (I.trans r)).ext L) (by omega) q4) λw7 L=>eG ⟨λi=>?_,λi=>?_⟩)));have i:¬gx G.doors.length p.2=0:=cY i;exact K w7 _ (r.trans L) (by rw[a,cr i]) i;have i:gx G.doors.length p.2=0:=by simpa using i
 rw[cx i]at a;exact cq ⟨⟨rfl,rfl,rfl,rfl,rfl,rfl,rfl,trivial⟩,(m.trans r).trans L,a⟩;rintro X ⟨B,a⟩;have a:jS G.doors.length f (2*G.days-1) ps=0:=by rw[a,List.drop_of_length_le (cz _)];rfl
 obtain⟨ac,M⟩:=(hp.ext (Q.trans B)).FI (by omega) a;have ai:=x.days;have N:=Lk (canv:=canv) (pc:=pc) (E.ext B) hx ac (by simpa using U) λq hq=>⟨by have:=(M q hq).1;omega,by obtain⟨q',ad,rfl⟩:=jj.1 hq;have:=D q' ad;simpa[Pe]using this,λd S=>by rw[W];exact(M q hq).2 d S⟩;rw[kV]at N;refine dq N λw4 Z=>⟨_,rfl,(Q.trans B).trans Z,?_⟩;unfold oi;rw[cx A,cx a];rfl
end
def Gk(l a:List (Nat×List Nat))(la j:Option Addr)(lc n:Nat)(w:cd)(D:wA w la l)(s:wA w j a)(B:l.length<=100000)(t:∀x∈l,x.2.length<=100000):
 Calls V.prog 42 #[.slice la l.length lc,.slice j a.length n] w (fy λv r=>v=.bool (decide (l=a))/\Ext w r):=by
 refine go V.func42 Tryz.ntmps42 ?_;refine cD (cD (eG ⟨λh=>?_,λh=>?_⟩));have h:¬l=a:=λe=>by subst e;simp at h
 exact⟨_,rfl,by simp[h],Ext.refl _⟩;have h:l.length=a.length:=by simp at h;omega
 refine dZ l.length (λk (_:Unit)=>[(0,.slice la l.length lc),(1,.slice j a.length n),(5,.int .i64 k)]) (λk _ r=>Ext w r/\l.take k=a.take k) () ⟨⟨rfl,rfl,rfl,trivial⟩,Ext.refl _,by simp⟩ ?_;rintro k _ r K ⟨e,C⟩;refine cD (cV ⟨λd=>?_,λp=>?_⟩);have d:k<l.length:=by simpa using d
 have i:k<a.length:=by omega
 obtain⟨b,o,x,c,rfl,E,u,F,_⟩:=(D.gi (e.gi 0)) k d;obtain⟨L,M,G,H,rfl,y,q,z,_⟩:=(s.gi (e.gi 0)) k i;refine cQ cO (kK k 2 d (cG E (kK k 2 i (cG y (RJ ⟨λf=>?_,λf=>?_⟩)))));have f:¬l[k].1=a[k].1:=λe=>cY f (by rw[e]);have:¬l=a:=λe=>by subst e;exact f rfl
 exactλA m=>iR rfl ⟨_,rfl,by simp[this],e.trans m⟩;have f:l[k].1=a[k].1:=by have:=dQ f;omega
 refine kK k 2 d (cG u (kK k 2 i (cG q (je (.bool (decide (l[k].2=a[k].2))) (λA m=>nC l[k].2 a[k].2 x G c H A (F.ext m) (z.ext m) (t _ (dt d))) (rE λA m=>⟨λg=>?_,λg=>?_⟩)))));have g:¬l[k].2=a[k].2:=by simpa using g
 have:¬l=a:=λe=>by subst e;exact g rfl
 exact⟨_,rfl,by simp[this],e.trans m⟩;have g:l[k].2=a[k].2:=by simpa using g
 refine cq ⟨d,(),⟨rfl,rfl,rfl,trivial⟩,e.trans m,?_⟩;rw[gP d,gP i,C,Prod.ext f g];have p:¬k<l.length:=by simpa using p
 have:l=a:=by have I:l.take k=l:=qL (by omega);have J:a.take k=a:=qL (by omega);rw[<-I,<-J,C]
 exact⟨_,rfl,by simp[this],e⟩
def nI:List Tq:=[⟨0,0,false⟩,⟨1,0,true⟩,⟨2,1,false⟩]
def Ag:dr fj [0,1,2,3]=38/\dF fj [0,1,2,3]=55/\kg fj [0,1,2,3]=0:=by decide+kernel
def Gl:kg fj [3,2,1,0]=0/\fJ fj (dB [3,2,1,0])=some [[0,1],[2,3]]:=by decide+kernel
def Dv:List Sx:=[⟨1,1,0,false,true,false,false,false⟩,⟨1,1,0,true,true,false,false,false⟩,⟨1,0,1,false,true,false,false,false⟩,oe]
def Ou:gO fj nI=(0,Dv):=by rfl
def Ah:ee fj nI 5 0=0/\ee fj nI 2 0=0/\ee fj nI 2 1=0/\ee fj [] 3 1=0:=by decide+kernel
def QO:Gi fj Dv 5=[2,3]:=by decide+kernel
def W4:dR:=⟨[0,2,3],[[[3],[5]],[[2],[4]],[[2,5],[3,4]]],[0,1,-1,-1,1,1,-1,-1,1,1,-1,-1,1,2,-1,-1,0,0,0,0,0,0,0,0,0,0,0,0,0,0,0,0]⟩
def Ov:iU fj Dv 2=W4:=by unfold iU W4;rw[dR.mk.injEq];exact⟨by decide+kernel,by decide+kernel,by decide+kernel⟩
def QP:gm W4=some ([0,1,1],1,2):=by decide+kernel
def QQ:z7 fj (iU fj Dv 2)=some [(3,[0,3]),(4,[2,3])]:=by rw[Ov];unfold z7;rw[QP];decide+kernel
def Ll:oi fj nI 2 1 [(3,[0,3]),(4,[2,3])]=(true,0):=by decide+kernel
def Ic:List Sx:=[oe,oe,oe,oe]
def QS:gO fj []=(0,Ic):=by rfl
def Ow:oL (tO fj Ic 3 1) (cW fj.tries Ic)=[0,1]:=by decide+kernel
def lz{l:List Int}(h:w.heap[m]? =some (.cells (l.map (Value.int .i64)).toArray T)):ja w (some ⟨m,0,none⟩) l:=λk a=>⟨m,0,rfl,ci h (by rw[cB];simp[ew a])⟩
def lA(h:w.heap[m]? =some (.cells (fi l).toArray T)):eO w (some ⟨m,0,none⟩) l:=λk a=>⟨m,0,rfl,ci h (by rw[cB];simp[fi,ew a])⟩
theorem B6:∀(l:List Tq) (k:Nat) (a:k<l.length) (j:Nat) (v:ce),(Pc l[k])[j]? =some v->(l.flatMap Pc)[k*3+j]? =some v
 |x::r,0,_,j,v,h=>by have b:j<(Pc x).length:=(gy.1 h).1;simp only[ky,Nat.zero_mul,cB];rw[kz b];exact h
 |x::r,k+1,a,j,v,h=>by have c:=B6 r k (by simpa using a) j v (by simpa using h);have d:(Pc x).length=3:=rfl;simp only[ky];rw[mQ (by omega),d,show(k+1)*3+j-3=k*3+j by omega];exact c
def Lm{l:List Tq}(h:w.heap[m]? =some (.cells (l.flatMap Pc).toArray T)):sI w (some ⟨m,0,none⟩) l:=λk a=>⟨m,0,rfl,λj v b=>ci h (by rw[cB];simpa using B6 l k a j v b)⟩
def Ox(w:cd):sI w none []:=λk a=>by simp at a
def sr{k:ce->cd->Prop}{c:List PanicEntry->cd->Prop}(d:∀a b,Ext w a->gD a (some ⟨b,0,none⟩) fj.doors->k (gV fj (some ⟨b,0,none⟩) 4) a):P9 V.prog 95 [] w k c:=
 ck (NI w) λv a ⟨e,b,_,f,g⟩=>by subst f;exact d a b e (Ku g)
def Ai{k:ce->cd->Prop}{c:List PanicEntry->cd->Prop}(d:∀a b,Ext w a->sI a (some ⟨b,0,none⟩) nI->k (.slice (some ⟨b,0,none⟩) 3 3) a):P9 V.prog 96 [] w k c:=
 ck (Kv w) λv a ⟨e,b,_,f,g⟩=>by subst f;exact d a b e (Lm g)
def Oy:fj.doors.length<=100000/\ -1000000<=fj.streets/\fj.streets<=1000000:=by decide
def Ln:tK fj [0,1,2,3]=.tuple #[.agg (fp 38 55).toArray,.int .i64 0]:=by unfold tK;rw[cx Ag.2.2];show Value.tuple #[.agg (fp (dr fj [0,1,2,3]) (dF fj [0,1,2,3])).toArray,.int .i64 0]=_;rw[Ag.1,Ag.2.1]
def ZA{a:Func}{c:Code}{R:Ending->cd->Prop}(d:V.prog.funcs[K]? =some a)(e:a.ntmps=m)(h:kq V.prog m c (W.toList.zipIdx.map λp=>(p.2,p.1)) w (QR V.prog a.results.toList R))
 (f:a.body=some c:=by rfl)(b:Nat.ble W.toList.length m=true:=by rfl):Calls V.prog K W w R:=by
 have:=RA (args:=W.toList) m d f e (sO b) h;simpa using this
def ii(w:cd):Calls V.prog 26 #[] w (qa λv w'=>v=.bool true/\Ext w w'):=by
 obtain⟨c,d⟩:=Oy;refine ZA V.func26 Tryz.ntmps26 (kq.seq jG ?_);refine kq.seq jG ?_;refine sr λw1 b1 e1 aD=>dJ [.int .i64 0,.int .i64 1,.int .i64 2,.int .i64 3] 3 λw2 bs e2 bo aE=>?_;refine dq (BN (l:=[0,1,2,3]) (aD.ext e2) c d (lz aE) (by decide) (by decide)) λw3 e3=>?_;rw[Ln];refine eF λw4 H e4 aF S=>cZ S λw5 k5 I=>?_;have I:w5.heap[H]? =some (.cells (fp 38 55).toArray 56):=I;have E5:Ext w w5:=((e1.trans e2).trans e3).trans (e4.cy k5 aF);refine kq.qA (l0:=[(1,cK H),(2,.int .i64 0)]) ⟨rfl,rfl,trivial⟩ (kq.seq jG ?_);refine sr λw6 b6 e6 aG=>dJ [.int .i64 3,.int .i64 2,.int .i64 1,.int .i64 0] 3 λw7 bt e7 bp aH=>?_;refine ck (xt (ds:=[3,2,1,0]) (aG.ext e7) c d (lz aH) (by decide) (by decide)) ?_;rintro v w8 ⟨e8,⟨h,_⟩|⟨_,T⟩⟩;exact absurd Gl.1 h;have aI:fJ fj (dB (([3,2,1,0]:List Int).map Int.toNat))=some [[0,1],[2,3]]:=Gl.2;rw[aI]at T;obtain⟨U,rfl,aJ⟩:=T;have E8:=((E5.trans e6).trans e7).trans e8;have aK:=((e6.trans e7).trans e8).at_ I;refine kq.qA (l0:=[(1,cK H),(2,.int .i64 0),(3,U),(4,.int .i64 0)]) ⟨rfl,rfl,rfl,rfl,trivial⟩ (kq.seq jG ?_);refine sr λw9 b9 e9 aL=>Ai λbu bv J W=>?_;refine ck (Ad (l:=nI) (aL.ext J) c d W (by decide) 5) ?_;rintro v bw ⟨X,⟨h,_⟩|⟨_,lv,rfl,Y⟩⟩;exact absurd Ah.1 h;have aM:Gi fj (gO fj nI).2 (5:Int).toNat=[2,3]:=by rw[Ou];exact QO
 rw[aM]at Y;have aN:=((E8.trans e9).trans J).trans X;have z:=(e9.trans J).trans X;refine kq.qA (l0:=[(1,cK H),(2,.int .i64 0),(3,U),(4,.int .i64 0),(5,lv),(6,.int .i64 0)]) ⟨rfl,rfl,rfl,rfl,rfl,rfl,trivial⟩ (kq.seq jG ?_);refine sr λbx bz Z aa=>Ai λbA bB K ab=>?_;refine fG (Ib (l:=nI) (aa.ext K) c d ab (by decide) 2) (λw' h=>.inr ⟨rfl,h⟩) ?_;rintro v bC ⟨ac,⟨h,_⟩|⟨_,T⟩⟩;exact absurd Ah.2.1 h;have aO:z7 fj (iU fj (gO fj nI).2 (2:Int).toNat)=some [(3,[0,3]),(4,[2,3])]:=by rw[Ou];exact QQ
 rw[aO]at T;obtain⟨pv,rfl,aP⟩:=T;have aQ:=((aN.trans Z).trans K).trans ac;have e:=(Z.trans K).trans ac;refine kq.qA (l0:=[(1,cK H),(2,.int .i64 0),(3,U),(4,.int .i64 0),(5,lv),(6,.int .i64 0),(7,pv),(8,.int .i64 0)]) ⟨rfl,rfl,rfl,rfl,rfl,rfl,rfl,rfl,trivial⟩ (kq.seq jG ?_);refine sr λbD bE aR ad=>?_;refine fG (Gj (l:=[]) (la:=none) (lc:=0) ad c d (Ox _) (by decide) 3 1) (λw' h=>.inr ⟨rfl,h⟩) ?_;rintro v bF ⟨aS,⟨h,_⟩|⟨_,va,vc,rfl,ae,_⟩⟩;exact absurd Ah.2.2.2 h;have aT:oL (tO fj (gO fj []).2 (3:Int).toNat 1) (cW fj.tries (gO fj []).2)=[0,1]:=by rw[QS];exact Ow
 rw[aT]at ae⊢;have b:=aR.trans aS;have af:=aQ.trans b;refine kq.qA (l0:=[(1,cK H),(2,.int .i64 0),(3,U),(4,.int .i64 0),(5,lv),(6,.int .i64 0),(7,pv),(8,.int .i64 0),(9,.slice va 2 vc),(10,.int .i64 0)]) ⟨rfl,rfl,rfl,rfl,rfl,rfl,rfl,rfl,rfl,rfl,trivial⟩ (kq.seq jG ?_);refine sr λbG bH aU ag=>Ai λbI bJ ah ai=>dJ [.int .i64 0,.int .i64 3] 3 λbK A aV aW aj=>?_;refine dq (Db 3 _ 2 2 _) λbL aX=>dJ [.int .i64 2,.int .i64 3] 3 λbM B aY aZ ak=>?_;refine dq (Db 4 _ 2 2 _) λbN al=>?_;refine dJ [.int .i64 3,.slice (some ⟨A,0,none⟩) 2 2,.int .i64 4,.slice (some ⟨B,0,none⟩) 2 2] 29 λa0 n am a1 g=>?_;have o:=(aX.trans aY).trans (al.trans am)
 have L:Ae a0 (some ⟨n,0,none⟩) [(3,[0,3]),(4,[2,3])]:=λk hk=>by
  have an:k<2:=hk;obtain rfl|rfl:k=0\/k=1:=by omega
  exact⟨n,0,some ⟨A,0,none⟩,2,rfl,ci g rfl,ci g rfl,lz (o.at_ aj),cz _⟩;exact⟨n,0,some ⟨B,0,none⟩,2,rfl,ci g rfl,ci g rfl,lz ((al.trans am).at_ ak),cz _⟩
 have f:=aV.trans o;refine ck (Dt (l:=nI) (ps:=[(3,[0,3]),(4,[2,3])]) ((ag.ext ah).ext f) c d (ai.ext f) (by decide) 2 1 L (by decide) (by decide)) ?_;rintro v bO ⟨a2,rfl⟩;rw[Ll];have a:=((aU.trans ah).trans f).trans a2;have bP:=af.trans a;refine kq.qA (l0:=[(1,cK H),(2,.int .i64 0),(3,U),(4,.int .i64 0),(5,lv),(6,.int .i64 0),(7,pv),(8,.int .i64 0),(9,.slice va 2 vc),(10,.int .i64 0),(11,.bool true),(12,.int .i64 0)]) ⟨rfl,rfl,rfl,rfl,rfl,rfl,rfl,rfl,rfl,rfl,rfl,rfl,trivial⟩ (kq.seq jG ?_);have ao:=(((z.trans e).trans b).trans a).at_ aK;refine eh (iR rfl ?_);refine eh (iR rfl ?_);refine eh (iR rfl ?_);refine eh (iR rfl ?_);refine eh (iR rfl ?_);refine eh (iR rfl ?_);refine iR rfl ?_;refine dP (vs:=fp 38 55) (λj v hj=>by rw[cB];exact ci ao (by simpa using hj)) ?_;refine dA (.agg (fp 38 55).toArray) ?_;refine dA (.bool true) ?_;refine iR rfl ?_;refine dJ [.int .i64 0,.int .i64 1] 3 λbQ C x a3 ap=>?_;refine dJ [.int .i64 2,.int .i64 3] 3 λbR D p a4 aq=>?_;refine dJ [.slice (some ⟨C,0,none⟩) 2 2,.slice (some ⟨D,0,none⟩) 2 2] 27 λar q m a5 E=>?_;obtain⟨wa,wc,rfl,a6,_⟩:=aJ.row;have au:=((((z.trans e).trans b).trans a).trans x).trans (p.trans m)
 have y:tJ ar (some ⟨q,0,none⟩) [[0,1],[2,3]]:=λk hk=>by
  have an:k<2:=hk;obtain rfl|rfl:k=0\/k=1:=by omega
  exact⟨q,0,some ⟨C,0,none⟩,2,rfl,ci E rfl,lA (l:=[0,1]) ((p.trans m).at_ ap),cz _⟩;exact⟨q,0,some ⟨D,0,none⟩,2,rfl,ci E rfl,lA (l:=[2,3]) (m.at_ aq),cz _⟩
 refine dq (xg [[0,1],[2,3]] [[0,1],[2,3]] wa _ wc 2 ar (a6.ext au) y (by decide) (by decide)) λbS M=>?_;refine iR (by decide) ?_;refine dJ [.int .i64 2,.int .i64 3] 3 λa7 bq N a8 av=>?_;obtain⟨a9,ba,rfl,bb,_⟩:=Y.row;have O:=(((((e.trans b).trans a).trans x).trans (p.trans m)).trans M).trans N;refine dq (nC [2,3] [2,3] a9 _ ba 2 a7 (bb.ext O) (lA av) (by decide)) λbT aw=>?_;refine iR (by decide) ?_;refine dJ [.int .i64 0,.int .i64 3] 3 λbU F bc bd ax=>?_;refine dq (Db 3 _ 2 2 _) λbV ay=>?_;refine dJ [.int .i64 2,.int .i64 3] 3 λbW G az be aA=>?_;refine dq (Db 4 _ 2 2 _) λbX P=>?_;refine dJ [.int .i64 3,.slice (some ⟨F,0,none⟩) 2 2,.int .i64 4,.slice (some ⟨G,0,none⟩) 2 2] 29 λaB r Q bf i=>?_;obtain⟨bg,bh,rfl,bi,_⟩:=aP.row;have s:=((bc.trans ay).trans (az.trans P)).trans Q;have R:=((((((b.trans a).trans x).trans (p.trans m)).trans M).trans N).trans aw).trans s
 have t:wA aB (some ⟨r,0,none⟩) [(3,[0,3]),(4,[2,3])]:=λk hk=>by
  have an:k<2:=hk;obtain rfl|rfl:k=0\/k=1:=by omega
  exact⟨r,0,some ⟨F,0,none⟩,2,rfl,ci i rfl,ci i rfl,lA (l:=[0,3]) (((ay.trans (az.trans P)).trans Q).at_ ax),cz _⟩;exact⟨r,0,some ⟨G,0,none⟩,2,rfl,ci i rfl,ci i rfl,lA (l:=[2,3]) ((P.trans Q).at_ aA),cz _⟩
 refine dq (Gk [(3,[0,3]),(4,[2,3])] [(3,[0,3]),(4,[2,3])] bg _ bh 2 aB (bi.gi (R.gi 0)) t (by decide) (by decide)) λbY bj=>?_;refine iR (by decide) ?_;refine dJ [.int .i64 0,.int .i64 1] 3 λbk br bl bm aC=>?_;have u:=((((((a.trans x).trans (p.trans m)).trans M).trans N).trans aw).trans s).trans (bj.trans bl);refine dq (nC [0,1] [0,1] va _ vc 2 bk (ae.ext u) (lA aC) (by decide)) λbZ bn=>?_;refine kq.of jG (.inl ⟨_,rfl,?_,(af.trans u).trans bn⟩);show Value.bool (decide (([0,1]:List Nat)=[0,1]))=.bool true;rw[decide_eq_true rfl]
def u64(n:Int):Int:=IntKind.wrap .u64 n
def Jw(n:Int):0<=u64 n:=by unfold u64 IntKind.wrap;simp only[IntKind.signed,Bool.false_and,iq,eo];exact Int.emod_nonneg _ (by decide)
def TC(a b:Int):Int:=u64 (BitVec.ofInt 64 a^^^BitVec.ofInt 64 b).toNat
section
variable{w:cd}{t:cg}{x y:dj}{a b:Int}
def qd:Sem.run V.prog (do eqGuard .xor t x y (.int .u64 a) (.int .u64 b);binOp .xor t (.int .u64 a) (.int .u64 b)) w=.ok (.int .u64 (TC a b)) w:=rfl
def Aj:Sem.run V.prog (do eqGuard .mul t x y (.int .u64 a) (.int .u64 b);binOp .mul t (.int .u64 a) (.int .u64 b)) w=.ok (.int .u64 (u64 (a*b))) w:=rfl
def Oz:Sem.run V.prog (do eqGuard .add t x y (.int .u64 a) (.int .u64 b);binOp .add t (.int .u64 a) (.int .u64 b)) w=.ok (.int .u64 (u64 (a+b))) w:=rfl
def Jx(n:Nat)(d:n<=64)(c:b=n:=by rfl):Sem.run V.prog (do eqGuard .shl t x y (.int .u64 a) (.int .u64 b);binOp .shl t (.int .u64 a) (.int .u64 b)) w=.ok (.int .u64 (u64 (a*2^n))) w:=by
 subst c;show Sem.run V.prog (Op.shift .shl .u64 a .u64 n) w=_;unfold Op.shift;rw[cr (by omega)];have:min (n:Int).toNat IntKind.u64.bits=n:=by simp[IntKind.bits];omega
 rw[this];rfl
def sx(n:Nat)(d:n<=64)(c:b=n:=by rfl):Sem.run V.prog (do eqGuard .shr t x y (.int .u64 a) (.int .u64 b);binOp .shr t (.int .u64 a) (.int .u64 b)) w=.ok (.int .u64 (a.fdiv (2^n))) w:=by
 subst c;show Sem.run V.prog (Op.shift .shr .u64 a .u64 n) w=_;unfold Op.shift;rw[cr (by omega)];have:min (n:Int).toNat IntKind.u64.bits=n:=by simp[IntKind.bits];omega
 rw[this];rfl
def OA(h:b≠0):Sem.run V.prog (do eqGuard .rem t x y (.int .u64 a) (.int .u64 b);binOp .rem t (.int .u64 a) (.int .u64 b)) w=.ok (.int .u64 (a.tmod b)) w:=by show Sem.run V.prog (Op.intDiv .rem .u64 a b) w=_;unfold Op.intDiv;rw[cr h];rfl
def xU:Tryz.prog.underlying 3=some (.int .i64):=by kernel_rfl
def OB:Tryz.prog.underlying 119=some (.int .u64):=by kernel_rfl
def Jy:Sem.run V.prog (convert 3 119 (.int .i64 a)) w=.ok (.int .u64 (u64 a)) w:=by unfold convert;simp only[Sem.run_bind,fZ xU,fZ OB,Result.andThen_ok];rfl
def QT:Sem.run V.prog (convert 119 3 (.int .u64 a)) w=.ok (.int .i64 (IntKind.wrap .i64 a)) w:=by unfold convert;simp only[Sem.run_bind,fZ xU,fZ OB,Result.andThen_ok];rfl
end
section
variable{E:cd->cd->Prop}{w:cd}{kx:ce->Prop}{kr kp kl:fW->Prop}{lb ea:Bool}
def qe{s:Sem ce}(v:ce)(b:fw E)(c:∀w,Sem.run V.prog s w=.ok v w)(k:kx v):zr E E w (λa d=>iO V.prog s a d) kx kr kp lb kl ea:=.exact v (λa _=>⟨v,a,c a,rfl,b.refl _⟩) k
end
structure gI(db:Nat)(w:cd):Prop where
 at_:∃(la:Option Addr) (ns:List Int) (lc i:Nat) (s:Int),w.heap[db]? =some (.cells #[.slice la ns.length lc,.int .i64 i,.int .u64 s] 121)/\ja w la ns/\(∀b o,ns≠[]->la=some ⟨b,o,none⟩->b<db)/\i<=ns.length/\ns.length<=9223372036854775807
def ja.keep{w c:cd}{a:Option Addr}{l:List Int}{F:Nat->Prop}(h:ja w a l)(k:cN F w c)(g:∀b o,l≠[]->a=some ⟨b,o,none⟩->¬F b):ja c a l:=λi d=>by obtain⟨b,o,f,j⟩:=h i d;exact⟨b,o,f,k.ef j (g b o (λe=>by subst e;exact absurd d (by simp)) f)⟩
def gI.lt{w:cd}(h:gI m w):m<w.heap.size:=by obtain⟨b,c,d,i,s,a,_⟩:=h.at_;exact cF.lt_of_heap a
theorem gI.keep{w a:cd}{F:Nat->Prop}(h:gI m w)(k:cN F w a)(c:∀b,F b->m<b):gI m a:=by obtain⟨f,g,j,i,s,l,n,d,p⟩:=h.at_;refine⟨f,g,j,i,s,k.fg l λx=>Nat.lt_irrefl _ (c _ x),n.keep k λb o q e r=>?_,d,p⟩;have:=d b o q e;have:=c b r;omega
def gI.ext{w a:cd}(h:gI m w)(e:Ext w a):gI m a:=h.keep (e.keep λ_=>False) λ_ h=>h.elim
def DE(c:Nat)(a b:cd):Prop:=cN (λx=>x=c) a b/\(gI c a->gI c b)
def Ext.de{a b:cd}(h:Ext a b)(c:Nat):DE c a b:=⟨h.keep _,λk=>k.ext h⟩
theorem DE.trans{a b c:cd}(h:DE m a b)(k:DE m b c):DE m a c:=⟨h.1.trans k.1 (λ_ _ h=>h) λ_ _ h=>h,λx=>k.2 (h.2 x)⟩
def xV(d:Nat):fw (DE d):=⟨λw=>(Ext.refl w).de d,λa b c h k=>h.trans k,λw=>(Ext.drew w).de d⟩
def QU{w:cd}(h:gI m w):Calls V.prog 104 #[cK m] w (fy λv r=>(∃z:Int,v=.int .u64 z/\0<=z)/\DE m w r):=by
 obtain⟨t,j,p,i,s,D,N,E,W,X⟩:=h.at_
 have u:∀r (F:Int) (y:Nat),cN (λx=>x=m) w r->r.heap[m]? =some (.cells #[.slice t j.length p,.int .i64 y,.int .u64 F] 121)->y<=j.length->DE m w r:=λr F y k G Y=>
  ⟨k,λ_=>⟨t,j,p,y,F,G,N.keep k λb o H e G=>by have:=E b o H e;omega,E,Y,X⟩⟩
 refine go V.func104 Tryz.ntmps104 ?_;refine cQ cO (cG (ci D rfl) (cG (ci D rfl) (qe _ cO (λ_=>Jx 13 (by decide)) (qe _ cO (λ_=>qd) λw1 O=>cZ (O.at_ D) λZ I d=>?_))));replace d:Z.heap[m]? =some (.cells #[.slice t j.length p,.int .i64 i,.int .u64 (TC s (u64 (s*2^13)))] 121):=d;generalize TC s (u64 (s*2^13))=A at d;replace I:=(O.keep (λx=>x=m)).trans I (λ_ _ h=>h) λ_ _ h=>h;refine cQ cO (cG (ci d rfl) (cG (ci d rfl) (qe _ cO (λ_=>sx 7 (by decide)) (qe _ cO (λ_=>qd) λw3 P=>cZ (P.at_ d) λw4 J f=>?_))));replace f:w4.heap[m]? =some (.cells #[.slice t j.length p,.int .i64 i,.int .u64 (TC A (A.fdiv (2^7)))] 121):=f;generalize TC A (A.fdiv (2^7))=B at f;replace J:=(I.trans (P.keep (λx=>x=m)) (λ_ _ h=>h) λ_ _ h=>h).trans J (λ_ _ h=>h) λ_ _ h=>h;refine cQ cO (cG (ci f rfl) (cG (ci f rfl) (qe _ cO (λ_=>Jx 17 (by decide)) (qe _ cO (λ_=>qd) λw5 Q=>cZ (Q.at_ f) λw6 l a=>?_))));replace a:w6.heap[m]? =some (.cells #[.slice t j.length p,.int .i64 i,.int .u64 (TC B (u64 (B*2^17)))] 121):=a;generalize TC B (u64 (B*2^17))=R at a;replace l:=(J.trans (Q.keep (λx=>x=m)) (λ_ _ h=>h) λ_ _ h=>h).trans l (λ_ _ h=>h) λ_ _ h=>h;refine cQ cO (cG (ci a rfl) (cG (ci a rfl) (jW (RH λw7 C=>⟨λn=>?_,λaa=>?_⟩))));have n:i<j.length:=by simpa using n
 replace a:=C.at_ a;replace l:=l.trans (C.keep (λx=>x=m)) (λ_ _ h=>h) λ_ _ h=>h;obtain⟨b,o,K,S⟩:=N.keep l (λb o H e G=>by have:=E b o H e;omega) i n;subst K;generalize j[i]=q at S;refine cQ cO (cG (ci a rfl) (cG (ci a rfl) (cG (ci a rfl) (me i n (cG S ?_)))));refine qe (.int .u64 (u64 q)) cO (λ_=>Jy) ?_;refine qe (.int .u64 (u64 (u64 q*13787848793156543929))) cO (λ_=>Aj) ?_;refine qe (.int .u64 (u64 (R+u64 (u64 q*13787848793156543929)))) cO (λ_=>Oz) ?_;refineλw8 T=>cZ (T.at_ a) λw9 k9 g=>?_;generalize u64 (R+u64 (u64 q*13787848793156543929))=U at g;replace g:w9.heap[m]? =some (.cells #[.slice (some ⟨b,o,none⟩) j.length p,.int .i64 i,.int .u64 U] 121):=g;refine cu (ci g rfl) (cq (cZ g λL M c=>?_));replace c:L.heap[m]? =some (.cells #[.slice (some ⟨b,o,none⟩) j.length p,.int .i64 ((i+1:Nat):Int),.int .u64 U] 121):=c;refine cu (ci c rfl) ?_;refine dA _ (dA _ (dA _ (dA _ (dA _ ⟨_,rfl,⟨_,rfl,Jw _⟩,?_⟩ λ_=>qd) λ_=>sx 31 (by decide)) λ_=>Aj) λ_=>qd) λ_=>sx 30 (by decide);exact u _ _ _ (((l.trans (T.keep (λx=>x=m)) (λ_ _ h=>h) λ_ _ h=>h).trans k9 (λ_ _ h=>h) λ_ _ h=>h).trans M (λ_ _ h=>h) λ_ _ h=>h) c (by omega);replace a:=C.at_ a;replace l:=l.trans (C.keep (λx=>x=m)) (λ_ _ h=>h) λ_ _ h=>h;refine cu (ci a rfl) ?_;refine dA _ (dA _ (dA _ (dA _ (dA _ ⟨_,rfl,⟨_,rfl,Jw _⟩,?_⟩ λ_=>qd) λ_=>sx 31 (by decide)) λ_=>Aj) λ_=>qd) λ_=>sx 30 (by decide);exact u _ _ _ l a W
def nJ{w:cd}(h:gI m w)(n:Int)(g:n<=1000000):Calls V.prog 35 #[cK m,.int .i64 n] w (fy λv b=>(∃z:Int,v=.int .i64 z/\0<=z/\(z<=n\/z=0))/\DE m w b):=by
 refine go V.func35 Tryz.ntmps35 ?_;refine cV ⟨λ_=>⟨_,rfl,⟨0,rfl,by omega,.inr rfl⟩,(xV m).refl _⟩,λa=>?_⟩;have a:1<=n:=by simpa using a
 refine ck (QU h) ?_;rintro v i ⟨⟨z,rfl,c⟩,d⟩;refine dA _ (cq (dA _ (dA _ (dA _ ⟨_,rfl,⟨_,rfl,?_⟩,d⟩ λ_=>QT) λ_=>OA ?_) λ_=>Jy)) λ_=>sx 16 (by decide);have e:u64 (n+1)=n+1:=IntWalk.u64_in _ ⟨by omega,by omega⟩;rw[e];have f:0<=z.fdiv (2^16):=Int.fdiv_nonneg c (by decide);have j:=Int.tmod_nonneg (n+1) f;have k:(z.fdiv (2^16)).tmod (n+1)<n+1:=Int.tmod_lt_of_pos _ (by omega);rw[IntWalk.i64_in _ ⟨by omega,by omega⟩];omega;have e:u64 (n+1)=n+1:=IntWalk.u64_in _ ⟨by omega,by omega⟩;rw[e];omega
def kN{w:cd}(h:gI m w)(a b:Int)(g: -1000000<=a/\a<=1000000)(i: -1000000<=b/\b<=1000000)(c:b-a<=1000000):Calls V.prog 30 #[cK m,.int .i64 a,.int .i64 b] w (fy λv d=>(∃z:Int,v=.int .i64 z/\a<=z/\(z<=b\/z=a))/\DE m w d):=by refine go V.func30 Tryz.ntmps30 ?_;refine fx (ck (nJ h _ c) ?_);rintro v j ⟨⟨z,rfl,k,e⟩,f⟩;exact cq ⟨_,rfl,⟨a+z,rfl,by omega,by omega⟩,f⟩
def Dw{w:cd}(h:gI m w){l:List Int}{c:Option Addr}(g:ja w c l)(s:0<l.length)(i:l.length<=1000)(j:∀b o,c=some ⟨b,o,none⟩->b≠m):Calls V.prog 59 #[cK m,.slice c l.length k] w (fy λv n=>(∃z∈l,v=.int .i64 z)/\DE m w n):=by
 refine go V.func59 Tryz.ntmps59 ?_;refine cD (fx (ck (nJ h _ (by omega)) ?_));rintro v t ⟨⟨z,rfl,u,p⟩,f⟩;obtain⟨a,rfl⟩:∃a:Nat,z=a:=⟨z.toNat,by omega⟩;have d:a<l.length:=by omega
 obtain⟨b,o,rfl,q⟩:=g.keep f.1 (λb o _ e r=>j b o e r) a d;exact dI a d (cu q ⟨_,rfl,⟨_,dt d,rfl⟩,f⟩)
def ko{w:cd}{l:List Int}{a:Option Addr}(h:ja w a l)(j:l.length<=9223372036854775807):Calls V.prog 27 #[.slice a l.length m] w (fy λv i=>Ext w i/\∃d,v=cK d/\w.heap.size<=d/\gI d i):=by
 refine go V.func27 Tryz.ntmps27 ?_;refine dA (.agg #[.slice a l.length m,.int .i64 0,.int .u64 11400714819323198485]) (fo λs k f g n=>?_);refine⟨_,rfl,f,k,rfl,g,a,l,m,0,11400714819323198485,n,h.ext f,λb o p e=>?_,fN _,j⟩;have q:0<l.length:=by rcases l with _|_;exact absurd rfl p;simp
 obtain⟨t,u,c,r⟩:=h 0 q;rw[e]at c;injection c with c;injection c with f x;have:=tD r;simp only at*;omega
def dE.at_(h:dE m w x l)(d:0<l.length):∃b c,x=.slice (some ⟨b,0,none⟩) l.length c/\m<=b/\∀k (a:k<l.length),w.cell? ⟨b,0+k,none⟩=some (.int .i64 l[k]):=by obtain⟨b,c,e,f,g⟩:=cA.cell h d;exact⟨b,c,e,f,λk a=>by rw[cB];exact g k _ (by simp[fi,ew a])⟩
def eO.keep(h:eO w a l)(k:cN A w t)(d:∀b o,a=some ⟨b,o,none⟩->¬A b):eO t a l:=λi e=>by obtain⟨b,o,c,f⟩:=h i e;exact⟨b,o,c,k.ef f (d b o c)⟩
end Go.Proofs.W
