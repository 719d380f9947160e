/- Laws that the proof needs, part 3. Conditions: none. -/
import Derived.Test.YteeagjkaflglpaaGreatX02
set_option maxRecDepth 100000
set_option maxHeartbeats 8000000
set_option linter.all false
variable{m k i j o p s d:Nat}{w t e:cJ}{x y z:cK}{A B C:Nat->Prop}{l f:List Nat}{T U:cR}{a:Option Go.Addr}{W X:Array cK}{M Y:List cK}{I J:Int}{h:Go.Addr}{D E:Bool}{O Q:Go.Obj}{K:dZ}{S:cJ->Prop}
namespace Go.Proofs.W
open Go.RowKit
abbrev io:=cK->cJ->Prop
def Az{a:Type}(f:a->Bool):List a->Bool
 |[]=>false
 |x::r=>match f x with
  |true=>true
  |false=>Az f r
def UC:Option Nat->Nat->Bool
 |some d,t=>Nat.beq d t
 |none,_=>false
def We(a:List Oper)(t:Nat):Bool:=Az (λo=>UC o.dst t) a
def zh(a:List Oper)(o:Oper)(t:Nat):Bool:=match We a t with
 |false=>true
 |true=>Az (λe=>match Region.binds .any e with
  |true=>UC (Av a e.on) t
  |false=>false) o.after.toList
def rd:dU->cN
 | .tmp t=>[t]
 |_=>[]
def XF:List dU->cN
 |[]=>[]
 |x::r=>rd x++XF r
def Yb:List (Nat×dU)->cN
 |[]=>[]
 |x::r=>rd x.2++Yb r
def XG:Option dU->cN
 |none=>[]
 |some x=>rd x
def SM:Op->cN
 | .move x=>rd x
 | .assign x=>rd x
 | .nilCheck x=>rd x
 | .fieldAddr _ x _=>rd x
 | .extract x _=>rd x
 | .field _ x _=>rd x
 | .load _ x=>rd x
 | .box _ x=>rd x
 | .unOp _ _ x=>rd x
 | .convert _ _ x=>rd x
 | .pick c x y=>rd c++(rd x++rd y)
 | .store _ x y=>rd x++rd y
 | .binOp _ _ x y _=>rd x++rd y
 | .makeSlice _ x y=>rd x++rd y
 | .indexAddr _ x y=>rd x++rd y
 | .index _ x y=>rd x++rd y
 | .lookup _ x y _=>rd x++rd y
 | .mapUpdate _ m x y=>rd m++(rd x++rd y)
 | .build _ d=>Yb d.toList
 | .buildSlice _ _ d=>Yb d.toList
 | .makeFunc _ a b=>XF a.toList++XF b.toList
 | .makeMap _ r=>XG r
 | .slice _ x a b c=>rd x++(XG a++(XG b++XG c))
 | .call c=>(match c.callee with
  | .value f=>rd f
  |_=>[])++XF c.args.toList
 |_=>[]
def SO(a:List Oper)(o:Oper):cN:=match o.guard with
 |none=>[]
 |some (g,_)=>match Av a g with
  |some d=>[d]
  |none=>[]
def tq(c:Nat->Bool)(l:L):cN->L
 |[]=>[]
 |t::r=>match c t with
  |true=>(match lk l t with
   |some v=>(t,v)::tq c l r
   |none=>tq c l r)
  |false=>tq c l r
def nR(c:Nat->Bool):List (Nat×io)->List (Nat×io)
 |[]=>[]
 |p::r=>match c p.1 with
  |true=>p::nR c r
  |false=>nR c r
def AA(a:List Oper)(o:Oper):cN:=SM o.op++SO a o
def zi:List (Nat×io)->cJ->(L->Prop)->Prop
 |[],_,f=>f []
 |p::r,w,f=>∀v,p.2 v w->zi r w λl=>f ((p.1,v)::l)
def GU(l:L):cN->Option dP
 |[]=>some []
 |t::r=>match lk l t with
  |some v=>(match GU l r with
   |some a=>some (v::a)
   |none=>none)
  |none=>none
abbrev B4:=List Nat×(List cK->cJ->Prop)
def AB:List B4->L->cJ->Prop->Prop
 |[],_,_,X=>X
 |p::r,l,w,X=>match GU l p.1 with
  |some a=>p.2 a w->AB r l w X
  |none=>AB r l w X
inductive xq (E E':cJ->cJ->Prop) (w:cJ) (f:cJ->(cK->cJ->Prop)->Prop) (kx:cK->Prop) (kr:io->Prop) (kp:io->Prop) (lb:Bool) (kl:io->Prop) (ea:Bool):Prop
 |exact(v:cK) (h:∀w1,E' w w1->f w1 λu w2=>u=v/\E w1 w2) (k:kx v)
 |rel (R:io) (st:∀v a b,R v a->E' a b->R v b) (h:∀w1,E' w w1->f w1 λu w2=>R u w2/\E w1 w2) (k:kr R)
 |MI (R:io) (st:∀v a b,R v a->E a b->R v b) (h:∀w1,E' w w1->f w1 λu w2=>R u w2/\E w1 w2) (k:kp R)
 |late (hb:lb=true) (R:io) (st:∀v a b,R v a->E a b->R v b) (h:∀w1,E' w w1->f w1 λu w2=>R u w2/\E w1 w2) (k:kl R)
 |early (he:ea=true) (R:io) (st:∀v a b,R v a->E a b->R v b) (h:∀w1,E w w1->f w1 λu w2=>R u w2/\E w1 w2) (k:kp R)
 |Et (he:ea=true) (v:cK) (h:∀w1,E w w1->f w1 λu w2=>u=v/\E w1 w2) (k:kx v)
inductive Yc (E1 E2 Es:cJ->cJ->Prop) (w:cJ) (f:cJ->(List cK->cJ->Prop)->Prop) (kj:(List cK->cJ->Prop)->Prop):Prop
 |yw (J:List cK->cJ->Prop) (st:∀vs a b,J vs a->Es a b->J vs b) (h:∀w1,E1 w w1->f w1 λvs w2=>J vs w2/\E2 w1 w2) (k:kj J)
def GV:List (Nat×io)->cN
 |[]=>[]
 |p::r=>p.1::GV r
def MJ:L->dP
 |[]=>[]
 |p::r=>p.2::MJ r
def Py(T:zf)(e:cN)(l:L):Op->Option cK
 | .move x=>ev l x
 | .assign x=>ev l x
 | .pick (.tmp c) x y=>match lk l c with
  |some (.bool b)=>(match mem c e with
   |true=>(match b with
    |true=>ev l x
    |false=>ev l y)
   |false=>none)
  |_=>none
 | .nilCheck x=>match ev l x with
  |some (.pointer (some f))=>some (.pointer (some f))
  |_=>none
 | .fieldAddr S x i=>match ev l x with
  |some (.pointer (some ⟨b,o,none⟩))=>(match T.off S i with
   |some d=>some (.pointer (some ⟨b,o+d,none⟩))
   |none=>none)
  |_=>none
 | .extract x i=>match ev l x with
  |some (.tuple g)=>nth g.toList i
  |_=>none
 | .makeFunc h first a=>match evs l first.toList with
  |some j=>(match evs l a.toList with
   |some k=>some (.func h j.toArray k.toArray)
   |none=>none)
  |none=>none
 |_=>none
def GW{P:cU}{T:zf}{d:cN}{l:L}{w:cJ}{o:Oper}{k:nu}{s:dC}{pan:List PanicEntry->dC}(h:Py T d l o.op=some x)(e:k x w):Fx P T d l w o k s pan:=by
 unfold Fx;unfold Py at h;split at h;case h_1 b a=>grind
 case h_2 b a=>grind
 case h_3 c b y a=>
  grind
 case h_4 b a=>
  grind
 case h_5 S b i a=>
  grind
 case h_6 b i a=>
  grind
 case h_7 f first cap a=>
  grind
 grind
def Jo(o:Oper)(r:List Oper):Bool:=match r,o.dst,o.guard with
 |[],none,none=>true
 |_,_,_=>false
def SP{a:Type}(f:a->Bool):List a->Bool
 |[]=>true
 |x::r=>match f x with
  |true=>SP f r
  |false=>false
def early0(a:List Oper)(i t:Nat):Bool:=match We a t with
 |false=>false
 |true=>SP (λo=>match UC o.dst t with
  |true=>Az (λe=>match Region.binds .any e with
   |true=>Nat.beq e.on i
   |false=>false) o.after.toList
  |false=>true) a
def rI(c e:Nat->Bool)(l a:L):cN->L
 |[]=>[]
 |t::r=>match c t with
  |true=>(match lk l t with
   |some v=>(t,v)::rI c e l a r
   |none=>rI c e l a r)
  |false=>(match e t with
   |true=>(match lk a t with
    |some v=>(t,v)::rI c e l a r
    |none=>rI c e l a r)
   |false=>rI c e l a r)
def SQ(a:List Oper)(i:Nat)(o:Oper)(l b:L):L:=rI (zh a o) (early0 a i) l b (AA a o)
def B5(d:Option Nat)(R:io)(a:List (Nat×io)):List (Nat×io):=match d with
 |some d=>(d,R)::a
 |none=>a
def Pz(a:List Oper)(sp i:Nat):Bool:=match nth a sp with
 |some o=>Az (λe=>match Region.binds .any e with
  |true=>Nat.beq e.on i
  |false=>false) o.after.toList
 |none=>false
def tt(a:List Oper)(sp i:Nat):Bool:=match nth a sp with
 |some o=>Az (λe=>match Region.binds .any e with
  |true=>(match Nat.beq e.on i with
   |true=>true
   |false=>Pz a e.on i)
  |false=>false) o.after.toList
 |none=>false
def Vs(b:Bool):List (Nat×io)->List (Nat×io)->List (Nat×io)
 |[],a=>a
 |p::r,a=>match b with
  |true=>p::(r++a)
  |false=>a
def PC{a b:List (Nat×io)}{p:Nat×io}(h:p∈Vs D a b):p∈b\/(D=true/\p∈a):=by
 cases a with
 |nil=>exact .inl h
 |cons q r=>
  cases D with
  |false=>exact .inl h
  |true=>
   obtain rfl|h:=fi.1 h;grind;grind
def GX(P:Program)(T:zf)(N:Nat)(pn:List PanicEntry->World->Prop)(E E':World->World->Prop)(a:List Oper)(w:World)(i:Nat)(e:L)(o:Oper)(f:List Nat)(l:L)(b c:List (Nat×io))(j g:Bool)(d:L->List (Nat×io)->List (Nat×io)->Bool->Prop):Prop:=
 match Py T f (SQ a i o l e) o.op with
 |some v=>d (ins N o.dst v l) b c false
 |none=>xq E E' w (λh k=>zi (Vs g (nR (zh a o) c) (nR (zh a o) b)) h λm=>Fx P T f (m++SQ a i o l e) h o k (λ_=>False) pn)
  (λv=>d (ins N o.dst v l) b c false) (λR=>d l (B5 o.dst R b) c false) (λR=>d l b (B5 o.dst R c) false) j (λR=>d l (B5 o.dst R b) c true) g
def WW(P:cU)(T:zf)(E E':cJ->dC)(a:List Oper)(w:cJ)(o:Oper)(e:cN)(l:L)(b:List (Nat×io))(f:B4->Prop):Prop:=
 Yc E' E E' w (λc g=>zi (nR (zh a o) b) c λd=>Fx P T e (d++tq (zh a o) l (AA a o)) c o (λ_ _=>False) (λh=>g (MJ d) h) λ_ _=>False)
  (λJ=>f (GV (nR (zh a o) b),J))
def runT(P:cU)(T:zf)(E E':cJ->dC)(a:List Oper)(w:cJ)(o:Oper)(f:cN)(l:L)(b c:List (Nat×io))(g:B4->Prop):Prop:=
 Yc E E' E w (λd h=>zi (nR (zh a o) c++nR (zh a o) b) d λe=>Fx P T f (e++tq (zh a o) l (AA a o)) d o (λ_ _=>False) (λi=>h (MJ e) i) λ_ _=>False)
  (λJ=>g (GV (nR (zh a o) c++nR (zh a o) b),J))
inductive ZR (E E':cJ->cJ->Prop) (w:cJ) (f:cJ->(cK->cJ->Prop)->Prop) (kr:io->Prop):Prop
 |spec (R:io) (st:∀v a b,R v a->E a b->R v b) (h:∀w1,E w w1->f w1 λu w2=>R u w2/\E' w1 w2) (k:kr R)
def WX(P:cU)(T:zf)(pn:List PanicEntry->dC)(E E':cJ->dC)(a:List Oper)(w:cJ)(o:Oper)(c:cN)(l:L)(d e:List (Nat×io))(f:io->Prop):Prop:=
 ZR E E' w (λb g=>zi (nR (zh a o) e++nR (zh a o) d) b λh=>Fx P T c (h++tq (zh a o) l (AA a o)) b o g (λ_=>False) pn) f
def AC:List (Nat×io)->List (Nat×io)->List (Nat×io)
 |[],a=>a
 |p::r,a=>(p.1,λ_ _=>True)::AC r a
def wo(a:cN)(o:Oper):Bool:=match o.dst with
 |some _=>Az (λe=>match Region.binds .any e with
  |true=>mem e.on a
  |false=>false) o.after.toList
 |none=>false
def Jp(b:Bool)(i:Nat)(a:cN):cN:=match b with
 |true=>i::a
 |false=>a
def Lb(o:Oper):Bool:=match o.dst,o.guard with
 |none,none=>(match o.op with
  | .store _ _ _=>true
  | .mapUpdate _ _ _ _=>true
  |_=>false)
 |_,_=>false
def DW(P:cU)(T:zf)(N:Nat)(pn:List PanicEntry->cJ->Prop)(E E':cJ->cJ->Prop)(sp:Nat)(a:List Oper)(w:cJ)(j:L)(K:L->cJ->Prop):Nat->List Oper->List Nat->L->List (Nat×io)->List (Nat×io)->List B4->List Nat->Prop
 |_,[],_,l,h,n,q,k=>∀s,E' w s->zi h s λm=>AB q m s (K (m++l) s)
 |i,o::r,c,l,h,n,q,k=>match Jo o r with
  |true=>∀s,E' w s->zi h s λm=>AB q m s (Fx P T [] (m++l) s o (λ_ _=>False) (λv=>K (m++l) v) λ_ _=>False)
  |false=>match Lb o with
  |true=>(match Nat.beq i sp with
   |true=>runT P T E E' a w o c l h n λp=>DW P T N pn E E' sp a w j K (i+1) r c l (AC n h) [] (p::q) k
   |false=>WW P T E E' a w o c l h λp=>DW P T N pn E E' sp a w j K (i+1) r c l h n (p::q) k)
  |false=>Wd N o.dst (match o.guard with
   |none=>(match Nat.beq i sp with
    |true=>WX P T pn E E' a w o c l h n λR=>DW P T N pn E E' sp a w j K (i+1) r c l (B5 o.dst R (AC n h)) [] q (match o.dst with
     |some _=>[i]
     |none=>[])
    |false=>GX P T N pn E E' a w i j o c l h n (wo k o) (tt a sp i) λm e f t=>DW P T N pn E E' sp a w j K (i+1) r c m e f q (Jp t i k))
   |some (g,u)=>(match Av a g with
    |none=>False
    |some d=>match zh a o d with
     |false=>False
     |true=>match lk l d with
      |some (.bool b)=>(match mem d c with
       |true=>(match b,u with
        |true,true=>GX P T N pn E E' a w i j o c l h n (wo k o) (tt a sp i) λm e f t=>DW P T N pn E E' sp a w j K (i+1) r c m e f q (Jp t i k)
        |false,false=>GX P T N pn E E' a w i j o c l h n (wo k o) (tt a sp i) λm e f t=>DW P T N pn E E' sp a w j K (i+1) r c m e f q (Jp t i k)
        |_,_=>DW P T N pn E E' sp a w j K (i+1) r c (ins N o.dst undef l) h n q k)
       |false=>(match u with
        |true=>(b=true->GX P T N pn E E' a w i j o (d::c) ((d,.bool true)::l) h n (wo k o) (tt a sp i) λm e f t=>DW P T N pn E E' sp a w j K (i+1) r (d::c) m e f q (Jp t i k))/\
         (b=false->DW P T N pn E E' sp a w j K (i+1) r (d::c) (ins N o.dst undef ((d,.bool false)::l)) h n q k)
        |false=>(b=true->DW P T N pn E E' sp a w j K (i+1) r (d::c) (ins N o.dst undef ((d,.bool true)::l)) h n q k)/\
         (b=false->GX P T N pn E E' a w i j o (d::c) ((d,.bool false)::l) h n (wo k o) (tt a sp i) λm e f t=>DW P T N pn E E' sp a w j K (i+1) r (d::c) m e f q (Jp t i k))))
      |some (.tuple _)=>DW P T N pn E E' sp a w j K (i+1) r c (ins N o.dst undef l) h n q k
      |_=>False))
def yx(a:List Oper):L->L
 |[]=>[]
 |p::r=>match We a p.1 with
  |true=>yx a r
  |false=>p::yx a r
def uM:List Oper->Nat
 |[]=>0
 |o::r=>match Jo o r with
  |true=>0
  |false=>uM r+1
section
variable{P:cU}{T:zf}{N m sp:Nat}{pn:List PanicEntry->cJ->Prop}{E E':cJ->cJ->Prop}{ops:Array Oper}{w0:cJ}{a0:Act}{K:L->cJ->Prop}{Q:Exit->Act->cJ->Prop}
theorem nz{a:Type}{f:a->Bool}:∀{l:List a},Az f l=true->∃x∈l,f x=true
 |x::r,h=>by simp only[Az]at h;split at h;grind;have⟨y,b,c⟩:=nz h;grind
theorem Lc{a:Type}{f:a->Bool}:∀{l:List a} {x:a},x∈l->f x=true->Az f l=true
 |y::r,x,h,b=>by simp only[Az];obtain rfl|h:=fi.1 h;grind;split;rfl;exact Lc h b
theorem zx{d:Option Nat}{t:Nat}:UC d t=true↔d=some t:=by
 cases d with
 |none=>simp[UC]
 |some d=>
  simp only[UC,iN];simp
theorem uj{ops:Array Oper}{t:Nat}:We ops.toList t=wrote ops t:=by
 cases h:We ops.toList t with
 |true=>
  have⟨o,b,a⟩:=nz h;exact(FB.2 ⟨o,cL,by grind [zx]⟩).symm
 |false=>
  cases a:wrote ops t with
  |false=>rfl
  |true=>
   have⟨o,b,c⟩:=FB.1 a;have:=Lc (f:=λo=>UC o.dst t) (by grind:o∈ops.toList) (zx.2 cL);grind [We]
def MK(c:ny ops N m=true){i j t:Nat}{o b:Oper}(d:ops[i]? =some o)(a:ops[j]? =some b)(h:o.dst=some t)(e:b.dst=some t):i=j:=by have f:i<ops.size:=(iS.1 d).1;have g:j<ops.size:=(iS.1 a).1;simp only[ny,eW]at c;grind
structure Cons(ops:Array Oper)(a0:Act)(i:Nat)(S:Nat->Bool->io)(l:L)(rs ps:List (Nat×io))(js:List B4):Prop where
 l:∀t v,lk l t=some v->(wrote ops t=false/\a0.eval (.tmp t)=v)\/∃j o,j<i/\ops[j]? =some o/\o.dst=some t/\∀b u w,S j b u w->u=v
 r:∀p∈rs,∃j o,j<i/\ops[j]? =some o/\o.dst=some p.1/\∀b u w,S j b u w->p.2 u w
 p:∀p∈ps,∃j o,j<i/\ops[j]? =some o/\o.dst=some p.1/\∀u w,S j false u w->p.2 u w
 j:∀p∈js,∃j o,j<i/\ops[j]? =some o/\o.dst=none/\∀b a w,S j b (jh ops o a) w->p.2 (p.1.map λt=>a.eval (.tmp t)) w
structure At(ops:Array Oper)(a0:Act)(N i:Nat)(S:Nat->Bool->io)(b:Bool)(D:Nat->Prop)(a:Act)(w:cJ):Prop where
 size:a.tmps.size=N
 defers:a.defers=a0.defers
 keep:∀j,Before ops i j->a.eval (.tmp j)=a0.eval (.tmp j)
 val:∀j d,D j->((ops[j]?).bind (·.dst))=some d->S j b (a.eval (.tmp d)) w
def oO(H:ny ops N m=true){i:Nat}{S n:Nat->Bool->io}{l:L}{I:List B4}{A B:List (Nat×io)}(q:Cons ops a0 i S l A B I)(C:∀j,j<i->n j=S j){o:Oper}{a:Act}{w:cJ}
 (E:At ops a0 N i n D (λj=>(o.after.any λe=>e.on==j&&Region.binds .any e)=true) a w){t:Nat}(s:zh ops.toList o t=true):(∀v,lk l t=some v->a.eval (.tmp t)=v)/\(∀p∈A,p.1=t->p.2 (a.eval (.tmp t)) w)/\(D=false->∀p∈B,p.1=t->p.2 (a.eval (.tmp t)) w):=by
 have g:wrote ops t=true->∀j d,ops[j]? =some d->d.dst=some t->n j D (a.eval (.tmp t)) w:=λu j d b c=>by unfold zh at s;rw[uj,u]at s;have⟨e,M,F⟩:=nz s;split at F;rename_i O;have J:=zx.1 F;rw[mO]at J;have G:(ops[e.on]?).bind (·.dst)=some t:=cL;have⟨P,x,y⟩:=jT.1 G;obtain rfl:=MK H x b y c;exact E.val _ _ (FB.2 ⟨e,cL,cL⟩) G;grind
 have f:∀{j:Nat} {d:Oper},ops[j]? =some d->d.dst=some t->wrote ops t=true:=λb c=>FB.2 ⟨_,xZ b,cL⟩;refine⟨λv K=>?_,?_,?_⟩;obtain⟨u,h⟩|⟨j,d,k,b,c,h⟩:=q.l t v K;rw[E.keep t (MH u)];grind;have:=g (f b c) j d b c;rw[C j k]at this;grind;rintro p z rfl;have⟨j,d,k,b,c,h⟩:=q.r p z;have:=g (f b c) j d b c;rw[C j k]at this;grind;rintro rfl p z rfl;have⟨j,d,k,b,c,h⟩:=q.p p z;grind
theorem tu{c:Nat->Bool}{l:L}{a:Act}(h:∀t,c t=true->∀v,lk l t=some v->a.eval (.tmp t)=v):∀(d:cN) (t:Nat) (v:cK),lk (tq c l d) t=some v->a.eval (.tmp t)=v
 |[],t,v,b=>by cases b
 |x::r,t,v,b=>by simp only[tq]at b;split at b;rename_i e;split at b;rename_i u f;simp only[lk]at b;split at b;grind [Nat.eq_of_beq_eq_true,Option.some.inj];exact tu h r t v b;exact tu h r t v b;exact tu h r t v b
theorem AD{a:Act}{w:cJ}:∀{d:List (Nat×io)} {f:L->Prop},zi d w f->(∀p∈d,p.2 (a.eval (.tmp p.1)) w)->∃b,f b/\∀t v,lk b t=some v->a.eval (.tmp t)=v
 |[],f,h,_=>⟨[],h,λt v c=>by cases c⟩
 |p::r,f,h,e=>by have⟨b,g,j⟩:=AD (h _ (e p fW)) λq i=>e q (jD _ i);refine⟨_,g,λt v c=>?_⟩;simp only[lk]at c;grind [Nat.eq_of_beq_eq_true,Option.some.inj]
def Eu{l a:L}{t:Nat}(h:lk (a++l) t=some x):lk a t=some x\/lk l t=some x:=by
 induction a with
 |nil=>grind
 |cons p r b=>
  grind [lk]
theorem gu{c:Nat->Bool}:∀{a:List (Nat×io)} {p:Nat×io},p∈nR c a->p∈a/\c p.1=true
 |q::r,p,h=>by simp only[nR]at h;split at h;rename_i b;obtain rfl|h:=fi.1 h;grind;exact⟨jD _ (gu h).1,(gu h).2⟩;exact⟨jD _ (gu h).1,(gu h).2⟩
def qm(o:Oper)(j:Nat):Prop:=(o.after.any λe=>e.on==j&&Region.binds .any e)=true
theorem Cons.ins{i:Nat}{S n:Nat->Bool->io}{l:L}{y:List B4}{z A:List (Nat×io)}(q:Cons ops a0 i S l z A y)(B:∀j,j<i->n j=S j){o:Oper}(E:ops[i]? =some o)(F:∀d,o.dst=some d->∀b u w,n i b u w->u=x):Cons ops a0 (i+1) n (Proofs.W.ins N o.dst x l) z A y:=by
 have v:∀t u,lk l t=some u->(wrote ops t=false/\a0.eval (.tmp t)=u)\/∃j o,j<i+1/\ops[j]? =some o/\o.dst=some t/\∀b C w,n j b C w->C=u:=λt u h=>by obtain h|⟨j,c,k,e,f,s⟩:=q.l t u h;grind;exact .inr ⟨j,c,cM,e,f,by rw[B j k];grind⟩
 refine⟨λt u g=>?_,λp m=>?_,λp m=>?_,λp m=>?_⟩;cases D:o.dst with
 |none=>rw[D]at g;exact v t u g
 |some d=>
  rw[D]at g;simp only[Proofs.W.ins]at g;split at g;simp only[lk]at g;grind [Nat.eq_of_beq_eq_true,Option.some.inj];grind
 have⟨j,c,k,e,f,s⟩:=q.r p m;exact⟨j,c,cM,e,f,by rw[B j k];grind⟩;have⟨j,c,k,e,f,s⟩:=q.p p m;grind;have⟨j,c,k,e,f,s⟩:=q.j p m;exact⟨j,c,cM,e,f,λb a w h=>s b a w cL⟩
def Cons.vi{i:Nat}{S:Nat->Bool->io}{l:L}{c:List B4}{e f:List (Nat×io)}(a:Cons ops a0 i S l e f c){d:Nat}(g:lk l d=some x):Cons ops a0 i S ((d,x)::l) e f c:=by refine⟨λt u b=>?_,a.r,a.p,a.j⟩;simp only[lk]at b;split at b;rename_i h;obtain rfl:=nQ h;obtain rfl:=dT b;exact a.l _ _ g;exact a.l t u b
theorem Cons.B5{i:Nat}{S m:Nat->Bool->io}{l:L}{x:List B4}{s y:List (Nat×io)}(n:Cons ops a0 i S l s y x)(z:∀j,j<i->m j=S j){o:Oper}(B:ops[i]? =some o){R:io}(C:∀d,o.dst=some d->∀b u w,m i b u w->R u w):Cons ops a0 (i+1) m l (Proofs.W.B5 o.dst R s) y x:=by
 have v:∀p∈s,∃j o,j<i+1/\ops[j]? =some o/\o.dst=some p.1/\∀b u w,m j b u w->p.2 u w:=λp c=>by have⟨j,e,k,f,g,q⟩:=n.r p c;exact⟨j,e,cM,f,g,by rw[z j k];grind⟩
 refine⟨λt u h=>?_,λp c=>?_,λp c=>?_,λp c=>?_⟩;obtain h|⟨j,e,k,f,g,q⟩:=n.l t u h;grind;exact .inr ⟨j,e,cM,f,g,by rw[z j k];grind⟩;cases A:o.dst with
 |none=>rw[A]at c;exact v p c
 |some d=>
  rw[A]at c;obtain rfl|c:=fi.1 c;grind;grind
 have⟨j,e,k,f,g,q⟩:=n.p p c;grind;have⟨j,e,k,f,g,q⟩:=n.j p c;exact⟨j,e,cM,f,g,λb a w h=>q b a w cL⟩
def Cons.Yd{i:Nat}{S n:Nat->Bool->io}{l:L}{s v:List (Nat×io)}{x:List B4}(k:Cons ops a0 i S l s v x)(y:∀j,j<i->n j=S j){o:Oper}(z:ops[i]? =some o)(A:o.dst=none){q:B4}(B:∀b a w,n i b (jh ops o a) w->q.2 (q.1.map λt=>a.eval (.tmp t)) w):Cons ops a0 (i+1) n l s v (q::x):=by refine⟨λt u h=>?_,λp c=>?_,λp c=>?_,λp c=>?_⟩;obtain h|⟨j,d,g,e,f,m⟩:=k.l t u h;grind;exact .inr ⟨j,d,cM,e,f,by rw[y j g];grind⟩;have⟨j,d,g,e,f,m⟩:=k.r p c;exact⟨j,d,cM,e,f,by rw[y j g];grind⟩;have⟨j,d,g,e,f,m⟩:=k.p p c;grind;obtain rfl|c:=fi.1 c;grind;have⟨j,d,g,e,f,m⟩:=k.j p c;exact⟨j,d,cM,e,f,λb a w h=>m b a w cL⟩
theorem CO:∀{b a:List (Nat×io)} {p:Nat×io},p∈AC b a->p∈a\/∃q∈b,p=(q.1,λ_ _=>True)
 |[],a,p,h=>.inl h
 |q::r,a,p,h=>by obtain rfl|h:=fi.1 h;grind;obtain h|⟨x,c,d⟩:=CO h;grind;grind
def Cons.Zc{i:Nat}{S:Nat->Bool->io}{l:L}{b c:List (Nat×io)}{d:List B4}(a:Cons ops a0 i S l b c d):Cons ops a0 i S l (AC c b) [] d:=by refine⟨a.l,λp e=>?_,(λp e=>cL),a.j⟩;obtain h|⟨q,f,rfl⟩:=CO e;exact a.r p h;have⟨j,o,g,k,m,_⟩:=a.p q f;grind
def Cons.WY{i:Nat}{S m:Nat->Bool->io}{l:L}{x s:List (Nat×io)}{y:List B4}(n:Cons ops a0 i S l x s y)(z:∀j,j<i->m j=S j){o:Oper}(B:ops[i]? =some o){R:io}(C:∀d,o.dst=some d->m i false=R):Cons ops a0 (i+1) m l x (Proofs.W.B5 o.dst R s) y:=by
 have v:∀p∈s,∃j o,j<i+1/\ops[j]? =some o/\o.dst=some p.1/\∀u w,m j false u w->p.2 u w:=λp c=>by have⟨j,e,k,f,g,q⟩:=n.p p c;grind
 refine⟨λt u h=>?_,λp c=>?_,λp c=>?_,λp c=>?_⟩;obtain h|⟨j,e,k,f,g,q⟩:=n.l t u h;grind;exact .inr ⟨j,e,cM,f,g,by rw[z j k];grind⟩;have⟨j,e,k,f,g,q⟩:=n.r p c;exact⟨j,e,cM,f,g,by rw[z j k];grind⟩;cases A:o.dst with
 |none=>rw[A]at c;exact v p c
 |some d=>
  rw[A]at c;obtain rfl|c:=fi.1 c;grind;grind
 have⟨j,e,k,f,g,q⟩:=n.j p c;exact⟨j,e,cM,f,g,λb a w h=>q b a w cL⟩
structure Told(E E':cJ->cJ->Prop)(R:Bool->io):Prop where
 e:∀b v w w',R b v w->E w w'->R b v w'
 x:∀v w w',R false v w->E' w w'->R true v w'
theorem Ld{b:Type}{f:b->Bool}:∀{l:List b},SP f l=true->∀x∈l,f x=true
 |y::r,h,x,a=>by simp only[SP]at h;split at h;rename_i c;obtain rfl|a:=fi.1 a;grind;exact Ld h x a;grind
def ML{i t:Nat}(h:early0 ops.toList i t=true):Before ops i t:=λk o a b=>by unfold early0 at h;split at h;grind;have:=Ld h o cL;grind [Nat.beq_refl,nz,Array.any_eq_true',Nat.eq_of_beq_eq_true,UC,waits]
theorem CP{c e:Nat->Bool}{l b:L}{a:Act}(h:∀t,c t=true->∀v,lk l t=some v->a.eval (.tmp t)=v)(f:∀t,e t=true->∀v,lk b t=some v->a.eval (.tmp t)=v):∀(g:cN) (t:Nat) (v:cK),lk (rI c e l b g) t=some v->a.eval (.tmp t)=v
 |[],t,v,d=>by cases d
 |x::r,t,v,d=>by
  have j:=CP h f r t v;have i:∀u,a.eval (.tmp x)=u->lk ((x,u)::rI c e l b r) t=some v->a.eval (.tmp t)=v:=λu k h=>by simp only[lk]at h;grind [Nat.eq_of_beq_eq_true,Option.some.inj]
  grind [rI]
theorem PD(I:mH P T)(A:∀c a w,a.tmps.size=N->a.defers=a0.defers->pn c w->Q (.panic c) a w)(hE:gH E)(aa:∀a b,E a b->E' a b)(hB:ny ops N m=true){i:Nat}{S:Nat->Bool->io}{l:L}{rs ps:List (Nat×io)}{js:List B4}{ks:cN}{o:Oper}{Z:Bool}{l0:L}(ab:∀t v,lk l0 t=some v->a0.eval (.tmp t)=v){go:L->List (Nat×io)->List (Nat×io)->Bool->Prop}(G:Cons ops a0 i S l rs ps js)(J:ops[i]? =some o) (h:GX P T N pn E E' ops.toList w0 i l0 o ks l rs ps D Z go):∃R:Bool->io,Told E E' R/\
  (∀(g:Nat->Bool->io) (b:Bool),(D=true->b=true)->(∀j,j<i->g j=S j)->∀a w,At ops a0 N i g b (qm o) a w->(Z=true->b=false/\E w0 w)->E' w0 w->o.wp P a w (λa' z=>∃v,a'=a.put o.dst v/\E w z/\R b v z) Q)/\
  ∃l' V W X,go l' V W X/\(X=true->D=true/\∀u w,¬R false u w)/\∀g:Nat->Bool->io,(∀j,j<i->g j=S j)->(∀d,o.dst=some d->g i=R)->Cons ops a0 (i+1) g l' V W js:=by
 have frame:∀(g:Nat->Bool->io) (b:Bool),(∀j,j<i->g j=S j)->∀a w,At ops a0 N i g b (qm o) a w->∀x:L,(∀t v,lk x t=some v->a.eval (.tmp t)=v)->wX N (x++SQ ops.toList i o l l0) a:=λg b q a w r x ad=>by refine⟨r.size,λt v ht=>?_⟩;obtain h|h:=Eu ht;grind;exact CP (λt hc v Y=>(oO hB G q r hc).1 v Y) (λt hc v Y=>(r.keep t (ML hc)).trans (ab t v Y)) _ t v h
 have y:∀(g:Nat->Bool->io) (b:Bool),(∀j,j<i->g j=S j)->∀a w,At ops a0 N i g b (qm o) a w->(Z=true->b=false)->∀f:L->Prop,zi (Vs Z (nR (zh ops.toList o) ps) (nR (zh ops.toList o) rs)) w f->∃x,f x/\wX N (x++SQ ops.toList i o l l0) a:=λg b q a w r n f hf=>by
  have⟨x,B,h2⟩:=AD (a:=a) hf λp K=>by obtain K|⟨C,K⟩:=PC K;exact(oO hB G q r (gu K).2).2.1 p (gu K).1 rfl;exact(oO hB G q r (gu K).2).2.2 (n C) p (gu K).1 rfl
  grind
 unfold GX at h;split at h;rename_i v Y;refine⟨λ_ u _=>u=v,⟨λ_ _ _ _ h _=>h,λ_ _ _ h _=>h⟩,λg b _ q a w r n C=>?_,_,_,_,_,h,(λh=>cL),λg q O=>G.ins q J λd U b u w hu=>cL⟩;refine jl I (frame g b q a w r [] λt v ht=>by cases ht) (GW (k:=λu w2=>u=v/\w2=w) (s:=λ_=>False) (pan:=λ_ _=>False) Y ⟨rfl,rfl⟩) ?_ (λ_ h=>h.elim) λ_ _ h=>h.elim;rintro u z ⟨rfl,rfl⟩;exact⟨u,rfl,hE.refl _,rfl⟩;cases h with
 |exact v h k=>
  refine⟨λ_ u _=>u=v,⟨λ_ _ _ _ h _=>h,λ_ _ _ h _=>h⟩,λg b _ q a w r n C=>?_,_,_,_,_,k,(λh=>cL),λg q O=>G.ins q J λd U b u w hu=>cL⟩;have⟨x,B,F⟩:=y g b q a w r (λe=>(n e).1) _ (h w C);refine jl I F B ?_ (λ_ h=>h.elim) λc z h=>A c a z r.size r.defers h;grind
 |rel R H h k=>
  refine⟨λ_=>R,⟨λ_ _ _ _ h e=>H _ _ _ h (aa _ _ e),λ_ _ _ h e=>H _ _ _ h e⟩,λg b _ q a w r n C=>?_,_,_,_,_,k,(λh=>cL),λg q O=>G.B5 q J λd U b u w h=>cL⟩;have⟨x,B,F⟩:=y g b q a w r (λe=>(n e).1) _ (h w C);refine jl I F B ?_ (λ_ h=>h.elim) λc z h=>A c a z r.size r.defers h;grind
 |MI R H h k=>
  refine⟨λb u w=>b=true\/R u w,⟨λ_ _ _ _ h e=>h.imp id λh=>H _ _ _ h e,λ_ _ _ _ _=>.inl rfl⟩,λg b _ q a w r n C=>?_,_,_,_,_,k,(λh=>cL),λg q O=>G.WY q J λd U=>cL⟩;have⟨x,B,F⟩:=y g b q a w r (λe=>(n e).1) _ (h w C);refine jl I F B ?_ (λ_ h=>h.elim) λc z h=>A c a z r.size r.defers h;grind
 |late ac R H h k=>
  refine⟨λb u w=>b=true/\R u w,⟨λ_ _ _ _ h e=>⟨h.1,H _ _ _ h.2 e⟩,λ_ _ _ h _=>cL⟩,λg b hb q a w r n C=>?_,_,_,_,_,k,λ_=>⟨ac,λu w h=>cL⟩,λg q O=>G.B5 q J λd U b u w h=>cL⟩;have⟨x,B,F⟩:=y g b q a w r (λe=>(n e).1) _ (h w C);refine jl I F B ?_ (λ_ h=>h.elim) λc z h=>A c a z r.size r.defers h;grind
 |early M R H h k=>
  refine⟨λb u w=>b=true\/R u w,⟨λ_ _ _ _ h e=>h.imp id λh=>H _ _ _ h e,λ_ _ _ _ _=>.inl rfl⟩,λg b _ q a w r n C=>?_,_,_,_,_,k,(λh=>cL),λg q O=>G.WY q J λd U=>cL⟩;have⟨x,B,F⟩:=y g b q a w r (λe=>(n e).1) _ (h w (n M).2);refine jl I F B ?_ (λ_ h=>h.elim) λc z h=>A c a z r.size r.defers h;grind
 |Et M v h k=>
  refine⟨λ_ u _=>u=v,⟨λ_ _ _ _ h _=>h,λ_ _ _ h _=>h⟩,λg b _ q a w r n C=>?_,_,_,_,_,k,(λh=>cL),λg q O=>G.ins q J λd U b u w hu=>cL⟩;have⟨x,B,F⟩:=y g b q a w r (λe=>(n e).1) _ (h w (n M).2);refine jl I F B ?_ (λ_ h=>h.elim) λc z h=>A c a z r.size r.defers h;grind
theorem xr{a:Act}{w:cJ}{d:L}{X:Prop}(j:∀t v,lk d t=some v->a.eval (.tmp t)=v):∀{k:List B4},AB k d w X->(∀p∈k,p.2 (p.1.map λt=>a.eval (.tmp t)) w)->X
 |[],h,_=>h
 |p::r,h,e=>by
  have b:∀(c:List Nat) (f:List cK),GU d c=some f->(c.map λt=>a.eval (.tmp t))=f:=by
   intro c;induction c with
   |nil=>grind [Option.some.injEq,GU]
   |cons t r l=>
    grind [Option.some.injEq,GU]
  simp only[AB]at h;split at h;rename_i f g;exact xr j (h (b _ _ g▸e p fW)) λq i=>e q (jD _ i);exact xr j h λq i=>e q (jD _ i)
theorem xt{a:Act}{w:cJ}:∀{c:List (Nat×io)} {f:L->Prop},zi c w f->(∀p∈c,p.2 (a.eval (.tmp p.1)) w)->∃b,f b/\(∀t v,lk b t=some v->a.eval (.tmp t)=v)/\MJ b=(GV c).map λt=>a.eval (.tmp t)
 |[],f,h,_=>⟨[],h,(λt v d=>by cases d),rfl⟩
 |p::r,f,h,e=>by have⟨b,g,k,i⟩:=xt (h _ (e p fW)) λq j=>e q (jD _ j);refine⟨_,g,λt v d=>?_,by simp[MJ,GV,i]⟩;simp only[lk]at d;grind [Nat.eq_of_beq_eq_true,Option.some.inj]
theorem GY:∀{a:List (Nat×io)} {t:Nat},t∈GV a->∃p∈a,p.1=t
 |p::r,t,h=>by obtain rfl|h:=fi.1 h;grind;have⟨q,b,c⟩:=GY h;grind
def Lf{o:Oper}{t:Nat}(c:wrote ops t=true)(a:zh ops.toList o t=true):t∈Jn ops o:=by unfold zh at a;rw[uj,c]at a;have⟨e,d,b⟩:=nz a;split at b;rename_i g;have f:=zx.1 b;rw[mO]at f;have h:(ops[e.on]?).bind (·.dst)=some t:=cL;exact List.mem_filterMap.2 ⟨e,d,cL⟩;grind
def CQ(hT:mH P T)(C:ny ops N m=true){Z E2 D:cJ->dC}(aa:∀a b,E a b->E' a b){i:Nat}{S:Nat->Bool->io}{l:L}{F G:List (Nat×io)}{js:List B4}{ks:cN}{o:Oper}(y:Bool)(H:∀a b,E a b->D a b)(I:y=false->∀a b,E' a b->D a b){z:List (Nat×io)}(hq:∀p∈z,(p∈F\/(y=true/\p∈G))/\zh ops.toList o p.1=true){go:B4->Prop}(q:Cons ops a0 i S l F G js)(ho:ops[i]? =some o)(f:o.dst=none)
 (h:Yc Z E2 D w0 (λw1 κ=>zi z w1 λl'=>Fx P T ks (l'++tq (zh ops.toList o) l (AA ops.toList o)) w1 o (λ_ _=>False) (λw2=>κ (MJ l') w2) λ_ _=>False) (λJ=>go (GV z,J))):∃R:Bool->io,Told E E' R/\
  (∀(g:Nat->Bool->io) (b K:Bool),(y=true->b=false/\K=true)->(∀j,j<i->g j=S j)->∀a w,At ops a0 N i g b (qm o) a w->Z w0 w->o.wp P a w (λa' M=>∃v,a'=a.put o.dst v/\E2 w M/\R K v M/\v=jh ops o a) Q)/\
  ∃p,go p/\∀g:Nat->Bool->io,(∀j,j<i->g j=S j)->g i=R->Cons ops a0 (i+1) g l F G (p::js):=by
 have⟨J,st,h,k⟩:=h;let ss:=GV z;have ab:∀t∈ss,t∈Jn ops o:=λt O=>by obtain⟨p,U,rfl⟩:=GY O;have⟨d,e⟩:=hq p U;obtain d|⟨_,d⟩:=d;have⟨j,o',hj,n,V,_⟩:=q.r p d;exact Lf (FB.2 ⟨_,xZ n,cL⟩) e;have⟨j,o',hj,n,V,_⟩:=q.p p d;exact Lf (FB.2 ⟨_,xZ n,cL⟩) e
 refine⟨λb v w=>(y=true->b=true)/\∃a:Act,v=jh ops o a/\J (ss.map λt=>a.eval (.tmp t)) w,⟨λ_ v a b ⟨h0,c,s,A⟩ u=>⟨h0,c,s,st _ _ _ A (H _ _ u)⟩,λv a b ⟨h0,c,s,A⟩ u=>⟨λ_=>rfl,c,s,st _ _ _ A (I cL _ _ u)⟩⟩,λg b K hb x a w B u=>?_,_,k,λg x hi=>q.Yd x ho f λb a w hs=>?_⟩;have⟨W,s,A,h3⟩:=xt (a:=a) (h w u) λp U=>by have⟨d,e⟩:=hq p U;obtain d|⟨X,d⟩:=d;exact(oO C q x B e).2.1 p d rfl;exact(oO C q x B e).2.2 (hb X).1 p d rfl
 have hF:wX N (W++tq (zh ops.toList o) l (AA ops.toList o)) a:=by refine⟨B.size,λt v O=>?_⟩;obtain h|h:=Eu O;grind;exact tu (λt hc v hv=>(oO C q x B hc).1 v hv) _ t v h
 refine jl hT hF s (λ_ _ h=>h.elim) (λM hw=>?_) λ_ _ h=>h.elim;have⟨hJ,Y⟩:=hw;rw[h3]at hJ;exact⟨_,by rw[f];rfl,Y,⟨λX=>(hb X).2,a,rfl,hJ⟩,rfl⟩;grind [List.map_congr_left,MG]
def PF(B:mH P T)(g:∀c a w,a.tmps.size=N->a.defers=a0.defers->pn c w->Q (.panic c) a w)(n:ny ops N m=true){i:Nat}{S:Nat->Bool->io}{l:L}{x y:List (Nat×io)}{C:List B4}{D:cN}{o:Oper}{z:io->Prop}(q:Cons ops a0 i S l x y C)(O:ops[i]? =some o) (h:WX P T pn E E' ops.toList w0 o D l x y z):∃R:io,(∀v a b,R v a->E a b->R v b)/\z R/\
  (∀r:Nat->Bool->io,(∀j,j<i->r j=S j)->∀a w,At ops a0 N i r false (qm o) a w->E w0 w->o.wp P a w (λF f=>∃v,F=a.put o.dst v/\E' w f/\R v f) Q):=by
 have⟨R,G,h,k⟩:=h;refine⟨R,G,k,λr s a w e H=>?_⟩;have⟨u,I,U,V⟩:=xt (a:=a) (h w H) λp d=>by obtain d|d:=jQ.1 d;exact(oO n q s e (gu d).2).2.2 rfl p (gu d).1 rfl;exact(oO n q s e (gu d).2).2.1 p (gu d).1 rfl
 have J:wX N (u++tq (zh ops.toList o) l (AA ops.toList o)) a:=by refine⟨e.size,λt v K=>?_⟩;obtain h|h:=Eu K;grind;exact tu (λt M v A=>(oO n q s e M).1 v A) _ t v h
 refine jl B J I (λv f A=>?_) (λ_ h=>h.elim) λc f h=>g c a f e.size e.defers h;grind
def Jq{a:Act}{g d:Nat}(b:(ops[g]?).bind (·.dst)=some d)(c:a.eval (.tmp d)=.bool D):yielded ops a.tmps g=some D:=by grind [kS,yielded,undef]
def PG(ops:Array Oper)(i:Nat)(S:Nat->Bool->io)(a:cN):Prop:=∀j∈a,∃o d,j<i/\ops[j]? =some o/\o.dst=some d/\∀u w,¬S j false u w
def PG.next{ops:Array Oper}{i:Nat}{S a:Nat->Bool->io}{b:cN}(h:PG ops i S b)(c:∀j,j<i->a j=S j):PG ops (i+1) a b:=λj e=>by have⟨o,d,f,g,k,l⟩:=h j e;exact⟨o,d,cM,g,k,by rw[c j f];grind⟩
theorem mem_iff{n:Nat}:∀{l:cN},mem n l=true->n∈l
 |x::r,h=>by simp only[mem]at h;split at h;rename_i a;rw[nQ a];grind;exact jD _ (mem_iff h)
def Vt{l0:L}(aF:∀t v,lk l0 t=some v->a0.eval (.tmp t)=v)(hT:mH P T)(au:∀c a w,a.tmps.size=N->a.defers=a0.defers->pn c w->Q (.panic c) a w)(hE:gH E)(ad:∀a b,E a b->E' a b)(hB:ny ops N m=true)(hK:∀l a w,pu a0.defers N l a->K l w->Q .normal a w):∀(r:List Oper) (i:Nat) (y:List Nat) (l:L) (F H:List (Nat×io)) (D:List B4) (lt:List Nat) (S:Nat->Bool->io),(∀j,r[j]? =ops[i+j]?)->i+uM r=m->Cons ops a0 i S l F H D->(∀j,Told E E' (S j))->PG ops i S lt->DW P T N pn E E' sp ops.toList w0 l0 K i r y l F H D lt->
  ∃f:Nat->Bool->io,(∀j,j<i->f j=S j)/\(∀j,Told E E' (f j))/\(∀j o,i<=j->j<m->ops[j]? =some o->ol E E' (λb w=>(b=true\/E w0 w)/\E' w0 w) sp P ops Q a0 N (λb j=>f j b) j o)/\tp (λb w=>(b=true\/E w0 w)/\E' w0 w) P ops Q a0 N m (λb j=>f j b):=by
 have av:∀(b:Bool) (i:Nat) (S:Nat->Bool->io) (l:L) (F H:List (Nat×io)) (D:List B4),i=m->Cons ops a0 i S l F H D->∀a w,a.tmps.size=N->a.defers=a0.defers->(∀j,wrote ops j=false->a.eval (.tmp j)=a0.eval (.tmp j))->
  (∀i d,i<m->((ops[i]?).bind (·.dst))=some d->S i b (a.eval (.tmp d)) w)->(∀i o,i<m->ops[i]? =some o->o.dst=none->S i b (jh ops o a) w)->∀X:L->Prop,(zi F w λI=>AB D I w (X I))->∃I,X I/\pu a0.defers N (I++l) a:=by
  rintro b i S l F H D rfl z a w Z Y hk hv ai X hf;have⟨I,h1,h2⟩:=AD (a:=a) hf λp hp=>by have⟨j,o,hj,J,Y,h⟩:=z.r p hp;grind
  refine⟨I,xr h2 h1 (λp hp=>?_),⟨Z,λt v ht=>?_⟩,Y⟩;have⟨j,o,hj,J,Y,h⟩:=z.j p hp;grind;obtain h|h:=Eu ht;grind;obtain⟨hw,h⟩|⟨j,o,hj,J,Y,h⟩:=z.l t v h;grind;grind
 intro r;induction r with
 |nil=>
  intro i y l F H D lt S hr hi z ao A h;have aj:i=m:=by grind [uM]
  refine⟨S,λ_ _=>rfl,ao,λj o h1 h2=>cM,λb a w Z Y hk hv ai he=>?_⟩;have aR:ops.size<=m:=by have:=hr 0;grind
  refine⟨λ_=>?_,λh=>cM⟩;have⟨I,h1,hF⟩:=av b i S l F H D aj z a w Z Y hk hv ai _ (h w he.2);grind
 |cons o r ih=>
  intro i y l F H D lt S hr hi z ao A h;have J:ops[i]? =some o:=(hr 0).symm;have aS:i<ops.size:=(iS.1 J).1;have aG:∀j,r[j]? =ops[i+1+j]? :=λj=>by have:=hr (j+1);grind
  unfold DW at h;split at h;rename_i ht;have aj:i=m:=by grind [uM]
  refine⟨S,λ_ _=>rfl,ao,λj o h1 h2=>cM,λb a w Z Y hk hv ai he=>⟨λh=>cM,λ_=>?_⟩⟩;have⟨I,h1,hF⟩:=av b i S l F H D aj z a w Z Y hk hv ai _ (h w he.2);have aw:o.dst=none/\o.guard=none:=by grind [Jo]
  unfold wpOp;rw[<-aj,J];simp only[Region.wanted,aw.2,em];refine .inl (jl hT hF.b h1 (λ_ _ h=>h.elim) (λw' h'=>?_) λ_ _ h=>h.elim);rw[aw.1];exact hK _ a w' hF h';rename_i ht;have aH:i+1+uM r=m:=by grind [uM]
  have M:∀(R:Bool->io) (ap:List Nat) (I:L) (O U:List (Nat×io)) (ak:List B4) (al:List Nat),Told E E' R->(∀f:Nat->Bool->io,(∀j,j<i->f j=S j)->f i=R->Cons ops a0 (i+1) f I O U ak)->(∀f:Nat->Bool->io,(∀j,j<i->f j=S j)->f i=R->PG ops (i+1) f al)->DW P T N pn E E' sp ops.toList w0 l0 K (i+1) r ap I O U ak al->
   (∀f:Nat->Bool->io,(∀j,j<i->f j=S j)->f i=R->ol E E' (λb w=>(b=true\/E w0 w)/\E' w0 w) sp P ops Q a0 N (λb j=>f j b) i o)->
   ∃f:Nat->Bool->io,(∀j,j<i->f j=S j)/\(∀j,Told E E' (f j))/\(∀j o,i<=j->j<m->ops[j]? =some o->ol E E' (λb w=>(b=true\/E w0 w)/\E' w0 w) sp P ops Q a0 N (λb j=>f j b) j o)/\tp (λb w=>(b=true\/E w0 w)/\E' w0 w) P ops Q a0 N m (λb j=>f j b):=by
   intro R ap I O U ak al hR aa ax h' n;let S1:Nat->Bool->io:=λj=>if j=i then R else S j
   have aq:∀j,j<i->S1 j=S j:=λj hj=>cL;have af:S1 i=R:=cL;have⟨f,h1,h2,h3,h4⟩:=ih (i+1) ap I O U ak al S1 aG aH (aa S1 aq af) (λj=>by grind) (ax S1 aq af) h';have s:∀j,j<i->f j=S j:=λj hj=>(h1 j cM).trans (aq j hj);refine⟨f,s,h2,λj o' hj aT ay=>?_,h4⟩;obtain rfl|hj:=Nat.eq_or_lt_of_le hj;rw[J]at ay;obtain rfl:=dT ay;exact n f s ((h1 i dq).trans af);grind
  split at h;rename_i aP;have am:o.dst=none/\o.guard=none:=by grind [Lb]
  split at h;rename_i B;have B:=nQ B;unfold runT at h;have⟨R,hR,n,p,h',aa⟩:=CQ (E:=E) (Q:=Q) (go:=λp=>DW P T N pn E E' sp ops.toList w0 l0 K (i+1) r y l (AC H F) [] (p::D) lt) hT hB ad true (λ_ _ h=>h) (λh=>cL) (λp hp=>(jQ.1 hp).elim (λh=>⟨.inr ⟨rfl,(gu h).1⟩,(gu h).2⟩) λh=>⟨.inl (gu h).1,(gu h).2⟩) z J am.1 h;refine M R y l (AC H F) [] (p::D) lt hR (λf q hi=>(aa f q hi).Zc) (λf q _=>A.next q) h' λf s ab b a w hb Z G hk hv he=>?_;obtain rfl:=hb (.inl B);have hs:=n f false true (λ_=>⟨rfl,rfl⟩) s a w ⟨Z,G,hk,hv⟩ (he.1.resolve_left dq);unfold wpOp;rw[J];simp only[Region.wanted,am.2,em];grind;rename_i B;have B:=IF B;unfold WW at h;have⟨R,hR,n,p,h',aa⟩:=CQ (E:=E) (Q:=Q) (go:=λp=>DW P T N pn E E' sp ops.toList w0 l0 K (i+1) r y l F H (p::D) lt) hT hB ad false ad (λ_ _ _ h=>h) (λp hp=>⟨.inl (gu hp).1,(gu hp).2⟩) z J am.1 h;refine M R y l F H (p::D) lt hR aa (λf q _=>A.next q) h' λf s ab b a w hb Z G hk hv he=>?_;have hs:=n f b b (λh=>cL) s a w ⟨Z,G,hk,hv⟩ he.2;unfold wpOp;rw[J];simp only[Region.wanted,am.2,em];grind;rename_i aQ;have⟨h,Y⟩:=wn h
  have ag:∀(y:List Nat) (l:L),Cons ops a0 i S l F H D->(∀(f:Nat->Bool->io) (b:Bool),(∀j,j<i->f j=S j)->∀a w,At ops a0 N i f b (qm o) a w->Region.wanted o (yielded ops a.tmps)=true)->GX P T N pn E E' ops.toList w0 i l0 o y l F H (wo lt o) (tt ops.toList sp i) (λI O U lb=>DW P T N pn E E' sp ops.toList w0 l0 K (i+1) r y I O U D (Jp lb i lt))->
   ∃f:Nat->Bool->io,(∀j,j<i->f j=S j)/\(∀j,Told E E' (f j))/\(∀j o,i<=j->j<m->ops[j]? =some o->ol E E' (λb w=>(b=true\/E w0 w)/\E' w0 w) sp P ops Q a0 N (λb j=>f j b) j o)/\tp (λb w=>(b=true\/E w0 w)/\E' w0 w) P ops Q a0 N m (λb j=>f j b):=by
   intro y l z hw h;have⟨R,hR,n,I,O,U,az,h',aA,aa⟩:=PD (Q:=Q) hT au hE ad hB aF z J h;let R1:Bool->io:=λb v w=>o.dst=none\/R b v w;have aI:∀d,o.dst=some d->R1=R:=λd Y=>by grind
   refine M R1 y I O U D (Jp az i lt) ⟨λb v w w' h e=>h.imp id λh=>hR.e b v w w' h e,λv w w' h e=>h.imp id λh=>hR.x v w w' h e⟩ (λf q hi=>aa f q λd Y=>hi.trans (aI d Y)) (λf q hi=>by
    cases az with
    |false=>exact A.next q
    |true=>
     have⟨h1,h2⟩:=aA rfl;intro j hj;obtain rfl|hj:=fi.1 hj;cases Y:o.dst with
     |none=>grind [wo]
     |some d=>exact⟨o,d,Nat.lt_succ_self _,J,Y,cL⟩
     exact A.next q j hj) h' λf s ab b a w hb Z G hk hv he=>?_
   have V:At ops a0 N i f b (qm o) a w:=⟨Z,G,hk,hv⟩
   have aJ:wo lt o=true->b=true:=λar=>by
    unfold wo at ar;split at ar;have⟨e,aB,ac⟩:=nz ar;split at ac;rename_i aK;have⟨o2,d2,g1,g2,g3,g4⟩:=A _ (mem_iff ac);have aC:=hv e.on d2 (FB.2 ⟨e,cL,cL⟩) cL;cases b with
    |true=>rfl
    |false=>
     simp only[s _ g1]at aC;grind
    grind;grind
   have aL:tt ops.toList sp i=true->b=false/\E w0 w:=λC=>by
    skip;have aM:∀{k j:Nat},Pz ops.toList k j=true->waits ops k j=true:=λ{k j} C=>by unfold Pz at C;unfold waits;rw[zw]at C;have hg:ops.toList[k]? =ops[k]? :=dq;rw[hg]at C;split at C;rename_i o2 aN;have⟨e,aB,ac⟩:=nz C;grind [Array.any_eq_true',Nat.eq_of_beq_eq_true];grind
    have hw:UA ops sp i:=by
     unfold tt at C;rw[zw]at C;have hg:ops.toList[sp]? =ops[sp]? :=dq;rw[hg]at C;split at C;rename_i o2 aN;have⟨e,aB,ac⟩:=nz C;split at ac;rename_i aK;have aD:waits ops sp e.on=true:=by grind [Array.any_eq_true',waits]
     split at ac;rename_i hx;rw[<-nQ hx];exact .inl aD;exact .inr ⟨e.on,aD,aM ac⟩;grind;grind
    grind
   have hs:=n f b aJ s a w V aL he.2;unfold wpOp;rw[J];simp only[hw f b s a w V,em];refine .inl ?_;rw[ab];refine Oper.wp_mono (λa' w' hx=>?_) hs;have⟨v,q1,q2,q3⟩:=hx;have q5:if i=sp then E' w w' else E w w':=by grind
   have q6:R1 (b||decide (i=sp)) v w':=by by_cases e:i=sp;rw[hb (.inl e)]at q3;have:=hR.x v w' w' q3 (ad _ _ (hE.refl w'));grind;grind
   cases ae:o.dst with
   |none=>exact⟨jh ops o a,by rw[q1,ae];rfl,q5,.inl ae,λ_=>rfl⟩
   |some d=>grind
  have skip:∀(y:List Nat) (l:L),Cons ops a0 i S l F H D->(∀(f:Nat->Bool->io) (b:Bool),(∀j,j<i->f j=S j)->∀a w,At ops a0 N i f b (qm o) a w->Region.wanted o (yielded ops a.tmps)=false)->DW P T N pn E E' sp ops.toList w0 l0 K (i+1) r y (Proofs.W.ins N o.dst undef l) F H D lt->
   ∃f:Nat->Bool->io,(∀j,j<i->f j=S j)/\(∀j,Told E E' (f j))/\(∀j o,i<=j->j<m->ops[j]? =some o->ol E E' (λb w=>(b=true\/E w0 w)/\E' w0 w) sp P ops Q a0 N (λb j=>f j b) j o)/\tp (λb w=>(b=true\/E w0 w)/\E' w0 w) P ops Q a0 N m (λb j=>f j b):=by
   intro y l z hw h';let R1:Bool->io:=λ_ u _=>o.dst=none\/u=undef;refine M R1 y _ F H D lt ⟨λ_ _ _ _ h _=>h,λ_ _ _ h _=>h⟩ (λf q hi=>z.ins q J λd Y b u w hu=>by grind) (λf q _=>A.next q) h' λf s ab b a w hb Z G hk hv he=>?_;have V:At ops a0 N i f b (qm o) a w:=⟨Z,G,hk,hv⟩;unfold wpOp;rw[J];simp only[hw f b s a w V,iR,fq];rw[ab];have q5:if i=sp then E' w w else E w w:=by split;exact ad _ _ (hE.refl w);exact hE.refl w
   cases ae:o.dst with
   |none=>exact⟨jh ops o a,rfl,q5,.inl ae,λ_=>rfl⟩
   |some d=>grind
  split at h;rename_i hg;split at h;rename_i B;have B:=nQ B;have⟨R,hR,h',n⟩:=PF (Q:=Q) hT au hB z J h
  refine M (λb v w=>o.dst=none\/(b=true/\R v w)) y l _ [] D _ ⟨λb v w w' h e=>h.imp (λh=>h) λh=>⟨h.1,hR _ _ _ h.2 e⟩,λv w w' h _=>h.imp (λh=>h) λh=>cL⟩ (λf q hi=>z.Zc.B5 q J λd Y b u w hu=>by
   grind) (λf q hi=>by
   intro j hj;grind) h' λf s ab b a w hb Z G hk hv he=>?_
  obtain rfl:=hb (.inl B);have hs:=n f s a w ⟨Z,G,hk,hv⟩ (he.1.resolve_left dq);unfold wpOp;rw[J];simp only[Region.wanted,hg,em];refine .inl ?_;simp only[cV B];rw[ab];refine Oper.wp_mono (λa' w' hx=>?_) hs;have⟨v,q1,q2,q3⟩:=hx;cases ae:o.dst with
  |none=>exact⟨jh ops o a,by rw[q1,ae];rfl,q2,.inl rfl,λ_=>rfl⟩
  |some d=>grind
  exact ag y l z (λ_ _ _ _ _ _=>by simp[Region.wanted,hg]) h;rename_i g ah hg;split at h;grind;rename_i d aO;rw[mO]at aO;have aE:(ops[g]?).bind (·.dst)=some d:=cL;split at h;grind;rename_i an;split at h;rename_i b hb;have hw:∀(f:Nat->Bool->io) (b':Bool),(∀j,j<i->f j=S j)->∀a w,At ops a0 N i f b' (qm o) a w->Region.wanted o (yielded ops a.tmps)=(b==ah):=λf b' q a w V=>by have:=(oO hB z q V an).1 _ hb;simp[Region.wanted,hg,Jq aE this]
  split at h;cases b<;>cases ah<;>simp only at h;exact ag y l z (λf b' q a w V=>cL) h;exact skip y l z (λf b' q a w V=>cL) h;exact skip y l z (λf b' q a w V=>cL) h;exact ag y l z (λf b' q a w V=>cL) h;cases ah<;>simp only at h<;>cases b;exact ag (d::y) ((d,.bool false)::l) (z.vi hb) (λf b' q a w V=>cL) (h.2 rfl);exact skip (d::y) ((d,.bool true)::l) (z.vi hb) (λf b' q a w V=>cL) (h.1 rfl);exact skip (d::y) ((d,.bool false)::l) (z.vi hb) (λf b' q a w V=>cL) (h.2 rfl);exact ag (d::y) ((d,.bool true)::l) (z.vi hb) (λf b' q a w V=>by rw[hw f b' q a w V];rfl) (h.1 rfl);rename_i vs hb;exact skip y l z (λf b' q a w V=>by have:=pI aE ((oO hB z q V an).1 _ hb);simp[Region.wanted,hg,this]) h;exact h.elim
def GZ(A:mH P T)(n:∀c a w,a.tmps.size=N->a.defers=a0.defers->pn c w->Q (.panic c) a w)(q:gH E)(d:gH E')(f:∀a b,E a b->E' a b)(B:P.follows .mixedOrders=true){l:L}{id:Nat}(y:ny ops N m=true)(C:uM ops.toList=m)(s:wX N l a0)(D:∀l a w,pu a0.defers N l a->K l w->Q .normal a w) (h:DW P T N pn E E' sp ops.toList w0 l K 0 ops.toList [] (yx ops.toList l) [] [] [] []):(Code.region id ops true).wp P Q a0 w0:=by
 have drop:∀(l:L),∀t v,lk (yx ops.toList l) t=some v->wrote ops t=false/\lk l t=some v:=by
  intro l;induction l with
  |nil=>intro t v h;cases h
  |cons p r F=>
   intro t v h;simp only[yx]at h;split at h;rename_i k;have⟨G,u⟩:=F t v h;refine⟨G,?_⟩;simp only[lk];grind [Nat.eq_of_beq_eq_true,uj];rename_i k;simp only[lk]at h⊢;grind [Nat.eq_of_beq_eq_true,uj]
 have⟨O,_,u,H,I⟩:=Vt (Q:=Q) (a0:=a0) (sp:=sp) s.at_ A n q f y D ops.toList 0 [] _ [] [] [] [] (λ_ _ _ _=>True) (λj=>dq) cL
  ⟨λt v z=>.inl ⟨(drop l t v z).1,s.at_ t v (drop l t v z).2⟩,(λp k=>cL),(λp k=>cL),λp k=>cL⟩ (λ_=>⟨λ_ _ _ _ _ _=>trivial,λ_ _ _ _ _=>trivial⟩) (λj R=>cL) h
 refine zg (E:=E) (E':=E') (sp:=sp) (Rch:=λb w=>(b=true\/E w0 w)/\E' w0 w) B y ⟨λb i v w g=>(u i).e b v w g,λi v w g=>(u i).x v w g,λb w g h e=>⟨h.1.imp (λh=>h) λh=>q.trans _ _ _ h e,d.trans _ _ _ h.2 (f _ _ e)⟩,λw g h e=>⟨.inl rfl,d.trans _ _ _ h.2 e⟩⟩ ⟨.inr (q.drew _),d.drew _⟩ s.size (λi o J M=>H i o (gh _) J M) I
end
def WZ:List (Nat×cN):=[(24,[0,1,2,3,4,5,6]),(29,[0,1]),(56,[0,1]),(81,[0,1,2]),(84,[0,1,2]),(101,[0,1,2,3]),(121,[0,1,2]),(125,[0,1,2,3,4]),(141,[0,1,2]),(166,[0,1,2,3,4,7]),(173,[0,1,2,3,4]),(184,[0,1]),(186,[0,7,43,44,45]),(199,[0,1,2,3]),(207,[0,1,2,3]),(220,[0,1]),(245,[0,1,2,8]),(247,[0,1])]
def SS:List (Nat×cN)->Nat->Nat->Option Nat
 |[],_,_=>none
 |p::r,S,i=>match Nat.beq p.1 S with
  |true=>nth p.2 i
  |false=>SS r S i
def Fz:zf:=⟨SS WZ⟩
noncomputable def Lg(p:Nat×cN):Bool:=match Tryz.prog.underlying p.1 with
 |some (.struct a)=>(List.range p.2.length).all λi=>match nth p.2 i,a[i]? with
  |some d,some f=>f.offset==d&&(match Tryz.prog.info? f.type with
   |some x=>x.size !=0
   |none=>false)
  |_,_=>false
 |_=>false
def Ye:WZ.all Lg=true:=eE
theorem G0:∀(l:List (Nat×cN)) (S i d:Nat),SS l S i=some d->∃p∈l,p.1=S/\nth p.2 i=some d
 |p::r,S,i,d,h=>by simp only[SS]at h;split at h;rename_i a;exact⟨p,fW,nQ a,h⟩;have⟨q,b,c⟩:=G0 r S i d h;grind
theorem PH{a:Type}:∀{l:List a} {i:Nat} {d:a},nth l i=some d->i<l.length
 |_::_,0,_,_=>Nat.succ_pos _
 |_::r,n+1,_,h=>Nat.succ_lt_succ (PH (l:=r) h)
def iz{t:cR}{d:TypeDesc}(h:Tryz.prog.underlying t=some d)(w:cJ):Sem.run V.prog (underlying t) w=.ok d w:=by rw[V.xd];unfold underlying;rw[Sem.run_bind,run_program,Result.andThen_ok,h,Sem.run_pure]
def G1{t:cR}{x:TypeInfo}(h:Tryz.prog.info? t=some x)(w:cJ):Sem.run V.prog (typeInfo t) w=.ok x w:=by rw[V.FK];unfold typeInfo;rw[Sem.run_bind,run_program,Result.andThen_ok,h,Sem.run_pure]
def Jr{t:cR}{x:TypeInfo}(h:Tryz.prog.info? t=some x)(w:cJ):Sem.run V.prog (sizeOf t) w=.ok x.size w:=by unfold sizeOf;rw[Sem.run_bind,G1 h,Result.andThen_ok,Sem.run_pure]
def PI{t:cR}{x:TypeInfo}{z:cK}(h:Tryz.prog.info? t=some x)(a:x.zero=some z)(w:cJ):Sem.run V.prog (zeroValue t) w=.ok z w:=by unfold zeroValue;rw[Sem.run_bind,G1 h,Result.andThen_ok,a,Sem.run_pure]
def dB:mH V.prog Fz:=⟨λS i d h b o w=>by obtain⟨p,k,rfl,j⟩:=G0 _ _ _ _ h;have c:=nj.1 Ye p k;unfold Lg at c;split at c;rename_i r l;have a:=nj.1 c i (gf.2 (PH j));rw[j]at a;split at a;rename_i s f e m;obtain rfl:=dT e;simp only[eW,sL]at a;obtain⟨rfl,n⟩:=a;split at n;rename_i x q;have g:x.size≠0:=cL;unfold Instr.fieldAt;rw[Sem.run_bind,iz l,Result.andThen_ok];simp only[m,Instr.sureAddr,pure_bind,fieldPlace,Sem.run_bind,Jr q,Result.andThen_ok,cS g,Sem.run_pure];simp[Addr.add];grind;grind;grind⟩
structure TI where
 kd:Nat
 sz:Nat
 es:Nat
 ln:Nat
def Zd:List (Nat×TI):=[(3,⟨0,1,0,0⟩),(4,⟨0,1,0,0⟩),(22,⟨3,1,3,0⟩),(24,⟨1,7,0,0⟩),(25,⟨3,1,3,0⟩),(26,⟨3,1,2,0⟩),(27,⟨3,1,1,0⟩),(29,⟨1,2,0,0⟩),(31,⟨0,1,0,0⟩),(38,⟨0,1,0,0⟩),(43,⟨3,1,7,0⟩),(44,⟨3,1,1,0⟩),(45,⟨3,1,1,0⟩),(56,⟨1,2,0,0⟩),(60,⟨0,1,0,0⟩),(64,⟨3,1,1,0⟩),(66,⟨3,1,1,0⟩),(81,⟨1,3,0,0⟩),(84,⟨1,3,0,0⟩),(95,⟨3,1,4,0⟩),(101,⟨1,4,0,0⟩),(112,⟨0,1,0,0⟩),(117,⟨3,1,1,0⟩),(119,⟨0,1,0,0⟩),(121,⟨1,3,0,0⟩),(125,⟨1,5,0,0⟩),(133,⟨0,1,0,0⟩),(138,⟨0,1,0,0⟩),(139,⟨3,1,8,0⟩),(141,⟨1,3,0,0⟩),(154,⟨0,1,0,0⟩),(164,⟨2,3,1,3⟩),(166,⟨1,8,0,0⟩),(173,⟨1,5,0,0⟩),(178,⟨2,6,1,6⟩),(179,⟨2,36,6,6⟩),(180,⟨0,1,0,0⟩),(181,⟨0,1,0,0⟩),(182,⟨0,1,0,0⟩),(184,⟨1,2,0,0⟩),(186,⟨1,47,0,0⟩),(199,⟨1,4,0,0⟩),(200,⟨0,1,0,0⟩),(204,⟨2,6,1,6⟩),(205,⟨2,32,1,32⟩),(207,⟨1,35,0,0⟩),(209,⟨0,1,0,0⟩),(217,⟨2,5,1,5⟩),(220,⟨1,2,0,0⟩),(222,⟨3,1,1,0⟩),(225,⟨3,1,1,0⟩),(243,⟨0,1,0,0⟩),(245,⟨1,12,0,0⟩),(247,⟨1,5,0,0⟩),(248,⟨3,1,4,0⟩)]
def XH:List (Nat×TI)->Nat->Option TI
 |[],_=>none
 |p::r,S=>match Nat.beq p.1 S with
  |true=>some p.2
  |false=>XH r S
def ty(t:Nat):Option TI:=XH Zd t
noncomputable def AE(t n:Nat):Bool:=match Tryz.prog.info? t with
 |some x=>x.size==n
 |none=>false
noncomputable def Wh(p:Nat×TI):Bool:=AE p.1 p.2.sz&&(match Tryz.prog.underlying p.1 with
 |some (.struct _)=>p.2.kd==1
 |some (.array n e)=>p.2.kd==2&&p.2.ln==n&&AE e p.2.es
 |some (.slice e)=>p.2.kd==3&&AE e p.2.es
 |some _=>p.2.kd==0
 |none=>false)
def Yf:Zd.all Wh=true:=eE
theorem Lh:∀(l:List (Nat×TI)) (S:Nat) (d:TI),XH l S=some d->(S,d)∈l
 |p::r,S,d,h=>by simp only[XH]at h;split at h;rename_i a;obtain rfl:=nQ a;grind;exact jD _ (Lh r S d h)
def Li{t:Nat}{x:TI}(h:ty t=some x):Wh (t,x)=true:=nj.1 Yf _ (Lh _ _ _ h)
def mP{t n:Nat}(h:AE t n=true)(w:cJ):Sem.run V.prog (sizeOf t) w=.ok n w:=by unfold AE at h;split at h;rename_i x a;rw[Jr a,sL.1 h];grind
theorem SU{t:Nat}{x:TI}(h:ty t=some x)(w:cJ):Sem.run V.prog (sizeOf t) w=.ok x.sz w:=by have:=Li h;simp only[Wh,eW]at this;exact mP this.1 w
def Vu{t:Nat}{x:TI}(h:ty t=some x)(w:cJ):Sem.run V.prog (isAgg t) w=.ok (x.kd==1||x.kd==2) w:=by
 have:=Li h;simp only[Wh,eW]at this;have a:=this.2;unfold isAgg;cases b:Tryz.prog.underlying t with
 |none=>grind
 |some d=>
  rw[b]at a;rw[Sem.run_bind,iz b,Result.andThen_ok];cases d<;>simp only[eW,sL]at a<;>simp[a]
def tv{t:Nat}{x:TI}(h:ty t=some x)(a:x.kd=3):∃e,Tryz.prog.underlying t=some (.slice e)/\AE e x.es=true:=by have:=Li h;simp only[Wh,eW]at this;grind
def G2{t:Nat}{x:TI}(h:ty t=some x)(a:x.kd=2):∃e,Tryz.prog.underlying t=some (.array x.ln e)/\AE e x.es=true:=by have:=Li h;simp only[Wh,eW]at this;grind
def zL:List (Nat×dP):=[(3,[.int .i64 0]),(24,[.int .i64 0,.int .i64 0,.int .i64 0,.int .i64 0,.int .i64 0,.int .i64 0,.slice none 0 0]),(27,[.slice none 0 0]),(29,[.int .i64 0,.slice none 0 0]),(31,[.nilFunc]),(56,[.int .i64 0,.int .i64 0]),(66,[.slice none 0 0]),(81,[.int .i64 0,.int .i64 0,.int .i64 0]),(84,[.int .i64 0,.int .i64 0,.bool false]),(101,[.int .i64 0,.int .i64 0,.bool false,.bool false]),(125,[.bool false,.int .i64 0,.int .i64 0,.slice none 0 0,.slice none 0 0]),(141,[.pointer none,.slice none 0 0,.int .i64 0]),(166,[.int .i64 0,.int .i64 0,.int .i64 0,.bool false,.bool false,.bool false,.bool false,.bool false]),(173,[.bool false,.int .i64 0,.int .i64 0,.int .i64 0,.int .i64 0]),(178,[.int .i64 0,.int .i64 0,.int .i64 0,.int .i64 0,.int .i64 0,.int .i64 0]),(186,[.int .i64 0,.int .i64 0,.int .i64 0,.int .i64 0,.int .i64 0,.int .i64 0,.slice none 0 0,.int .i64 0,.int .i64 0,.int .i64 0,.int .i64 0,.int .i64 0,.int .i64 0,.int .i64 0,.int .i64 0,.int .i64 0,.int .i64 0,.int .i64 0,.int .i64 0,.int .i64 0,.int .i64 0,.int .i64 0,.int .i64 0,.int .i64 0,.int .i64 0,.int .i64 0,.int .i64 0,.int .i64 0,.int .i64 0,.int .i64 0,.int .i64 0,.int .i64 0,.int .i64 0,.int .i64 0,.int .i64 0,.int .i64 0,.int .i64 0,.int .i64 0,.int .i64 0,.int .i64 0,.int .i64 0,.int .i64 0,.int .i64 0,.map none,.map none,.nilFunc,.nilFunc]),(199,[.slice none 0 0,.int .i64 0,.int .i64 0,.bool false]),(204,[.int .u8 0,.int .u8 0,.int .u8 0,.int .u8 0,.int .u8 0,.int .u8 0]),(209,[.nilFunc]),(217,[.bool false,.bool false,.bool false,.bool false,.bool false]),(220,[.slice none 0 0,.bool false]),(225,[.slice none 0 0]),(247,[.int .i64 0,.slice none 0 0,.int .i64 0,.int .i64 0,.bool false])]
def zG:List (Nat×dP)->Nat->Option dP
 |[],_=>none
 |p::r,S=>match Nat.beq p.1 S with
  |true=>some p.2
  |false=>zG r S
def zc(t:Nat):Option dP:=zG zL t
noncomputable def XI(t:Nat):Option cK:=(Tryz.prog.info? t).bind (·.zero)
def ZS:(zL.map λp=>(XI p.1).map (·.cells.toList))=zL.map λp=>some p.2:=eE
theorem UD:∀(l:List (Nat×dP)),(l.map λp=>(XI p.1).map (·.cells.toList))=(l.map λp=>some p.2)->∀t a,zG l t=some a->(XI t).map (·.cells.toList)=some a
 |p::r,h,t,a,b=>by simp only[kI,Cn]at h;simp only[zG]at b;split at b;grind [Nat.eq_of_beq_eq_true,Option.some.inj];exact UD r h.2 t a b
def Vv{t:Nat}{b:dP}(h:zc t=some b):∃z,z.cells=b.toArray/\∀w,Sem.run V.prog (zeroValue t) w=.ok z w:=by
 have a:=UD _ ZS t b h;unfold XI at a;cases c:Tryz.prog.info? t with
 |none=>grind
 |some x=>
  rw[c]at a;simp only[zO]at a;cases d:x.zero with
  |none=>grind
  |some z=>
   rw[d]at a;refine⟨z,?_,λw=>PI c d w⟩;grind
section
variable{w:cJ}{k:cK->cJ->Prop}{s:cJ->Prop}
def SW(a b:Nat):(a==b)=Nat.beq a b:=by grind [Nat.eq_of_beq_eq_true,Nat.ne_of_beq_eq_false]
def G3(t:Nat):Option Bool:=match ty t with
 |some x=>match Nat.beq x.kd 1 with
  |true=>some true
  |false=>some (Nat.beq x.kd 2)
 |none=>none
def AF{t:Nat}{b:Bool}(h:G3 t=some b)(w:cJ):Sem.run V.prog (isAgg t) w=.ok b w:=by unfold G3 at h;split at h;rename_i x a;rw[Vu a];split at h;grind [Option.some.inj,Nat.eq_of_beq_eq_true];rename_i c;obtain rfl:=dT h;have:x.kd≠1:=IF c;have e:(x.kd==1)=false:=cL;rw[e,Bool.false_or,SW];grind
def PK(t:Nat):Option Nat:=match ty t with
 |some x=>some x.sz
 |none=>none
def Ev{t n:Nat}(h:PK t=some n)(w:cJ):Sem.run V.prog (sizeOf t) w=.ok n w:=by unfold PK at h;grind [Option.some.inj,SU]
def cP{t:cR}{v:cK}(c:w.cell? h=some v)(a:k v w)(b:G3 t=some false:=by rfl):jO V.prog (Instr.loadAt t (.pointer (some h))) w k:=by refine⟨v,w,?_,a⟩;simp only[Instr.loadAt,Instr.sureAddr,pure_bind,loadVar,Sem.run_bind,AF b,Result.andThen_ok,iR,fq];go_simp
theorem iq(b o j:Nat):(⟨b,o,none⟩:Addr).add j=⟨b,o+j,none⟩:=by grind [Addr.add]
def ez{t:cR}{vs:dP}(d:∀j v,vs[j]? =some v->w.cell? ⟨i,o+j,none⟩=some v)(h:k (.agg vs.toArray) w)(a:G3 t=some true:=by rfl)(b:PK t=some vs.length:=by rfl):
 jO V.prog (Instr.loadAt t (.pointer (some ⟨i,o,none⟩))) w k:=by
 refine⟨_,w,?_,h⟩;have c:=run_loadCells_list (P:=jV) w (dt i o) vs λj v e=>by grind [iq]
 simp only[Instr.loadAt,Instr.sureAddr,pure_bind,loadVar,Sem.run_bind,AF a,Ev b,Result.andThen_ok,em,c,Sem.run_pure]
def ir(a:eH)(o:Nat):dP->eH
 |[]=>a
 |v::r=>ir (a.setIfInBounds o v) (o+1) r
theorem tw:∀(d:dP) (w:cJ) (b o:Nat) (a:eH) (t:cR) (c:Nat×Nat),w.heap[b]? =some (.cells a t c)->(w.setCells b o d).heap[b]? =some (.cells (ir a o d) t c)
 |[],w,b,o,a,t,c,h=>h
 |v::r,w,b,o,a,t,c,h=>tw r (w.setCell (dt b o) v) b (o+1) (a.setIfInBounds o v) t c (by simp[World.setCell,nL,h])
theorem qn:∀(c:dP) (w a:cJ) (b o:Nat),dz (λx=>x=b) a w->dz (λx=>x=b) a (w.setCells b o c)
 |[],_,_,_,_,h=>h
 |v::r,w,a,b,o,h=>qn r _ a b (o+1) (h.setCell _ _ λ_=>rfl)
def jw{t:cR}{v:cK}{a:eH}{d:cR}(b:w.heap[i]? =some (.cells a d))(l:o+v.cells.size<=a.size)(h:∀c,dz (λx=>x=i) w c->c.heap[i]? =some (.cells (ir a o v.cells.toList) d)->s c)
 (e:∀u∈v.cells.toList,u.oneCell'=true:=by simp[Value.cells])(f:PK t=some v.cells.size:=by rfl):Eo V.prog (Instr.storeAt t (.pointer (some ⟨i,o,none⟩)) v) w s:=by
 have m:=run_storeCells_cells (P:=jV) i o v.cells.toList 0 w (λj g=>by
  have k:o+0+j<a.size:=by grind
  simp only[World.cell?,b];grind) (λj g=>by simp[World.frozen?,b]) e
 refine⟨_,?_,h (w.setCells i o v.cells.toList) (qn _ _ _ _ _ (dz.refl _ w)) (tw _ _ _ _ _ _ _ b)⟩;simp only[Instr.storeAt,Instr.sureAddr,pure_bind,storeVar,Sem.run_bind,Ev f,Result.andThen_ok,ne_eq,not_true_eq_false,fq];grind
def sB:dP->Bool
 |[]=>true
 |v::r=>match v.oneCell' with
  |true=>sB r
  |false=>false
theorem gJ:∀{l:dP},sB l=true->∀u∈l,u.oneCell'=true
 |v::r,h,u,a=>by simp only[sB]at h;split at h;rename_i b;obtain rfl|a:=fi.1 a;grind;exact gJ h u a;grind
def dI{t:cR}{v:cK}{a:eH}{c:cR}(d:w.heap[i]? =some (.cells a c))(h:∀b,dz (λx=>x=i) w b->b.heap[i]? =some (.cells (ir a o v.cells.toList) c)->s b)
 (e:Nat.ble (o+v.cells.size) a.size=true:=by rfl)(f:sB v.cells.toList=true:=by rfl)(g:PK t=some v.cells.size:=by rfl):Eo V.prog (Instr.storeAt t (.pointer (some ⟨i,o,none⟩)) v) w s:=
 jw d (qJ e) h (gJ f) g
def pJ(t:Nat):dP:=match zc t with
 |some a=>a
 |none=>[]
def Yg(t:Nat):Bool:=match zc t with
 |some _=>true
 |none=>false
def eU{t:cR}(h:∀a b,Ext w a->w.heap.size<=b->a.heap[b]? =some (.cells (pJ t).toArray t)->k (.pointer (some ⟨b,0,none⟩)) a)(c:Yg t=true:=by rfl):jO V.prog (Instr.alloc t true (.tuple #[])) w k:=by
 unfold Yg at c;cases d:zc t with
 |none=>rw[d]at c;cases c
 |some f=>
  have e:pJ t=f:=by simp[pJ,d]
  have⟨z,g,i⟩:=Vv d;rw[e]at h;refine⟨_,w.alloc (.cells f.toArray t),?_,h _ w.lG (Ext.alloc _ _) (di _) (fY _ _)⟩;simp only[Instr.alloc,Sem.run_bind,i,Result.andThen_ok,newVar,newRow,g];simp
def eJ{t:cR}{v:cK}(h:∀a b,Ext w a->w.heap.size<=b->a.heap[b]? =some (.cells v.cells t)->k (.pointer (some ⟨b,0,none⟩)) a):jO V.prog (Instr.box t v) w k:=by refine⟨_,w.alloc (.cells v.cells t),?_,h _ w.lG (Ext.alloc _ _) (di _) (fY _ _)⟩;simp only[Instr.box,newVar,newRow];simp
def fH{t b o l c:Nat}(a g:Nat){i:Int}(q:a<l)(h:k (.pointer (some ⟨b,o+a*g,none⟩)) w)(j:i=(a:Nat):=by rfl)(m:ty t=some ⟨3,1,g,0⟩:=by rfl):jO V.prog (Instr.indexAt t (.slice (some ⟨b,o,none⟩) l c) (.int .i64 i)) w k:=by subst j;have⟨e,n,p⟩:=tv m rfl;refine⟨_,w,?_,h⟩;have d:(a:Int)<(l:Int):=cM;have f:(0:Int)<=(a:Int):=dq;unfold Instr.indexAt;simp only[asIntOf,pure_bind,Sem.run_bind,iz n,Result.andThen_ok,Sem.run_pure,f,d,and_self,em,mP p,ow,iq]
def zy{t b o:Nat}(a f n:Nat){g:Int}(q:a<n)(h:k (.pointer (some ⟨b,o+a*f,none⟩)) w)(j:g=(a:Nat):=by rfl)(l:ty t=some ⟨2,i,f,n⟩:=by rfl):jO V.prog (Instr.indexAt t (.pointer (some ⟨b,o,none⟩)) (.int .i64 g)) w k:=by subst j;have⟨e,m,p⟩:=G2 l rfl;refine⟨_,w,?_,h⟩;have c:(a:Int)<(n:Int):=cM;have d:(0:Int)<=(a:Int):=dq;unfold Instr.indexAt;simp only[asIntOf,Instr.sureAddr,pure_bind,Sem.run_bind,iz m,Result.andThen_ok,Sem.run_pure,d,c,and_self,em,mP p,ow,iq]
def eX{t b o l c:Nat}(a:Nat){i:Int}(d:a<l)(h:k (.pointer (some ⟨b,o+a,none⟩)) w)(e:i=(a:Nat):=by rfl)(f:ty t=some ⟨3,1,1,0⟩:=by rfl):jO V.prog (Instr.indexAt t (.slice (some ⟨b,o,none⟩) l c) (.int .i64 i)) w k:=
 fH a 1 d cL e f
def vm{t b o:Nat}(a n:Nat){i:Int}(c:a<n)(h:k (.pointer (some ⟨b,o+a,none⟩)) w)(d:i=(a:Nat):=by rfl)(e:ty t=some ⟨2,n,1,n⟩:=by rfl):jO V.prog (Instr.indexAt t (.pointer (some ⟨b,o,none⟩)) (.int .i64 i)) w k:=
 zy a 1 n c cL d e
def dm{t b:cR}{c:Array Bool}(h:k (.int .i64 i) w)(d:ty b=some ⟨3,1,o,0⟩:=by rfl):zd V.prog (builtin .len #[b] t c #[.slice a i j]) w k:=by
 have⟨e,f,_⟩:=tv d rfl;refine⟨_,w,?_,h⟩;have g:Sem.run jV (Builtin.len_ #[b] t #[.slice a i j]) w=.ok (i64 i) w:=by unfold Builtin.len_;simp only[FD,Kv,Sem.run_bind,iz f,Result.andThen_ok,Sem.run_pure];rfl
 unfold builtin;simp only[Sem.run_bind,g,Result.andThen_ok,Sem.run_pure]
def eK{b:Bool}(h:k (.bool (!b)) w):jO V.prog (Op.unary .not (.bool b)) w k:=⟨_,w,by go_simp,h⟩
section
variable{t:cR}{x y:dU}{m n:Int}{κ:IntKind}
def cY(h:k (.int .i64 (m+n)) w)(a: -9223372036854775808<=m+n/\m+n<=9223372036854775807:=by omega):jO V.prog (do eqGuard .add t x y (.int .i64 m) (.int .i64 n);binOp .add t (.int .i64 m) (.int .i64 n)) w k:=
 ⟨_,w,by go_simp;exact IntWalk.i64_in _ a,h⟩
def fI(h:k (.int .i64 (m-n)) w)(a: -9223372036854775808<=m-n/\m-n<=9223372036854775807:=by omega):jO V.prog (do eqGuard .sub t x y (.int .i64 m) (.int .i64 n);binOp .sub t (.int .i64 m) (.int .i64 n)) w k:=
 ⟨_,w,by go_simp;exact IntWalk.i64_in _ a,h⟩
def qo(h:k (.int .i64 (m*n)) w)(a: -9223372036854775808<=m*n/\m*n<=9223372036854775807:=by omega):jO V.prog (do eqGuard .mul t x y (.int .i64 m) (.int .i64 n);binOp .mul t (.int .i64 m) (.int .i64 n)) w k:=
 ⟨_,w,by go_simp;exact IntWalk.i64_in _ a,h⟩
def dN(h:k (.bool (decide (m<n))) w):jO V.prog (do eqGuard .lss t x y (.int κ m) (.int κ n);binOp .lss t (.int κ m) (.int κ n)) w k:=⟨_,w,by go_simp,h⟩
def oP(h:k (.bool (decide (m<=n))) w):jO V.prog (do eqGuard .leq t x y (.int κ m) (.int κ n);binOp .leq t (.int κ m) (.int κ n)) w k:=⟨_,w,by go_simp,h⟩
def mI(h:k (.bool (decide (n<m))) w):jO V.prog (do eqGuard .gtr t x y (.int κ m) (.int κ n);binOp .gtr t (.int κ m) (.int κ n)) w k:=⟨_,w,by go_simp,h⟩
def uN(h:k (.bool (decide (n<=m))) w):jO V.prog (do eqGuard .geq t x y (.int κ m) (.int κ n);binOp .geq t (.int κ m) (.int κ n)) w k:=⟨_,w,by go_simp,h⟩
def eZ(h:k (.bool (decide (m=n))) w):jO V.prog (do eqGuard .eql t x y (.int κ m) (.int κ n);binOp .eql t (.int κ m) (.int κ n)) w k:=⟨_,w,by go_simp;grind,h⟩
def gP(h:k (.bool (decide (m≠n))) w):jO V.prog (do eqGuard .neq t x y (.int κ m) (.int κ n);binOp .neq t (.int κ m) (.int κ n)) w k:=⟨_,w,by go_simp;grind,h⟩
end
@[simp] def ZT (v:cK):one [v]=v:=rfl
@[simp] def ZU (u v:cK):one [u,v]=.tuple #[u,v]:=rfl
def rJ{a:Array cR}{t:cR}{b:Array Bool}{m n:Int}(h:k (.int .i64 (max m n)) w):zd V.prog (builtin .max a t b #[.int .i64 m,.int .i64 n]) w k:=by
 refine⟨_,w,?_,h⟩;have c:Sem.run jV (Builtin.max_ a t #[i64 m,i64 n]) w=.ok (i64 (max m n)) w:=by unfold Builtin.max_;grind [Sem.run_pure,Builtin.max2]
 unfold builtin;simp only[Sem.run_bind,c,Result.andThen_ok,Sem.run_pure]
def pK{t:cR}(b:Nat){x:Int}(n:b<=j)(h:k (.slice a b j) w)(f:x=(b:Nat):=by rfl)(g:ty t=some ⟨3,1,o,0⟩:=by rfl):jO V.prog (Instr.sliceAt t (.slice a i j) none (some (.int .i64 x)) none) w k:=by subst f;have⟨e,l,m⟩:=tv g rfl;refine⟨_,w,?_,h⟩;have c:(b:Int)<=(j:Int):=cM;have d:(0:Int)<=(b:Int):=dq;unfold Instr.sliceAt Instr.slice;simp only[Sem.run_bind,iz l,Result.andThen_ok,Instr.sliceBounds,Instr.sliceBound,asIntOf,pure_bind,d,c,and_self,em,Sem.run_pure,mP m,ow,Nat.sub_zero];cases a<;>simp[Addr.add]
def fO(R:nu):Ending->dC:=λe w=>∃v,e=.returned v/\R v w
def cX{a:dP}{R:nu}{b:List PanicEntry->dC}(g:Calls V.prog K a.toArray w (fO R))(h:∀v c,R v c->k v c)(d:∀f w,Sem.run V.prog (callFunc K f) w=.ok (.enter K f) w:=by intro _ _;kernel_rfl):SL V.prog K a w k b:=by refine⟨d,g.mono ?_⟩;rintro e c ⟨v,rfl,i⟩;grind
end
def dF{a:dP}{d:cK}{w:cJ}{k:nu}{b:List PanicEntry->dC}(g:Calls V.prog K a.toArray w (fO λv e=>v=d/\e=w))(h:k d w)(c:∀f w,Sem.run V.prog (callFunc K f) w=.ok (.enter K f) w:=by intro _ _;kernel_rfl):SL V.prog K a w k b:=
 cX g (λv e i=>cL) c
def ep{a:dP}{v0:cK}{w:cJ}{k:nu}{c:List PanicEntry->dC}(f:Calls V.prog K a.toArray w (fO λv b=>v=v0/\Ext w b))(h:∀b,Ext w b->k v0 b)(d:∀e w,Sem.run V.prog (callFunc K e) w=.ok (.enter K e) w:=by intro _ _;kernel_rfl):SL V.prog K a w k c:=
 cX f (λv b g=>cL) d
def ko{b:Bool}{A B:Prop}(h:b=true)(k:A):(b=true->A)/\(b=false->B):=⟨λ_=>k,λa=>cL⟩
def kZ{b:Bool}{A B:Prop}(h:b=false)(k:B):(b=true->A)/\(b=false->B):=⟨λa=>cL,λ_=>k⟩
def fu{N b z c n:Nat}{A f B:Code}{l:L}{w:cJ}{Q:QW}(h:Nat->L)(J:Nat->dC)(C:Sub (h 0) l/\J 0 w)
 (q:∀k w,k<=n->J k w->WC V.prog Fz N A (λe p g=>e=.normal/\lk p c=some (.bool (decide ((k:Int)<(n:Int))))/\Sub (h k) p/\J k g) (h k) w)
 (i:∀k w,k<n->J k w->WC V.prog Fz N (.seq (.block z f) B) (λe p g=>match e with
  | .normal=>Sub (h (k+1)) p/\J (k+1) g
  |e=>jW b Q e p g) (h k) w)
 (r:∀w,J n w->Q .normal (h n) w):dX V.prog N (Code.block b (Code.loop (A.seq ((Code.cond (.tmp c) Code.skip (Code.exit b)).seq ((Code.block z f).seq B))))) l w Q:=by
 refine⟨λa u=>?_⟩;refine wp_block<|nY (λj a w=>∃k,k<=n/\j=n-k/\Fr N (h k) a/\J k w) n ⟨0,gh _,dq,u.sub C.1,C.2⟩ ?_;rintro j a w ⟨k,E,rfl,u,F⟩;refine ll (lL (jr dB _ _ _ a w u (q k w E F)) ?_);rintro e G g ⟨p,m,rfl,H,D,s⟩;refine ll (wp_cond_split (m.at_ c _ H) (λI=>?_) λK=>?_);have v:k<n:=cL;refine wp_skip<|lL (jr dB _ _ _ G g (m.sub D) (i k g v s)) ?_;rintro e M O ⟨x,d,o⟩;cases e with
 |normal=>exact⟨n-(k+1),cM,k+1,cM,rfl,d.sub o.1,o.2⟩
 |exit j=>
  simp only[Exit.then,Exit.inBlock];by_cases t:j=b;subst t;rw[cV rfl];simp only[jW,Cp]at o;exact⟨x,d,o⟩;rw[cS t];have:Nat.beq j b=false:=by grind [Nat.eq_of_beq_eq_true]
  simp only[jW,this]at o;exact⟨x,d,o⟩
 |_=>exact⟨x,d,o⟩
 have y:k=n:=by grind
 subst y;refine wp_exit ?_;simp only[Exit.then,Exit.inBlock,em];exact⟨_,m.sub D,r g s⟩
def jK{x:Type}{N b D c n:Nat}{E f F:Code}{l:L}{w:cJ}{Q:QW}(h:Nat->x->L)(J:Nat->x->dC)(y:x)(G:Sub (h 0 y) l/\J 0 y w)
 (q:∀k s w,k<=n->J k s w->WC V.prog Fz N E (λe o g=>e=.normal/\lk o c=some (.bool (decide ((k:Int)<(n:Int))))/\Sub (h k s) o/\J k s g) (h k s) w)
 (i:∀k s w,k<n->J k s w->WC V.prog Fz N (.seq (.block D f) F) (λe o g=>match e with
  | .normal=>∃v,Sub (h (k+1) v) o/\J (k+1) v g
  |e=>jW b Q e o g) (h k s) w)
 (r:∀s w,J n s w->Q .normal (h n s) w):dX V.prog N (Code.block b (Code.loop (E.seq ((Code.cond (Operand.tmp c) Code.skip (Code.exit b)).seq ((Code.block D f).seq F))))) l w Q:=by
 refine⟨λa z=>?_⟩;refine wp_block<|nY (λj a w=>∃k s,k<=n/\j=n-k/\Fr N (h k s) a/\J k s w) n ⟨0,y,gh _,dq,z.sub G.1,G.2⟩ ?_;rintro j a w ⟨k,s,I,rfl,z,K⟩;refine ll (lL (jr dB _ _ _ a w z (q k s w I K)) ?_);rintro e M g ⟨o,m,rfl,O,H,t⟩;refine ll (wp_cond_split (m.at_ c _ O) (λS=>?_) λT=>?_);have A:k<n:=cL;refine wp_skip<|lL (jr dB _ _ _ M g (m.sub H) (i k s g A t)) ?_;rintro e U W ⟨B,d,p⟩;cases e with
 |normal=>
  have⟨v,P,R⟩:=p;exact⟨n-(k+1),cM,k+1,v,cM,rfl,d.sub P,R⟩
 |exit j=>
  simp only[Exit.then,Exit.inBlock];by_cases u:j=b;subst u;rw[cV rfl];simp only[jW,Cp]at p;exact⟨B,d,p⟩;rw[cS u];have:Nat.beq j b=false:=by grind [Nat.eq_of_beq_eq_true]
  simp only[jW,this]at p;exact⟨B,d,p⟩
 |_=>exact⟨B,d,p⟩
 have C:k=n:=by grind
 subst C;refine wp_exit ?_;simp only[Exit.then,Exit.inBlock,em];exact⟨_,m.sub H,r s g t⟩
theorem go{a:Func}{c:Code}{b:eH}{w:cJ}{R:Ending->dC}(e:V.prog.funcs[K]? =some a)(f:a.ntmps=i)(h:WC V.prog Fz i c (QR V.prog a.results.toList R) (b.toList.zipIdx.map λp=>(p.2,p.1)) w)
 (g:a.body=some c:=by rfl)(d:Nat.ble b.toList.length i=true:=by rfl):Calls V.prog K b w R:=by
 have:=WV dB (args:=b.toList) i e g f (qJ d) h;simpa using this
def Vw{a:Type}{b c:Array a}{v f:a}{n k:Nat}(h:c=b.setIfInBounds n v)(d:k≠n)(e:b[k]? =some f):c[k]? =some f:=by grind
def V.PL:V.prog.funcs=Tryz.prog.funcs.setIfInBounds 163 V.f163:=eE
def V.fn{k:Nat}{f:Func}(h:Tryz.prog.funcs[k]? =some f)(a:k≠163):V.prog.funcs[k]? =some f:=Vw V.PL a h
def jd{a:Func}{c:Code}{b:eH}{w:cJ}{R:Ending->dC}(e:Tryz.prog.funcs[K]? =some a)(f:a.ntmps=i)(h:WC V.prog Fz i c (QR V.prog a.results.toList R) (b.toList.zipIdx.map λp=>(p.2,p.1)) w)
 (g:a.body=some c:=by rfl)(d:Nat.ble b.toList.length i=true:=by rfl)(j:K≠163:=by decide):Calls V.prog K b w R:=go (V.fn e j) f h g d
def Js{b:eH}{w:cJ}{v:cK}{S:dC}(h:Calls V.prog K b w λe a=>e=.returned v/\S a):Calls V.prog K b w (fO λu a=>u=v/\S a):=h.mono λe a h=>⟨v,h.1,rfl,h.2⟩
def fO.same{a:eH}{w:cJ}{v:cK}(h:Calls V.prog K a w (fO λu w'=>u=v/\w'=w)):Calls V.prog K a w (fO λu w'=>u=v/\Ext w w'):=h.mono λe w' ⟨v,h,b,c⟩=>⟨v,h,b,c▸Ext.refl _⟩
def gQ{N id:Nat}{e:Array Oper}{l:L}{w:cJ}{Q:QW}{E g:cJ->dC}(n:Nat)(o:gH E)(i:gH g)(j:∀a b,E a b->g a b)(h:DW V.prog Fz N (λc k=>Q (.panic c) [] k) E g n e.toList w l (λl k=>Q .normal l k) 0 e.toList [] (yx e.toList l) [] [] [] [])(p:ny e N (uM e.toList)=true:=by kernel_rfl):
 dX V.prog N (.region id e true) l w Q:=
 ⟨λa m=>GZ dB (λc a w q r s=>⟨[],⟨q,r.trans m.defers,λt v u=>by cases u⟩,s⟩) o i j eE p rfl m.b (λl y w f x=>⟨l,⟨f.b.size,f.d.trans m.defers,f.b.at_⟩,x⟩) h⟩
def dE{N id:Nat}{a:Array Oper}{l:L}{w:cJ}{Q:QW}{E:cJ->dC}(d:gH E)(h:DW V.prog Fz N (λc b=>Q (.panic c) [] b) E E 1000 a.toList w l (λl b=>Q .normal l b) 0 a.toList [] (yx a.toList l) [] [] [] [])(e:ny a N (uM a.toList)=true:=by kernel_rfl):
 dX V.prog N (.region id a true) l w Q:=gQ 1000 d d (λ_ _ h=>h) h e
section
variable{E:cJ->cJ->Prop}{w:cJ}{kx:cK->Prop}{kr kp kl:io->Prop}{lb ea:Bool}
def dx{s:Sem cK}(v:cK)(h:∀a,E w a->jO V.prog s a λu b=>u=v/\E a b)(k:kx v):xq E E w (λa κ=>jO V.prog s a κ) kx kr kp lb kl ea:=.exact v h k
def XJ{s:Sem Next}(v:cK)(h:∀a,E w a->zd V.prog s a λu b=>u=v/\E a b)(k:kx v):xq E E w (λa κ=>zd V.prog s a κ) kx kr kp lb kl ea:=.exact v h k
def il{a:dP}{c:List PanicEntry->dC}(v:cK)(g:∀b,E w b->Calls V.prog K a.toArray b (fO λu i=>u=v/\E b i))(k:kx v)(d:∀f w,Sem.run V.prog (callFunc K f) w=.ok (.enter K f) w:=by intro _ _;kernel_rfl):xq E E w (λb κ=>SL V.prog K a b κ c) kx kr kp lb kl ea:=
 .exact v (λb e=>cX (g b e) (λ_ _ h=>h) d) k
def iY{a:dP}{c:List PanicEntry->dC}(i:gH E)(v:cK)(j:∀b,E w b->Calls V.prog K a.toArray b (fO λu f=>u=v/\f=b))(k:kx v)(d:∀g w,Sem.run V.prog (callFunc K g) w=.ok (.enter K g) w:=by intro _ _;kernel_rfl):xq E E w (λb κ=>SL V.prog K a b κ c) kx kr kp lb kl ea:=
 .exact v (λb e=>cX (j b e) (λu f h=>⟨h.1,by rw[h.2];exact i.refl _⟩) d) k
def dl{t:cR}{v:cK}(b:w.cell? h=some v)(k:kx v)(c:G3 t=some false:=by rfl):xq Ext Ext w (λa κ=>jO V.prog (Instr.loadAt t (.pointer (some h))) a κ) kx kr kp lb kl ea:=
 dx v (λa e=>cP (e.cell b) fL c) k
variable{t:cR}{x y:dU}{m n:Int}{κ:IntKind}
def mQ{b:Bool}(h:kx (.bool (!b)))(c:gH E:=by first|exact dD|exact ij _):xq E E w (λa f=>jO V.prog (Op.unary .not (.bool b)) a f) kx kr kp lb kl ea:=
 dx _ (λa _=>eK ⟨rfl,c.refl _⟩) h
def vn(h:kx (.int .i64 (m+n)))(b: -9223372036854775808<=m+n/\m+n<=9223372036854775807:=by omega)(c:gH E:=by first|exact dD|exact ij _):xq E E w (λa f=>jO V.prog (do eqGuard .add t x y (.int .i64 m) (.int .i64 n);binOp .add t (.int .i64 m) (.int .i64 n)) a f) kx kr kp lb kl ea:=
 dx _ (λa _=>cY ⟨rfl,c.refl _⟩ b) h
def vo(h:kx (.int .i64 (m-n)))(b: -9223372036854775808<=m-n/\m-n<=9223372036854775807:=by omega)(c:gH E:=by first|exact dD|exact ij _):xq E E w (λa f=>jO V.prog (do eqGuard .sub t x y (.int .i64 m) (.int .i64 n);binOp .sub t (.int .i64 m) (.int .i64 n)) a f) kx kr kp lb kl ea:=
 dx _ (λa _=>fI ⟨rfl,c.refl _⟩ b) h
def Jt(h:kx (.int .i64 (m*n)))(b: -9223372036854775808<=m*n/\m*n<=9223372036854775807:=by omega)(c:gH E:=by first|exact dD|exact ij _):xq E E w (λa f=>jO V.prog (do eqGuard .mul t x y (.int .i64 m) (.int .i64 n);binOp .mul t (.int .i64 m) (.int .i64 n)) a f) kx kr kp lb kl ea:=
 dx _ (λa _=>qo ⟨rfl,c.refl _⟩ b) h
def G4(h:kx (.bool (decide (m<n))))(b:gH E:=by first|exact dD|exact ij _):xq E E w (λa f=>jO V.prog (do eqGuard .lss t x y (.int κ m) (.int κ n);binOp .lss t (.int κ m) (.int κ n)) a f) kx kr kp lb kl ea:=
 dx _ (λa _=>dN ⟨rfl,b.refl _⟩) h
def UE(h:kx (.bool (decide (m<=n))))(b:gH E:=by first|exact dD|exact ij _):xq E E w (λa f=>jO V.prog (do eqGuard .leq t x y (.int κ m) (.int κ n);binOp .leq t (.int κ m) (.int κ n)) a f) kx kr kp lb kl ea:=
 dx _ (λa _=>oP ⟨rfl,b.refl _⟩) h
def AG(h:kx (.bool (decide (n<m))))(b:gH E:=by first|exact dD|exact ij _):xq E E w (λa f=>jO V.prog (do eqGuard .gtr t x y (.int κ m) (.int κ n);binOp .gtr t (.int κ m) (.int κ n)) a f) kx kr kp lb kl ea:=
 dx _ (λa _=>mI ⟨rfl,b.refl _⟩) h
def W4(h:kx (.bool (decide (n<=m))))(b:gH E:=by first|exact dD|exact ij _):xq E E w (λa f=>jO V.prog (do eqGuard .geq t x y (.int κ m) (.int κ n);binOp .geq t (.int κ m) (.int κ n)) a f) kx kr kp lb kl ea:=
 dx _ (λa _=>uN ⟨rfl,b.refl _⟩) h
def Lj(h:kx (.bool (decide (m=n))))(b:gH E:=by first|exact dD|exact ij _):xq E E w (λa f=>jO V.prog (do eqGuard .eql t x y (.int κ m) (.int κ n);binOp .eql t (.int κ m) (.int κ n)) a f) kx kr kp lb kl ea:=
 dx _ (λa _=>eZ ⟨rfl,b.refl _⟩) h
def UF(h:kx (.bool (decide (m≠n))))(b:gH E:=by first|exact dD|exact ij _):xq E E w (λa f=>jO V.prog (do eqGuard .neq t x y (.int κ m) (.int κ n);binOp .neq t (.int κ m) (.int κ n)) a f) kx kr kp lb kl ea:=
 dx _ (λa _=>gP ⟨rfl,b.refl _⟩) h
def jx{t b o l c:Nat}(a d:Nat){i:Int}(g:a<l)(h:kx (.pointer (some ⟨b,o+a*d,none⟩)))(j:i=(a:Nat):=by rfl)(k:ty t=some ⟨3,1,d,0⟩:=by rfl)(m:gH E:=by first|exact dD|exact ij _):xq E E w (λe f=>jO V.prog (Instr.indexAt t (.slice (some ⟨b,o,none⟩) l c) (.int .i64 i)) e f) kx kr kp lb kl ea:=
 dx _ (λe _=>fH a d g ⟨rfl,m.refl _⟩ j k) h
def Lk{t b o:Nat}(a c n:Nat){d:Int}(g:a<n)(h:kx (.pointer (some ⟨b,o+a*c,none⟩)))(j:d=(a:Nat):=by rfl)(k:ty t=some ⟨2,i,c,n⟩:=by rfl)(l:gH E:=by first|exact dD|exact ij _):xq E E w (λe f=>jO V.prog (Instr.indexAt t (.pointer (some ⟨b,o,none⟩)) (.int .i64 d)) e f) kx kr kp lb kl ea:=
 dx _ (λe _=>zy a c n g ⟨rfl,l.refl _⟩ j k) h
def gl{t b o l c:Nat}(a:Nat){i:Int}(e:a<l)(h:kx (.pointer (some ⟨b,o+a,none⟩)))(g:i=(a:Nat):=by rfl)(j:ty t=some ⟨3,1,1,0⟩:=by rfl)(k:gH E:=by first|exact dD|exact ij _):xq E E w (λd f=>jO V.prog (Instr.indexAt t (.slice (some ⟨b,o,none⟩) l c) (.int .i64 i)) d f) kx kr kp lb kl ea:=
 dx _ (λd _=>eX a e ⟨rfl,k.refl _⟩ g j) h
def rK{t b o:Nat}(a n:Nat){i:Int}(d:a<n)(h:kx (.pointer (some ⟨b,o+a,none⟩)))(e:i=(a:Nat):=by rfl)(g:ty t=some ⟨2,n,1,n⟩:=by rfl)(j:gH E:=by first|exact dD|exact ij _):xq E E w (λc f=>jO V.prog (Instr.indexAt t (.pointer (some ⟨b,o,none⟩)) (.int .i64 i)) c f) kx kr kp lb kl ea:=
 dx _ (λc _=>vm a n d ⟨rfl,j.refl _⟩ e g) h
def mu{t b:cR}{d:Array Bool}(h:kx (.int .i64 i))(e:ty b=some ⟨3,1,o,0⟩:=by rfl)(g:gH E:=by first|exact dD|exact ij _):xq E E w (λc f=>zd V.prog (builtin .len #[b] t d #[.slice a i j]) c f) kx kr kp lb kl ea:=
 XJ _ (λc _=>dm ⟨rfl,g.refl _⟩ e) h
end
def kT(n a b:Int):Bool:=decide (a<=n)&&decide (n<=b)
def fw(n a b:Int)(w:cJ):Calls V.prog 106 #[.int .i64 n,.int .i64 a,.int .i64 b] w (fO λv c=>v=.bool (kT n a b)/\c=w):=by refine jd Tryz.func106 Tryz.ntmps106 ?_;refine oP ⟨λh=>oP ⟨_,rfl,?_,rfl⟩,λh=>⟨_,rfl,?_,rfl⟩⟩<;>simp[kT,h]
def wY(l:cN)(k:Nat):Nat:=if k=0 then 0 else l.getD (k-1) 0+1
def vp(W:Nat->Nat->Int)(l:cN):Nat->Int
 |0=>0
 |k+1=>vp W l k+W (wY l k) (l.getD k 0+1)
def pL(W:Nat->Nat->Int)(l:cN):Int:=vp W l l.length+W (wY l l.length) 0
def PM(h:∀d∈l,d<5)(k:Nat)(b:k<=l.length):wY l k<6:=by unfold wY;split;omega;have a:k-1<l.length:=cM;have:=h _ (eG a);rw[gW,ft a];simp only[kK];omega
theorem zz{W:Nat->Nat->Int}(a:∀i j,0<=W i j/\W i j<=1000)(l:cN):∀k,0<=vp W l k/\vp W l k<=1000*k
 |0=>by simp[vp]
 |k+1=>by have b:=zz a l k;have c:=a (wY l k) (l.getD k 0+1);simp only[vp];omega
def rL{W:Nat->Nat->Int}(a:∀i j,0<=W i j/\W i j<=1000)(l:cN):0<=pL W l/\pL W l<=1000*l.length+1000:=by have b:=zz a l l.length;have c:=a (wY l l.length) 0;unfold pL;omega
def xv(W:Nat->Nat->Int)(a:Int)(l:cN):Int:=pL W l+(l.length:Int)*a
theorem getD_eq{a:Type}{l:List a}{d:a}(h:k<l.length):l.getD k d=l[k]:=by rw[gW,ft h];rfl
def AH(m:Nat)(W:Nat->Nat->Int)(l:cN)(p:dW)(s:Nat)(w:cJ)(a:∀i j,i<6->j<6->w.cell? ⟨m,7+i*6+j,none⟩=some (.int .i64 (W i j)))(q:∀i j,0<=W i j/\W i j<=1000) (r:∀d∈l,d<5)(t:l.length<=100000)(f:∀k (h:k<l.length),∃b o,p=some ⟨b,o,none⟩/\w.cell? ⟨b,o+k,none⟩=some (.int .i64 l[k])):
 Calls V.prog 161 #[.pointer (some ⟨m,0,none⟩),.slice p l.length s] w (fO λv e=>v=.int .i64 (pL W l)/\e=w):=by
 have u:=zz q l;refine jd Tryz.func161 Tryz.ntmps161 ?_;refine dm (fu (n:=l.length) (λk=>[(0,dQ m),(9,.slice p l.length s),(10,i64 l.length),(11,i64 k),(5,i64 (vp W l k)),(6,i64 (wY l k))]) (λ_ e=>e=w) ?_ ?_ ?_ ?_);exact⟨by trivial,rfl⟩;rintro k e g rfl;exact dN ⟨rfl,rfl,by trivial,rfl⟩;rintro k e g rfl;obtain⟨b,o,rfl,y⟩:=f k g;have B:=r _ (eG g);have c:=PM r k cM;have z:=u k;have A:=q (wY l k) (l[k]+1);refine eX k g (cP y (cY (zy (wY l k) 6 6 c (vm (l[k]+1) 6 cM (cP (a _ (l[k]+1) c cM) (cY (cY (cY ?_))))))));have x:l.getD k 0=l[k]:=getD_eq g;refine⟨⟨rfl,rfl,rfl,rfl,?_,?_,trivial⟩,rfl⟩;show _=some (Value.int .i64 (vp W l k+W (wY l k) (l.getD k 0+1)));rw[x];rfl;show _=some (Value.int .i64 ((l.getD k 0+1:Nat):Int));rw[x];rfl;rintro e rfl;have c:=PM r l.length (di _);have z:=u l.length;have A:=q (wY l l.length) 0;exact zy (wY l l.length) 6 6 c (vm 0 6 cM (cP (a _ 0 c cM) (cY ⟨_,rfl,rfl,rfl⟩)))
def MM(m:Nat)(W:Nat->Nat->Int)(n:Int)(l:cN)(p:dW)(r:Nat)(w:cJ)(q:w.cell? ⟨m,2,none⟩=some (.int .i64 n))(a:∀i j,i<6->j<6->w.cell? ⟨m,7+i*6+j,none⟩=some (.int .i64 (W i j)))(s:∀i j,0<=W i j/\W i j<=1000) (y:∀d∈l,d<5)(c:l.length<=100000)(f:∀k (h:k<l.length),∃b o,p=some ⟨b,o,none⟩/\w.cell? ⟨b,o+k,none⟩=some (.int .i64 l[k]))(g:0<=n/\n<=1000):
 Calls V.prog 114 #[.pointer (some ⟨m,0,none⟩),.slice p l.length r] w (fO λv z=>v=.int .i64 (xv W n l)/\Ext w z):=by
 have t:=rL s l;have u:=Int.mul_le_mul_of_nonneg_left g.2 (Int.natCast_nonneg l.length);have C:=zM (Int.natCast_nonneg l.length) g.1;refine jd Tryz.func114 Tryz.ntmps114 ?_;refine dE dD ?_;refine iY dD _ (λx e=>AH m W l p r x (λi j A B=>e.cell (a i j A B)) s y c λk h=>by have⟨b,o,t,u⟩:=f k h;exact⟨b,o,t,e.cell u⟩) (mu (dl q (Jt (vn λx e=>⟨_,rfl,rfl,e⟩))))
def mR(a b:Int):Int:=max (a-b) (b-a)
def Ll(a b:Int)(w:cJ)(d:0<=a/\a<=1000000)(e:0<=b/\b<=1000000):Calls V.prog 178 #[.int .i64 a,.int .i64 b] w (fO λv c=>v=.int .i64 (mR a b)/\c=w):=by refine jd Tryz.func178 Tryz.ntmps178 ?_;exact fI (fI (rJ ⟨_,rfl,rfl,rfl⟩))
def Ju(b:Nat)(n T:Int)(w:cJ)(a:w.cell? ⟨b,5,none⟩=some (.int .i64 T)):Calls V.prog 179 #[.int .i64 n,.pointer (some ⟨b,0,none⟩)] w (fO λv c=>v=.bool (decide (T<=n))/\c=w):=by refine jd Tryz.func179 Tryz.ntmps179 ?_;exact cP a (uN ⟨_,rfl,rfl,rfl⟩)
def Jv(b:Nat)(m n T:Int)(w:cJ)(c:w.cell? ⟨b,5,none⟩=some (.int .i64 T)):Calls V.prog 180 #[.int .i64 m,.int .i64 n,.pointer (some ⟨b,0,none⟩)] w (fO λv d=>v=.bool (decide (T<2)||(decide (0<m)&&decide (0<n)))/\d=w):=by refine jd Tryz.func180 Tryz.ntmps180 ?_;refine cP c (dN ⟨λh=>?_,λh=>?_⟩);exact⟨_,rfl,by simp[h],rfl⟩;refine mI ⟨λa=>mI ⟨_,rfl,by simp[h,a],rfl⟩,λa=>⟨_,rfl,by simp[h,a],rfl⟩⟩
def PN(a:Nat)(D:Int)(w:cJ)(b:w.cell? ⟨a,4,none⟩=some (.int .i64 D))(d:0<=D/\D<=1000):Calls V.prog 107 #[.pointer (some ⟨a,0,none⟩)] w (fO λv c=>v=.int .i64 (2*D-1)/\c=w):=by refine jd Tryz.func107 Tryz.ntmps107 ?_;exact cP b (qo (fI ⟨_,rfl,rfl,rfl⟩))
def iF(w:cJ)(a:dW)(l:eY):Prop:=∀k (h:k<l.length),∃b o,a=some ⟨b,o,none⟩/\w.cell? ⟨b,o+k,none⟩=some (.int .i64 l[k])
def iF.ext{l:eY}(h:iF w a l)(e:Ext w t):iF t a l:=λk c=>by have⟨b,o,d,f⟩:=h k c;exact⟨b,o,d,e.cell f⟩
theorem iF.take{l:eY}(h:iF w a l)(i:Nat):iF w a (l.take i):=λk d=>by
 have c:k<l.length:=by simp at d;omega
 have⟨b,o,e,f⟩:=h k c;exact⟨b,o,e,by rw[f];simp⟩
def sC(x:Int):eY->Nat->Int
 |[],_=> -1
 |y::r,i=>if x=y then i else sC x r (i+1)
def CR(x:Int)(l:eY)(k:Nat)(a:k<l.length):sC x (l.drop k) k=if x=l[k]then(k:Int)else sC x (l.drop (k+1)) (k+1):=by rw[nN a];rfl
def MN(l:eY)(x:Int)(e:dW)(f:Nat)(w:cJ)(i:iF w e l)(g:l.length<=100000):Calls V.prog 176 #[.slice e l.length f,.int .i64 x] w (fO λv c=>v=.int .i64 (sC x l 0)/\c=w):=by refine jd Tryz.func176 Tryz.ntmps176 ?_;refine dm (fu (n:=l.length) (λk=>[(0,.slice e l.length f),(1,i64 x),(7,i64 l.length),(8,i64 k)]) (λk c=>c=w/\sC x l 0=sC x (l.drop k) k) ⟨by trivial,rfl,rfl⟩ ?_ ?_ ?_);rintro k c d ⟨rfl,a⟩;exact dN ⟨rfl,rfl,by trivial,rfl,a⟩;rintro k c d ⟨rfl,a⟩;obtain⟨b,o,rfl,j⟩:=i k d;rw[CR x l k d]at a;refine eX k d (cP j (eZ ⟨λh=>?_,λh=>?_⟩));have h:x=l[k]:=fB h;exact⟨_,rfl,by rw[a,cV h];rfl,rfl⟩;have h:¬x=l[k]:=fB h;rw[cS h]at a;exact cY ⟨by trivial,rfl,a⟩;rintro c ⟨rfl,a⟩;exact⟨_,rfl,by rw[a];simp[sC],rfl⟩
structure Dr where
 st:Int
 at_:Int
 talk:Int
structure Gd where
 streets:Int
 corner:Int
 knock:Int
 minutes:Int
 days:Int
 tries:Int
 doors:List Dr
def dL(d:Dr):dP:=[.int .i64 d.st,.int .i64 d.at_,.int .i64 d.talk]
def gZ(w:cJ)(a:dW)(l:List Dr):Prop:=∀k (h:k<l.length),∃b o,a=some ⟨b,o,none⟩/\w.cell? ⟨b,o+k*3,none⟩=some (.int .i64 l[k].st)/\w.cell? ⟨b,o+k*3+1,none⟩=some (.int .i64 l[k].at_)/\w.cell? ⟨b,o+k*3+2,none⟩=some (.int .i64 l[k].talk)
def gZ.ext{l:List Dr}(h:gZ w a l)(e:Ext w t):gZ t a l:=λk c=>by have⟨b,o,d,f,g,i⟩:=h k c;exact⟨b,o,d,e.cell f,e.cell g,e.cell i⟩
def gL(G:Gd)(a:dW)(b:Nat):dP:=[.int .i64 G.streets,.int .i64 G.corner,.int .i64 G.knock,.int .i64 G.minutes,.int .i64 G.days,.int .i64 G.tries,.slice a G.doors.length b]
def gV(G:Gd)(a:dW)(b:Nat):cK:=.agg (gL G a b).toArray
def lj(G:Gd):Bool:=kT G.streets 1 3&&(kT G.corner 1 9&&(kT G.knock 1 5&&(kT G.minutes 1 90&&(kT G.days 1 3&&kT G.tries 1 G.days))))
def oQ(n:Int)(d:Dr):Int:=if kT d.st 0 (n-1)then(if kT d.at_ 0 20&&kT d.talk 1 9 then 0 else 1)else 3
def mS(n:Int):List Dr->Int
 |[]=>0
 |d::r=>if oQ n d=0 then mS n r else oQ n d
def eo(G:Gd):Int:=if lj G then(if(5:Int)<G.doors.length then 6 else mS G.streets G.doors)else 1
def yy(n:Int)(l:List Dr)(k:Nat)(a:k<l.length):mS n (l.drop k)=if oQ n l[k]=0 then mS n (l.drop (k+1))else oQ n l[k]:=by rw[nN a];rfl
def MO(G:Gd)(t:dW)(D:Nat)(w:cJ)(H:gZ w t G.doors)(E:G.doors.length<=100000):Calls V.prog 146 #[gV G t D] w (fO λv m=>v=.int .i64 (eo G)/\Ext w m):=by
 refine jd Tryz.func146 Tryz.ntmps146 ?_;refine eJ λu I f J c=>?_;have a:∀{b:Bool},lj G=false->∃v,Ending.returned (one [Value.int .i64 1])=.returned v/\v=Value.int .i64 (eo G)/\Ext w u:=λh=>⟨_,rfl,by simp[eo,h],f⟩;refine cP (cO c rfl) (dF (fw _ _ _ _) (eK ⟨λh=>ko h (a (b:=true) (by simp at h;simp[lj,h])),λg=>?_⟩));refine cP (cO c rfl) (dF (fw _ _ _ _) (eK ⟨λh=>ko h (a (b:=true) (by simp at h;simp[lj,h])),λq=>?_⟩));refine cP (cO c rfl) (dF (fw _ _ _ _) (eK ⟨λh=>ko h (a (b:=true) (by simp at h;simp[lj,h])),λr=>?_⟩));refine cP (cO c rfl) (dF (fw _ _ _ _) (eK ⟨λh=>ko h (a (b:=true) (by simp at h;simp[lj,h])),λK=>?_⟩));refine cP (cO c rfl) (dF (fw _ _ _ _) (eK ⟨λh=>ko h (a (b:=true) (by simp at h;simp[lj,h])),λL=>?_⟩));refine cP (cO c rfl) (cP (cO c rfl) (dF (fw _ _ _ _) (eK ⟨λh=>(a (b:=true) (by simp at h;simp[lj,h])),λM=>?_⟩)));have S: -1000000<=G.streets/\G.streets<=1000000:=by simp[kT]at g;omega
 have F:lj G=true:=by simp at g q r K L M;simp[lj, *]
 refine cP (cO c rfl) (dm (mI ⟨λh=>⟨_,rfl,by simp at h;simp[eo,F,h],f⟩,λx=>?_⟩));have x:¬(5:Int)<G.doors.iw:=fB x;have y:eo G=mS G.streets G.doors:=by simp[eo,F,x]
 refine cP (cO c rfl) (dm (fu (n:=G.doors.iw) (λk=>[(1,dQ I),(38,.slice t G.doors.iw D),(39,i64 G.doors.iw),(40,i64 k)]) (λk m=>Ext u m/\eo G=mS G.streets (G.doors.drop k)) ⟨by trivial,Ext.refl _,by rw[y];rfl⟩ ?_ ?_ ?_));rintro k m s ⟨e,d⟩;exact dN ⟨rfl,rfl,by trivial,e,d⟩;rintro k m s ⟨e,d⟩;obtain⟨b,o,rfl,N,z,O⟩:=(H.ext (f.trans e)) k s;rw[yy _ _ k s]at d;refine fH k 3 s (ez (vs:=dL G.doors[k]) (λj v i=>?_) (eU λT U P A B=>dI B λQ R l=>?_));match j,i with
 |0,i=>cases i;exact N
 |1,i=>cases i;exact z
 |2,i=>cases i;exact O
 have p:Ext u Q:=(e.trans P).cT R (du e.size A);have C:=p.at_ c;refine cP (cO l rfl) (cP (cO C rfl) (fI (dF (fw _ _ _ _) (eK ⟨λh=>?_,λg=>?_⟩))));exact⟨_,rfl,by simp at h;rw[d];simp[oQ,h],f.trans p⟩;simp at g;refine cP (cO l rfl) (dF (fw _ _ _ _) (eK ⟨λh=>ko h ?_,λq=>?_⟩));exact⟨_,rfl,by simp at h;rw[d];simp[oQ,g,h],f.trans p⟩;simp at q;refine cP (cO l rfl) (dF (fw _ _ _ _) (eK ⟨λh=>?_,λr=>?_⟩));exact⟨_,rfl,by simp at h;rw[d];simp[oQ,g,h],f.trans p⟩;simp at r;exact cY ⟨by trivial,p,by rw[d];simp[oQ,g,q,r]⟩;rintro m ⟨e,d⟩;exact⟨_,rfl,by rw[d];simp[mS],f.trans e⟩
section
variable{w:cJ}{k:cK->cJ->Prop}
def UG(h:∀a b,Ext w a->w.heap.size<=b->a.heap[b]? =some (.map #[] 0)->k (.map (some b)) a):jO V.prog (Instr.makeMap T none) w k:=
 ⟨_,_,run_makeMap T w,h _ w.lG (Ext.alloc _ _) (di _) (fY _ _)⟩
def eC{s:Sem cK}(v:cK)(h:k v w)(a:∀w,Sem.run V.prog s w=.ok v w:=by intro _;kernel_rfl):jO V.prog s w k:=⟨v,w,a w,h⟩
def er{a:Array (Nat×cK)}(d:dP)(e:cR)(h:∀b c,Ext w b->w.heap.size<=c->b.heap[c]? =some (.cells d.toArray e)->k (.slice (some ⟨c,0,none⟩) m m) b)
 (f:∀w,Sem.run V.prog (Instr.buildSlice T m a) w=.ok (.slice (some ⟨w.heap.size,0,none⟩) m m) (w.alloc (.cells d.toArray e)):=by intro _;kernel_rfl):jO V.prog (Instr.buildSlice T m a) w k:=
 ⟨_,_,f w,h _ w.lG (Ext.alloc _ _) (di _) (fY _ _)⟩
def IA(b e:cR)(a:dP):Prop:=V.prog.underlying b=some (.slice e)/\∃i z,V.prog.info? e=some i/\i.zero=some z/\z.cells=a.toArray/\i.size=a.length/\i.bytes<=256/\0<a.length
def SY:IA 22 81 [.int .i64 0,.int .i64 0,.int .i64 0]:=⟨eE,Tryz.t81,_,eE,rfl,eE,eE,by decide+kernel,kg⟩
def oR:IA 27 3 [.int .i64 0]:=⟨eE,Tryz.t3,_,eE,rfl,eE,eE,by decide+kernel,kg⟩
def Jw:IA 66 27 [.slice none 0 0]:=⟨eE,Tryz.t27,_,eE,rfl,eE,eE,by decide+kernel,kg⟩
def Ew{e:cR}{l:dP}{q:Array Bool}(r:IA T e l){v:cK}{o:dP}(s:dg i e l w v j o)(n:i<=w.heap.size){m c:Nat}{news:dP}(t:news.length=m*l.length)(x:0<m) (a:∀p u,news[p]? =some u->w.cell? (h.add p)=some u)(y:∀u∈news,u.oneCell'=true)(g:j+m<=1000000) (A:∀d f,dg i e l f d (j+m) (o++news)->dz (cW v) w f->(∀b,cW d b->cW v b\/w.heap.size<=b)->k d f):zd V.prog (builtin .append #[T,T] U q #[v,.slice (some h) m c]) w k:=by have⟨B,M,z,C,D,E,F,G,H⟩:=r;have⟨d,f,I,J,K,L⟩:=Jm (ty:=U) B C D E F G H s n (c:=c) t x a y g;refine⟨d,f,?_,A d f J K L⟩;unfold builtin;simp only[Sem.run_bind,I,Result.andThen_ok,Sem.run_pure]
def hH{e:cR}{c:dP}{n:Array Bool}(p:IA T e c){v:cK}{l:dP}(h:dg m e c w v i l)(d:m<=w.heap.size){a:dP}{q:cR}(r:w.heap[j]? =some (.cells a.toArray q))(b:i+1<=1000000)
 (s:∀f g,dg m e c g f (i+1) (l++a)->dz (cW v) w g->(∀j,cW f j->cW v j\/w.heap.size<=j)->k f g)(t:Nat.beq a.length c.length=true:=by rfl)(x:sB a=true:=by rfl):zd V.prog (builtin .append #[T,T] U n #[v,.slice (some ⟨j,0,none⟩) 1 o]) w k:=
 Ew p h d (by rw[Nat.one_mul];exact nQ t) cM (λz u y=>by rw[iq,dn];exact cO r (fB y)) (gJ x) b s
def wq{e:cR}{f:dP}{g:Array Bool}(l:IA T e f){b:dW}(n:m<=i)(h:k (.slice a m i) w):zd V.prog (builtin .append #[T,T] U g #[.slice a m i,.slice b 0 j]) w k:=by
 have⟨c,o,z,d,r,s,t,u,v⟩:=l;refine⟨_,w,?_,h⟩;rw[V.uL]at c;rw[V.Kz]at d;have p:Sem.run jV (sizeOf e) w=.ok o.size w:=Jr d w;have q:Sem.run jV (Builtin.append_ #[T,T] U #[.slice a m i,.slice b 0 j]) w=.ok (.slice a m i) w:=by unfold Builtin.append_;simp only[FD,Kv,Ui,Sem.run_bind,iz c,Result.andThen_ok,p,Sem.run_pure];simp only[iR,fq,Builtin.lenOf,Sem.run_pure,Result.andThen_ok,pB,n,em,Bool.not_false];cases b<;>cases a<;>simp[Builtin.firstCells,loadCells,loadCellsFrom,storeCells,Sem.run_bind,Sem.run_pure]<;>(intro h;omega)
 unfold builtin;simp only[Sem.run_bind,q,Result.andThen_ok,Sem.run_pure]
end
end Go.Proofs.W
variable{H N:Go.Proofs.W.Gd}
namespace Go.Proofs.W
open Go.RowKit
def eA(G:Gd):List Dr:=⟨0,0,0⟩::G.doors
def xw(c:Int)(a b:Dr):Int:=if a.st=b.st then mR a.at_ b.at_ else a.at_+b.at_+c*mR a.st b.st
def lA(G:Gd)(i j:Nat):Int:=match(eA G)[i]?,(eA G)[j]? with
 |some a,some b=>xw G.corner a b
 |_,_=>0
def UH(f a:Nat):cK:=.func (.func f) #[] #[.pointer (some ⟨a,0,none⟩)]
def G5(G:Gd)(a:dW)(dc mk ms:Nat)(b c:cK)(f:Nat->Nat->Int)(j:Nat):cK:=
 if j<7 then(gL G a dc).getD j undef else if j<43 then .int .i64 (f ((j-7)/6) ((j-7)%6))else if j=43 then .map (some mk)else if j=44 then .map (some ms)else if j=45 then b else c
structure oS(gp:Nat)(C:Nat->cK)(w:cJ):Prop where
 out:∃cs,w.heap[gp]? =some (.cells cs 186)/\cs.size=47/\∀j,j<47->cs[j]? =some (C j)
def oS.cell{C:Nat->cK}(h:oS m C w)(j:Nat)(a:j<47:=by omega):w.cell? ⟨m,j,none⟩=some (C j):=by have⟨d,b,e,c⟩:=h.out;exact cO b (c j a)
def oS.ext{C:Nat->cK}(h:oS m C w)(e:Ext w t):oS m C t:=by have⟨a,b,c,d⟩:=h.out;exact⟨a,e.at_ b,c,d⟩
def oS.mono{C a:Nat->cK}(h:oS m C w)(e:∀j,j<47->C j=a j):oS m a w:=by have⟨c,d,f,g⟩:=h.out;exact⟨c,d,f,λj b=>by rw[g j b,e j b]⟩
theorem oT:∀(b:dP) (a:eH) (o j:Nat),o+b.length<=a.size->(ir a o b)[j]? =if o<=j/\j<o+b.length then b[j-o]? else a[j]?
 |[],a,o,j,_=>by simp[ir];omega
 |v::r,a,o,j,h=>by simp only[fa]at h;have e:=oT r (a.setIfInBounds o v) (o+1) j rp;simp only[ir,e,fa];by_cases c:o+1<=j/\j<o+1+r.length;rw[cV c,cV cM];rw[show j-o=(j-(o+1))+1 by omega];simp;rw[cS c];by_cases d:o=j;subst d;rw[cV cM,ou cM];simp;rw[cS cM,gd d]
theorem pM:∀(b:dP) (a:eH) (o:Nat),(ir a o b).size=a.size
 |[],_,_=>rfl
 |v::r,a,o=>by rw[ir,pM r];simp
def PO{C:Nat->cK}(h:oS m C w)(p:o+x.cells.size<=47)(b:∀a,dz (λc=>c=m) w a->oS m (λj=>if o<=j/\j<o+x.cells.size then x.cells.toList.getD (j-o) undef else C j) a->S a)
 (d:sB x.cells.toList=true:=by rfl)(e:PK T=some x.cells.size:=by rfl):Eo V.prog (Instr.storeAt T (.pointer (some ⟨m,o,none⟩)) x) w S:=by
 have⟨q,f,g,i⟩:=h.out;refine jw f cM (λa k l=>b a k ⟨_,l,by rw[pM];exact g,λj n=>?_⟩) (gJ d) e;rw[oT _ _ _ _ rp];simp only[Array.length_toList];split;rename_i r;have:j-o<x.cells.toList.iw:=rp;rw[gW,ft this];rfl;exact i j n
structure qE(gp mk ms:Nat)(G:Gd)(w:cJ):Prop where
 at_:∃da dc gb,oS gp (G5 G da dc mk ms (UH 179 gb) (UH 180 gb) (lA G)) w/\gZ w da G.doors/\w.cell? ⟨gb,5,none⟩=some (.int .i64 G.tries)
 ok:eo G=0
 mlt:mk<w.heap.size
 slt:ms<w.heap.size
 ne:mk≠ms
 gk:gp≠mk/\gp≠ms
theorem qE.ext{gp mk ms:Nat}(h:qE gp mk ms H w)(e:Ext w t):qE gp mk ms H t:=by have⟨a,b,c,d,f,g⟩:=h.at_;exact⟨⟨a,b,c,d.ext e,f.ext e,e.cell g⟩,h.ok,ew h.mlt e.size,ew h.slt e.size,h.ne,h.gk⟩
structure Gd.Ok(G:Gd):Prop where
 streets:1<=G.streets/\G.streets<=3
 corner:1<=G.corner/\G.corner<=9
 knock:1<=G.knock/\G.knock<=5
 minutes:1<=G.minutes/\G.minutes<=90
 days:1<=G.days/\G.days<=3
 tries:1<=G.tries/\G.tries<=G.days
 many:G.doors.length<=5
 door:∀d∈G.doors,(0<=d.st/\d.st<=2)/\(0<=d.at_/\d.at_<=20)/\1<=d.talk/\d.talk<=9
theorem CS(c:I<=3):∀{l:List Dr},mS I l=0->∀d∈l,(0<=d.st/\d.st<=2)/\(0<=d.at_/\d.at_<=20)/\1<=d.talk/\d.talk<=9
 |x::r,h,d,b=>by simp only[mS]at h;split at h;rename_i a;obtain rfl|b:=fi.1 b;simp only[oQ]at a;split at a;split at a;rename_i e f;simp[kT]at e f;omega;omega;omega;exact CS c h d b;rename_i a;exact absurd h a
def eD(h:eo H=0):H.Ok:=by simp only[eo]at h;split at h;rename_i a;split at h;omega;rename_i b;simp[lj,kT]at a;refine⟨cM,cM,cM,cM,cM,cM,cM,CS cM h⟩;omega
def n4(h:H.Ok)(i j:Nat):0<=lA H i j/\lA H i j<=1000:=by
 have f:∀d∈eA H,(0<=d.st/\d.st<=2)/\(0<=d.at_/\d.at_<=20):=λd c=>by obtain rfl|c:=fi.1 c;simp;exact⟨(h.door d c).1,(h.door d c).2.1⟩
 unfold lA;split;rename_i a b g k;have m:=f a (pz g);have n:=f b (pz k);have l:=h.corner;unfold xw;split;unfold mR;omega;have e:0<=mR a.st b.st/\mR a.st b.st<=2:=by unfold mR;omega
 have:=Int.mul_le_mul l.2 e.2 e.1 cM;have:=zM (show 0<=H.corner by omega) e.1;omega;omega
def qT(G:Gd)(i k a b:Nat):Int:=if a<i\/(a=i/\b<k)then lA G a b else 0
theorem G6(G:Gd)(h:(eA G).length<=m\/(eA G).length<=k):lA G m k=0:=by grind [List.getElem?_eq_none,lA]
def SZ(G:Gd)(a:m<(eA G).length)(b:k<(eA G).length):lA G m k=xw G.corner (eA G)[m] (eA G)[k]:=by unfold lA;grind
def PP(G:Gd)(a:dW)(dc mk ms:Nat)(b c:cK)(i k:Nat)(d:i<6)(e:k<6)(n:Int)(f:n=lA G i k)(j:Nat)(g:j<47):
 (if 7+i*6+k<=j/\j<7+i*6+k+1 then([Value.int .i64 n]:dP).getD (j-(7+i*6+k)) undef else G5 G a dc mk ms b c (qT G i k) j)=G5 G a dc mk ms b c (qT G i (k+1)) j:=by
 split;rename_i h;obtain rfl:j=7+i*6+k:=cM;simp only[lJ,List.getD_cons_zero,G5];rw[cS cM,cV cM];grind [qT];rename_i h;simp only[G5];grind [qT]
def S3{ds:List Dr}(h:dg m 81 [.int .i64 0,.int .i64 0,.int .i64 0] w x k (ds.flatMap dL))(l:k=ds.length):∃a c,x=.slice a k c/\gZ w a ds/\∀b o,a=some ⟨b,o,none⟩->m<=b:=by
 subst l;have g:∀(ds:List Dr) (e:Nat) (f:e<ds.length),(ds.flatMap dL)[e*3]? =some (i64 ds[e].st)/\(ds.flatMap dL)[e*3+1]? =some (i64 ds[e].at_)/\(ds.flatMap dL)[e*3+2]? =some (i64 ds[e].talk):=by
  intro ds;induction ds with
  |nil=>grind
  |cons d r n=>
   intro e f;cases e with
   |zero=>simp[dL]
   |succ e=>
    grind [dL]
 obtain⟨p,⟨q,rfl⟩|⟨b,c,s,t,rfl,i,u,v,y,z,A⟩⟩:=h;exact⟨none,0,cL,λe f=>cM,λ_ _ h=>cL⟩;refine⟨_,c,rfl,λe f=>⟨b,0,rfl,?_⟩,λ_ _ h=>cL⟩;have j:(ds.flatMap dL).length=ds.length*3:=cL;have⟨B,C,D⟩:=g ds e f;refine⟨cO i ?_,cO i ?_,cO i ?_⟩;grind;grind;grind
theorem wu:∀(a:List Dr) (k:Nat) (b:k<a.length),(a.flatMap dL)[k*3]? =some (.int .i64 a[k].st)/\(a.flatMap dL)[k*3+1]? =some (.int .i64 a[k].at_)/\(a.flatMap dL)[k*3+2]? =some (.int .i64 a[k].talk)
 |d::r,0,_=>by simp[dL]
 |d::r,k+1,b=>by have:=wu r k cL;grind [dL]
theorem AI:∀a:List Dr,(a.flatMap dL).length=a.length*3
 |[]=>rfl
 |d::r=>by have:=AI r;simp[dL,this];omega
def Jx{a:List Dr}(h:gZ w (some ⟨m,o,none⟩) a)(j:Nat)(u:cK)(f:(a.flatMap dL)[j]? =some u):w.cell? ⟨m,o+j,none⟩=some u:=by
 have g:j<a.iw*3:=by rw[<-AI];grind
 have b:j/3<a.iw:=cM;have⟨c,d,e,i,k,l⟩:=h (j/3) b;obtain⟨rfl,rfl⟩:m=c/\o=d:=cL;have⟨n,p,q⟩:=wu a (j/3) b;have r:j%3=0\/j%3=1\/j%3=2:=cM;grind
def S4{s:nu}{z:Array Bool}{f e:List Dr}(h:dg m 81 [.int .i64 0,.int .i64 0,.int .i64 0] w x k (f.flatMap dL))(q:m<=w.heap.size)(t:gZ w a e)(g:k+e.length<=1000000) (v:∀n l,dg m 81 [.int .i64 0,.int .i64 0,.int .i64 0] l n (k+e.length) ((f++e).flatMap dL)->dz (cW x) w l->s n l):zd V.prog (builtin .append #[22,22] T z #[x,.slice a e.length i]) w s:=by
 obtain _|⟨d,r⟩:=e;have A:∃y c,x=.slice y k c/\k<=c:=by obtain⟨_,⟨rfl,rfl⟩|⟨b,c,E,_,rfl,_,_,F,_⟩⟩:=h;grind;grind
 obtain⟨y,c,rfl,B⟩:=A;exact wq SY B (v _ _ cL (dz.refl _ w));obtain⟨b,o,rfl,_⟩:=t 0 dq;refine Ew SY h q (news:=(d::r).flatMap dL) (AI _) dq (λj u C=>by rw[iq];exact Jx t j u C) (λu p=>?_) g λn l G D _=>v n l cL D;have⟨H,_,p⟩:=me.1 p;simp[dL]at p;obtain rfl|rfl|rfl:=p<;>rfl
def gZ.keep{c:List Dr}(h:gZ w a c)(k:dz A w t)(d:∀b o,a=some ⟨b,o,none⟩->¬A b):gZ t a c:=λi e=>by obtain⟨b,o,rfl,f,g,j⟩:=h i e;have:=d b o rfl;exact⟨b,o,rfl,k.fe f this,k.fe g this,k.fe j this⟩
def oS.keep{C:Nat->cK}(h:oS m C w)(k:dz A w t)(a:¬A m):oS m C t:=by have⟨b,c,d,e⟩:=h.out;exact⟨b,k.fN c a,d,e⟩
def G7(h:H.Ok)(d:Dr)(a:d∈eA H):(0<=d.st/\d.st<=2)/\(0<=d.at_/\d.at_<=20):=by obtain rfl|a:=fi.1 a;simp;exact⟨(h.door d a).1,(h.door d a).2.1⟩
def PQ(h:dz (cW (.slice (some ⟨m,o,none⟩) k i)) w t):dz (λx=>x=m) w t:=
 ⟨h.os,h.tape,h.output,h.size,h.drawn,λx a b=>h.block x a λ⟨c,d,e⟩=>b cL⟩
def XK(G:Gd)(a:dW)(dc mk ms:Nat):dP:=gL G a dc++(List.replicate 36 (Value.int .i64 0)++[Value.map (some mk),Value.map (some ms),Value.nilFunc,Value.nilFunc])
def MP(G:Gd)(g:dW)(m:Nat)(w:cJ)(hd:gZ w g G.doors)(S:G.doors.length<=100000):
 Calls V.prog 144 #[gV G g m] w (fO λv t=>Ext w t/\((eo G≠0/\v=.tuple #[.pointer none,.int .i64 (eo G)])\/(eo G=0/\∃c mk l,v=.tuple #[.pointer (some ⟨c,0,none⟩),.int .i64 0]/\qE c mk l G t/\
  w.heap.size<=c/\w.heap.size<=mk/\w.heap.size<=l/\t.heap[mk]? =some (.map #[] 0)/\t.heap[l]? =some (.map #[] 0)))):=by
 refine jd Tryz.func144 Tryz.ntmps144 ?_;refine eJ λT D U aG hb=>?_;refine ez (vs:=gL G g m) (λj v d=>by rw[dn];grind [cO,gV,Value.cells]) ?_;refine ep (MO G g m T (hd.ext U) S) λw2 W=>gP ⟨λh=>⟨_,rfl,U.trans W,.inl ⟨cL,rfl⟩⟩,λh=>?_⟩;have L:eo G=0:=cL;have ok:=eD L;have E:=W.at_ hb;refine ez (vs:=gL G g m) (λj v d=>by rw[dn];grind [cO,gV,Value.cells]) ?_;refine UG λw3 mk M aH hm=>UG λw4 l J aI X=>eC (.agg (XK G g m mk l).toArray)<|eJ λw5 c e5 al hg=>?_;have E5:Ext w w5:=(((U.trans W).trans M).trans J).trans e5;refine eC (.agg #[i64 0,i64 0,i64 0])<|er (dL ⟨0,0,0⟩) 81 λw6 pb e6 am hp=>?_;have an:gZ w6 g G.doors:=hd.ext (E5.trans e6);refine cP (cO ((M.trans (J.trans (e5.trans e6))).at_ E) rfl) ?_;have ao:oS c (G5 G g m mk l .nilFunc .nilFunc (qT G 0 0)) w5:=by
  refine⟨_,hg,by simp[Value.cells,XK,gL],λj d=>?_⟩;show(XK G g m mk l).toArray[j]? =_;have h0:∀a b,qT G 0 0 a b=0:=λa b=>by simp[qT]
  rw[FD];unfold XK G5;split;rename_i h7;rw[yd (by simpa[gL]using h7),gW,ft (by simpa[gL]using h7)];rfl;rename_i h7;rw[ye (by simp[gL];omega)];have hl:(gL G g m).length=7:=rfl;rw[hl];split;grind
  ·rename_i aJ;rw[ye cL,List.length_replicate];obtain rfl|rfl|rfl|rfl:j=43\/j=44\/j=45\/j=46:=cM;all_goals rfl
 have ap:dg pb 81 [i64 0,i64 0,i64 0] w6 (eT pb 1 1) 1 (([⟨0,0,0⟩]:List Dr).flatMap dL):=
  ⟨rfl,.inr ⟨pb,1,_,di _,rfl,hp,rfl,di _,cL,λj d=>cL,λj h1 h2=>cL⟩⟩
 have aF:=dA.lt_of_heap hp;refine S4 ap cM an cM λv w7 aq k7=>?_;have e7:Ext w5 w7:=e6.cT (PQ k7) am;have Y:(eA G).length=1+G.doors.length:=by simp[eA];omega
 obtain⟨pa,Z,rfl,ar,aK⟩:=S3 (ds:=eA G) aq Y.symm;rw[<-Y];have au:=ao.ext e7;have av:=(M.trans (J.trans (e5.trans e7))).at_ E;have h6:(eA G).length<=6:=iI ok.many;have lb:D<w2.heap.size:=dA.lt_of_heap E;have lm:mk<w3.heap.size:=dA.lt_of_heap hm;have ls:l<w4.heap.size:=dA.lt_of_heap X;have lg:c<w5.heap.size:=dA.lt_of_heap hg;have s3:=M.size;have s4:=J.size;have z:c≠mk/\c≠l/\D≠c/\mk≠l:=cM
 refine dm (fu (n:=(eA G).length) (λk=>[(1,dQ D),(5,dQ c),(6,.slice pa (eA G).length Z),(26,.slice pa (eA G).length Z),(27,i64 (eA G).length),(28,i64 k)])
  (λi t=>dz (λx=>x=c) w7 t/\oS c (G5 G g m mk l .nilFunc .nilFunc (qT G i 0)) t) ⟨by trivial,dz.refl _ _,au⟩ ?_ ?_ ?_)
 rintro k t P ⟨k',Q⟩;exact dN ⟨rfl,rfl,by trivial,k',Q⟩;rintro i t Q ⟨R,N⟩;have aa:∀b o,pa=some (dt b o)->¬(b=c):=λb o h=>cL;have ac:gZ t pa (eA G):=ar.keep R aa;have⟨b,o,ad,h1,h2,h3⟩:=ac i Q;subst ad;have aL:=G7 ok _ (eG Q)
 refine fH i 3 Q (ez (vs:=dL (eA G)[i]) (λj u d=>by
  match j,d with
  |0,d=>cases d;grind
  |1,d=>cases d;grind
  |2,d=>cases d;grind) (eU λw8 ab e8 aw ax=>dI ax λw9 k9 ae=>?_))
 have kw:=R.size;have s7:=e7.size;have af:i<6:=cM;have ay:=(N.ext e8).keep k9 (show¬(c=ab) by omega);have aM:=dA.lt_of_heap ae;have e9:Ext t w9:=e8.cT k9 aw
 refine dm (fu (n:=(eA G).length) (λk=>[(1,dQ D),(5,dQ c),(6,FF b o (eA G).length Z),(7,i64 i),(8,dQ ab),(26,FF b o (eA G).length Z),(27,i64 (eA G).length),(28,i64 i),
  (33,FF b o (eA G).length Z),(34,i64 (eA G).length),(35,i64 k)]) (λk O=>dz (λx=>x=c) w9 O/\oS c (G5 G g m mk l .nilFunc .nilFunc (qT G i k)) O) ⟨by trivial,dz.refl _ _,ay⟩ ?_ ?_ ?_)
 rintro k O P ⟨F,A⟩;exact dN ⟨rfl,rfl,by trivial,F,A⟩;rintro k O P ⟨F,A⟩;have aN:=G7 ok _ (eG P);have ag:k<6:=cM;have az:gZ O (pr b o) (eA G):=(ac.ext e9).keep F aa;have⟨b2,o2,ad,g1,g2,g3⟩:=az k P;obtain⟨rfl,rfl⟩:b=b2/\o=o2:=cL
 refine fH k 3 P (ez (vs:=dL (eA G)[k]) (λj u d=>by
  match j,d with
  |0,d=>cases d;grind
  |1,d=>cases d;grind
  |2,d=>cases d;grind) (eU λaO bb aA aB ah=>dI ah λH aC r=>?_))
 have I:Ext O H:=aA.cT aC aB;have sk:=F.size;have s:fF H ab (ir (pJ 81).toArray 0 (dL (eA G)[i])) 81:=I.at_ (F.fN ae (show¬(ab=c) by omega));have K:=A.ext I;have ai:H.cell? (dt D 1)=some (i64 G.corner):=I.cell (F.fe (e9.cell (R.fe (cO av rfl) z.2.2.1)) z.2.2.1)
 have aj:∀p f,Ext H p->∀n:Int,n=lA G i k->dz (λx=>x=c) p f->oS c (λj=>if 7+i*6+k<=j/\j<7+i*6+k+1 then([Value.int .i64 n]:dP).getD (j-(7+i*6+k)) undef else G5 G g m mk l .nilFunc .nilFunc (qT G i k) j) f->
  dz (λx=>x=c) w9 f/\oS c (G5 G g m mk l .nilFunc .nilFunc (qT G i (k+1))) f:=λp f e n hn B hg=>by
  refine⟨(F.trans ((I.trans e).keep λx=>x=c) (λ_ _ h=>h) λ_ _ h=>h).trans B (λ_ _ h=>h) λ_ _ h=>h,hg.mono λj d=>PP G g m mk l _ _ i k cM cM n hn j d⟩
 have aP:lA G i k=xw G.corner (eA G)[i] (eA G)[k]:=SZ G Q P;refine cP (cO s rfl) (cP (cO r rfl) (eZ ⟨λh=>?_,λh=>?_⟩));refine dE dD (dl (cO s rfl) (dl (cO r rfl) (iY dD _ (λT e=>Ll _ _ T cM cM) (Lk i 6 6 af (rK k 6 ag λp e=>PO (K.ext e) (by simp[Value.cells];omega) λf B C=>?_)))));have h:(eA G)[i].st=(eA G)[k].st:=fx h;exact cY ⟨by trivial,aj p f e _ (by grind [xw]) B C⟩;have h:¬(eA G)[i].st=(eA G)[k].st:=ie h;have hf:0<=mR (eA G)[i].st (eA G)[k].st/\mR (eA G)[i].st (eA G)[k].st<=2:=by unfold mR;omega
 have hc:=ok.corner;have m1:=Int.mul_le_mul hc.2 hf.2 hf.1 dq;have m2:=zM (show 0<=G.corner by omega) hf.1
 refine dE dD (dl (cO s rfl) (dl (cO r rfl) (vn (dl ai (dl (cO s rfl) (dl (cO r rfl) (iY dD _ (λT e=>Ll _ _ T cM cM) (Jt (vn (Lk i 6 6 af (rK k 6 ag λp e=>
  PO (K.ext e) (by simp[Value.cells];omega) λf B C=>?_)))))))))))
 exact cY ⟨by trivial,aj p f e _ (by grind [xw]) B C⟩;rintro O ⟨F,A⟩;refine cY ⟨by trivial,R.trans (((e9.keep λx=>x=c).trans F (λ_ _ h=>h) λ_ _ h=>h)) (λ_ _ h=>h) λ_ _ h=>h,A.mono λj d=>?_⟩;simp only[G5];split;rfl;split;congr 1;simp only[qT];generalize (j-7)/6=x;generalize hy:(j-7)%6=y;by_cases hx:x<i\/x=i/\y<(eA G).length;grind;rw[cS hx];grind [G6];rfl;rintro t ⟨R,N⟩;have ak:oS c (G5 G g m mk l .nilFunc .nilFunc (lA G)) t:=N.mono λj d=>by grind [G6,G5,qT]
 refine eC (.agg #[UH 179 D,UH 180 D]) (PO ak (qJ rfl) λw8 k8 aD=>?_);have aE:dz (λx=>x=c) w7 w8:=R.trans k8 (λ_ _ h=>h) λ_ _ h=>h;have q:Ext w4 w8:=(e5.trans e7).cT aE al;refine⟨_,rfl,((U.trans W).trans (M.trans J)).trans q,.inr ⟨L,c,mk,l,rfl,⟨⟨g,m,D,aD.mono λj d=>?_,hd.ext (((U.trans W).trans (M.trans J)).trans q),?_⟩,L,?_,?_,z.2.2.2,z.1,z.2.1⟩,?_,?_,?_,?_,?_⟩⟩;show(if 45<=j/\j<45+2 then([UH 179 D,UH 180 D]:dP).getD (j-45) undef else _)=_;split
 ·obtain rfl|rfl:j=45\/j=46:=cM;all_goals simp[G5]
 grind [G5];exact(q.trans (Ext.refl _)).cell ((M.trans J).cell (cO E rfl));have:=q.size;omega;have:=q.size;omega;grind;grind;grind;exact q.at_ (J.at_ hm);exact q.at_ X
def fJ(w:cJ)(a:dW)(l:cN):Prop:=∀k (h:k<l.length),∃b o,a=some ⟨b,o,none⟩/\w.cell? ⟨b,o+k,none⟩=some (.int .i64 l[k])
def fJ.ext{w c:cJ}{a:dW}{l:cN}(h:fJ w a l)(e:Ext w c):fJ c a l:=λk d=>by have⟨b,o,f,g⟩:=h k d;exact⟨b,o,f,e.cell g⟩
def nS(l:cN):eY:=l.map λn:Nat=>(n:Int)
def fJ.ints{w:cJ}{a:dW}{l:cN}(h:fJ w a l):iF w a (nS l):=λk d=>by
 have c:k<l.iw:=by grind [nS]
 have⟨b,o,e,f⟩:=h k c;grind [nS]
section
variable{gp mk ms:Nat}{G:Gd}{w:cJ}
def qE.vL(h:qE gp mk ms G w):G.Ok:=eD h.ok
def qE.ways(h:qE gp mk ms G w)(i j:Nat)(b:i<6)(c:j<6):w.cell? ⟨gp,7+i*6+j,none⟩=some (.int .i64 (lA G i j)):=by have⟨d,e,f,a,_⟩:=h.at_;rw[a.cell (7+i*6+j)];simp only[G5];grind
def qE.c2(h:qE gp mk ms G w):w.cell? ⟨gp,2,none⟩=some (.int .i64 G.knock):=by have⟨b,c,d,a,_⟩:=h.at_;exact a.cell 2
def qE.c3(h:qE gp mk ms G w):w.cell? ⟨gp,3,none⟩=some (.int .i64 G.minutes):=by have⟨b,c,d,a,_⟩:=h.at_;exact a.cell 3
def qE.c4(h:qE gp mk ms G w):w.cell? ⟨gp,4,none⟩=some (.int .i64 G.days):=by have⟨b,c,d,a,_⟩:=h.at_;exact a.cell 4
def qE.c5(h:qE gp mk ms G w):w.cell? ⟨gp,5,none⟩=some (.int .i64 G.tries):=by have⟨b,c,d,a,_⟩:=h.at_;exact a.cell 5
def qE.c6(h:qE gp mk ms G w):∃a b,w.cell? ⟨gp,6,none⟩=some (.slice a G.doors.length b)/\gZ w a G.doors:=by have⟨a,b,e,c,d,_⟩:=h.at_;exact⟨a,b,c.cell 6,d⟩
def qE.Ze(h:qE gp mk ms G w):w.cell? ⟨gp,43,none⟩=some (.map (some mk)):=by have⟨b,c,d,a,_⟩:=h.at_;exact a.cell 43
def qE.Zf(h:qE gp mk ms G w):w.cell? ⟨gp,44,none⟩=some (.map (some ms)):=by have⟨b,c,d,a,_⟩:=h.at_;exact a.cell 44
def qE.fn(h:qE gp mk ms G w):∃a,w.cell? ⟨gp,45,none⟩=some (UH 179 a)/\w.cell? ⟨gp,46,none⟩=some (UH 180 a)/\w.cell? ⟨a,5,none⟩=some (.int .i64 G.tries):=by have⟨d,e,a,b,_,c⟩:=h.at_;exact⟨a,b.cell 45,b.cell 46,c⟩
def mT(G:Gd)(l:cN):Int:=pL (lA G) l
def ji(G:Gd)(l:cN):Int:=xv (lA G) G.knock l
def kC(G:Gd)(l:cN):Int:=(l.map λd=>((G.doors[d]?).map (·.talk)).getD 0).sum
def iA(G:Gd)(l:cN):Int:=ji G l+kC G l
variable{l:List Nat}{la:Option Addr}{lc:Nat}
def MQ(h:qE gp mk ms G w)(e:∀d∈l,d<G.doors.length)(a:l.length<=100000)(b:fJ w la l):Calls V.prog 161 #[.pointer (some ⟨gp,0,none⟩),.slice la l.length lc] w (fO λv c=>v=.int .i64 (mT G l)/\c=w):=by have:=h.vL.many;exact AH gp (lA G) l la lc w h.ways (n4 h.vL) cL a b
def G8(h:qE gp mk ms G w)(e:∀d∈l,d<G.doors.length)(a:l.length<=100000)(b:fJ w la l):Calls V.prog 114 #[.pointer (some ⟨gp,0,none⟩),.slice la l.length lc] w (fO λv c=>v=.int .i64 (ji G l)/\Ext w c):=by have:=h.vL.many;have:=h.vL.knock;exact MM gp (lA G) G.knock l la lc w h.c2 h.ways (n4 h.vL) cL a b cM
def CU(a:G.Ok)(l:cN)(b:l.length<=100000):0<=ji G l/\ji G l<=1000000000:=by have d:=rL (n4 a) l;have c:=a.knock;have e:=Int.mul_le_mul_of_nonneg_left c.2 (Int.natCast_nonneg l.length);have f:=zM (Int.natCast_nonneg l.length) (show 0<=G.knock by omega);unfold ji xv;omega
def AJ(G:Gd)(l:cN)(k:Nat)(a:k<l.length)(b:l[k]<G.doors.length):kC G (l.take (k+1))=kC G (l.take k)+G.doors[l[k]].talk:=by unfold kC;rw[iT a,qH,List.sum_append];grind
theorem AK(a:G.Ok):∀(l:cN),0<=kC G l/\kC G l<=9*l.length
 |[]=>by simp[kC]
 |d::r=>by
  have:=AK a r
  have b:0<=((G.doors[d]?).map (·.talk)).getD 0/\((G.doors[d]?).map (·.talk)).getD 0<=9:=by
   cases h:G.doors[d]? with
   |none=>simp
   |some x=>have:=a.door x (pz h);grind
  grind [List.length_cons,kC]
def Ex(h:qE gp mk ms G w)(j:∀d∈l,d<G.doors.length)(a:l.length<=100000)(m:fJ w la l):Calls V.prog 115 #[.pointer (some ⟨gp,0,none⟩),.slice la l.length lc] w (fO λv c=>v=.int .i64 (iA G l)/\Ext w c):=by refine jd Tryz.func115 Tryz.ntmps115 ?_;have u:=CU h.vL l a;have x:=h.vL.many;refine ep (G8 h j a m) λp g=>?_;refine dm (fu (n:=l.length) (λk=>[(0,dQ gp),(11,.slice la l.length lc),(12,i64 l.length),(13,i64 k),(5,i64 (ji G l+kC G (l.take k)))]) (λ_ c=>c=p) ⟨⟨rfl,rfl,rfl,rfl,by show some _=some _;simp[kC],trivial⟩,rfl⟩ ?_ ?_ ?_);rintro k c e rfl;exact dN ⟨rfl,rfl,by trivial,rfl⟩;rintro k c e rfl;obtain⟨b,o,rfl,q⟩:=(m.ext g) k e;have f:=j _ (eG e);have⟨y,z,r,i⟩:=(h.ext g).c6;obtain⟨A,B,rfl,_,_,s⟩:=i _ f;have C:=AK h.vL (l.take k);have D:=h.vL.door _ (eG f);have t:(l.take k).length<=100000:=cL;refine eX k e (cP q (cP r (fH l[k] 3 f (cP s (cY (cY ⟨⟨rfl,rfl,rfl,rfl,?_,trivial⟩,rfl⟩))))));show some _=some _;rw[AJ G l k e f,Int.add_assoc];rintro c rfl;exact⟨_,rfl,by simp[iA],g⟩
def last_at(h:qE gp mk ms G w):Calls V.prog 107 #[.pointer (some ⟨gp,0,none⟩)] w (fO λv a=>v=.int .i64 (2*G.days-1)/\a=w):=PN gp G.days w h.c4 (iI h.vL.days)
end
def b8(c:BinOp)(a b:Int):Int:=match c with
 | .and=>IntKind.u8.wrap (BitVec.ofInt 8 a&&&BitVec.ofInt 8 b).toNat
 | .or=>IntKind.u8.wrap (BitVec.ofInt 8 a|||BitVec.ofInt 8 b).toNat
 |_=>IntKind.u8.wrap (BitVec.ofInt 8 a&&& ~~~BitVec.ofInt 8 b).toNat
section
variable{w:cJ}{k:cK->cJ->Prop}{t:cR}{x y:dU}
def Vx(r:Int)(a:b8 .and I J=r)(h:k (.int .u8 r) w):jO V.prog (do eqGuard .and t x y (.int .u8 I) (.int .u8 J);binOp .and t (.int .u8 I) (.int .u8 J)) w k:=⟨_,w,rfl,by subst a;exact h⟩
def S5(r:Int)(a:b8 .andNot I J=r)(h:k (.int .u8 r) w):jO V.prog (do eqGuard .andNot t x y (.int .u8 I) (.int .u8 J);binOp .andNot t (.int .u8 I) (.int .u8 J)) w k:=⟨_,w,rfl,by subst a;exact h⟩
def Vy(a:m<=8)(h:k (.int .u8 (I.fdiv (2^m))) w):jO V.prog (do eqGuard .shr t x y (.int .u8 I) (.int .i64 m);binOp .shr t (.int .u8 I) (.int .i64 m)) w k:=by
 refine⟨_,w,?_,h⟩;show Sem.run jV (Op.shift .shr .u8 I .i64 m) w=_;unfold Op.shift;rw[cS cM];have:min (m:Int).toNat IntKind.u8.bits=m:=by simp[IntKind.bits];omega
 rw[this];rfl
def Vz(a:m<=8)(h:k (.int .u8 (IntKind.u8.wrap (I*2^m))) w):jO V.prog (do eqGuard .shl t x y (.int .u8 I) (.int .i64 m);binOp .shl t (.int .u8 I) (.int .i64 m)) w k:=by
 refine⟨_,w,?_,h⟩;show Sem.run jV (Op.shift .shl .u8 I .i64 m) w=_;unfold Op.shift;rw[cS cM];have:min (m:Int).toNat IntKind.u8.bits=m:=by simp[IntKind.bits];omega
 rw[this];rfl
end
def PS:∀s:Nat,s<32->∀d:Nat,d<5->b8 .and ((s:Int).fdiv (2^d)) 1=if s.testBit d then 1 else 0:=by decide+kernel
def S7(s d:Nat)(w:cJ)(a:s<32)(b:d<5):Calls V.prog 198 #[.int .u8 s,.int .i64 d] w (fO λv c=>v=.bool (s.testBit d)/\c=w):=by refine jd Tryz.func198 Tryz.ntmps198 ?_;refine Vy cM (Vx _ (PS s a d b) (eZ ⟨_,rfl,?_,rfl⟩));cases s.testBit d<;>rfl
def zA(s d:Nat)(w:cJ)(a:s<32)(b:d<5):Calls V.prog 164 #[.int .u8 s,.int .i64 d] w (fO λv c=>v=.int .u8 (oi s d)/\c=w):=Js (Gu s d w a b)
def Ey(x:Int)(l:eY):Bool:=decide (0<=sC x l 0)
def Ez(l:eY)(x:Int)(b:dW)(c:Nat)(w:cJ)(d:iF w b l)(a:l.length<=100000):Calls V.prog 135 #[.slice b l.length c,.int .i64 x] w (fO λv e=>v=.bool (Ey x l)/\e=w):=by refine jd Tryz.func135 Tryz.ntmps135 ?_;exact dF (MN l x b c w d a) (uN ⟨_,rfl,rfl,rfl⟩)
def pN(n:Int):eY->eY->Int
 |_,[]=>0
 |a,d::r=>if kT d 0 (n-1)then(if Ey d a then 4 else pN n (a++[d]) r)else 3
def je(n:Int)(l:eY):Int:=pN n [] l
def EB(n:Int)(l:eY)(k:Nat)(a:k<l.length):pN n (l.take k) (l.drop k)=if kT l[k] 0 (n-1)then(if Ey l[k] (l.take k)then 4 else pN n (l.take (k+1)) (l.drop (k+1)))else 3:=by rw[nN a,iT a];rfl
def CV{gp mk ms:Nat}{w:cJ}(h:qE gp mk ms H w){l:eY}{lc:Nat}(p:iF w a l)(q:l.length<=100000)(u:l.length<=lc):
 Calls V.prog 108 #[.pointer (some ⟨gp,0,none⟩),.slice a l.length lc] w (fO λv e=>v=.int .i64 (je H.doors.length l)/\e=w):=by
 have x:=h.vL.many;have⟨y,z,r,s⟩:=h.c6;refine jd Tryz.func108 Tryz.ntmps108 ?_;refine dm (fu (n:=l.length) (λk=>[(0,dQ gp),(1,.slice a l.length lc),(7,.slice a l.length lc),(8,i64 l.length),(9,i64 k)]) (λk e=>e=w/\je H.doors.length l=pN H.doors.length (l.take k) (l.drop k)) ⟨by trivial,rfl,rfl⟩ ?_ ?_ ?_);rintro k e g ⟨rfl,c⟩;exact dN ⟨rfl,rfl,by trivial,rfl,c⟩;rintro k e g ⟨rfl,c⟩;have⟨b,o,i,f⟩:=p k g;rw[EB _ l k g]at c;have j:(l.take k).length=k:=rp;have d:=Ez (l.take k) l[k] a lc e (p.take k) cM;rw[j]at d;subst i;refine eX k g (cP f (cP r (dm (fI (dF (fw _ _ _ _) (eK ⟨λh=>?_,λm=>?_⟩))))));simp at h;exact⟨_,rfl,by rw[c];simp[h],rfl⟩;simp at m;refine pK k cM (dF d ⟨λh=>?_,λt=>?_⟩);exact⟨_,rfl,by rw[c];simp[h,m],rfl⟩;rw[m,t]at c;exact cY ⟨by trivial,rfl,fB c⟩;rintro e ⟨rfl,c⟩;exact⟨_,rfl,by rw[c];simp[pN],rfl⟩
def nf(s k:Nat):cN:=(List.range k).filter (s.testBit ·)
def eh(s:Nat):cN:=nf s 5
def gA(l:cN):dP:=l.map λn:Nat=>Value.int .i64 n
def eO(a:Nat)(w:cJ)(v:cK)(l:cN):Prop:=dg a 3 [.int .i64 0] w v l.length (gA l)
def eO.row(h:eO m w x l):∃a c,x=.slice a l.length c/\fJ w a l/\l.length<=c:=by obtain⟨j,⟨e,rfl⟩|⟨b,c,n,o,rfl,f,p,g,q,i,r⟩⟩:=h;exact⟨none,0,by rw[e],λk d=>cM,cM⟩;refine⟨_,c,rfl,λk d=>⟨b,0,rfl,?_⟩,g⟩;refine cO f ?_;rw[dn,i k (by simp[gA];omega)];simp[gA,ft d]
def wv(s k:Nat):nf s (k+1)=if s.testBit k then nf s k++[k]else nf s k:=by unfold nf;rw[nq,List.filter_append];cases h:s.testBit k<;>simp[h]
theorem lZ(s k:Nat):(nf s k).length<=k:=by have:=List.length_filter_le (s.testBit ·) (List.range k);simpa[nf]using this
def Ext.iZ(h:Ext w t)(a:dz (cW x) t e)(d:dg m T M t x k Y)(g:w.heap.size<=m):Ext w e:=
 ⟨a.os.trans h.os,a.tape.trans h.tape,a.output.trans h.output,du h.size a.size,du h.drawn a.drawn,λb c=>(a.block b (ew c h.size) λf=>iI ((d.blk f).1)).trans (h.block b c)⟩
def ww(s:Nat)(w:cJ)(i:s<32):Calls V.prog 173 #[.int .u8 s] w (fO λv a=>Ext w a/\eO w.heap.size a v (eh s)):=by refine jd Tryz.func173 Tryz.ntmps173 ?_;refine jK (n:=5) (λk v=>[(0,.int .u8 s),(3,v),(5,i64 k)]) (λk v a=>Ext w a/\eO w.lG a v (nf s k)) (fo) ⟨by trivial,Ext.refl _,dg.nil _ _ _ _⟩ ?_ ?_ ?_;rintro k v a f ⟨e,b⟩;exact dN ⟨rfl,rfl,by trivial,e,b⟩;rintro k v a f ⟨e,b⟩;have g:=lZ s k;refine dF (S7 s k a i f) ⟨λh=>?_,λh=>?_⟩;refine er [Value.int .i64 k] 3 λp q c j l=>hH oR (b.ext c) (du e.size c.size) l cM λm r d o _=>cY ⟨m,by trivial,(e.trans c).iZ o (b.ext c) (di _),?_⟩;rw[wv,cV h];simpa[eO,gA]using d;refine cY ⟨v,by trivial,e,?_⟩;rw[wv,cS (by rw[h];simp)];exact b;rintro v a ⟨e,b⟩;exact⟨_,rfl,e,b⟩
def setFrom(s:Nat)(l:cN):Nat:=l.foldl oi s
def eB(l:cN):Nat:=setFrom 0 l
theorem mU:∀(l:cN) (s:Nat),s<32->(∀d∈l,d<5)->setFrom s l<32
 |[],s,a,_=>a
 |d::r,s,a,h=>mU r (oi s d) (Ei s a d (h d fW)) λx b=>h x (jD _ b)
def uk(l:cN)(e:dW)(g:Nat)(w:cJ)(j:fJ w e l)(h:∀d∈l,d<5)(i:l.length<=100000):Calls V.prog 122 #[.slice e l.length g] w (fO λv a=>v=.int .u8 (eB l)/\a=w):=by refine jd Tryz.func122 Tryz.ntmps122 ?_;refine dm (fu (n:=l.length) (λk=>[(3,.int .u8 (eB (l.take k))),(6,.slice e l.length g),(7,i64 l.length),(8,i64 k)]) (λ_ a=>a=w) ⟨by trivial,rfl⟩ ?_ ?_ ?_);rintro k a c rfl;exact dN ⟨rfl,rfl,by trivial,rfl⟩;rintro k a c rfl;obtain⟨b,o,rfl,m⟩:=j k c;have f:=h _ (eG c);have p:eB (l.take k)<32:=mU _ 0 cM λd f=>h d (List.mem_of_mem_take f);refine eX k c (cP m (dF (zA _ _ _ p f) (cY ⟨⟨?_,rfl,rfl,rfl,trivial⟩,rfl⟩)));show some _=some _;rw[iT c];simp only[eB,setFrom,qG,jP,List.foldl_nil];rintro a rfl;exact⟨_,rfl,dq,rfl⟩
structure Sx where
 tries:Int
 mornings:Int
 evenings:Int
 opened:Bool
 d0:Bool
 d1:Bool
 d2:Bool
 left:Bool
def nI(x:Sx):dP:=[.int .i64 x.tries,.int .i64 x.mornings,.int .i64 x.evenings,.bool x.opened,.bool x.d0,.bool x.d1,.bool x.d2,.bool x.left]
def gY(T:Int)(x:Sx):Bool:=(x.left||x.opened)||(decide (T<=x.tries)&&(decide (T<2)||(decide (0<x.mornings)&&decide (0<x.evenings))))
def zB{gp mk ms:Nat}(h:qE gp mk ms H w)(x:Sx):Calls V.prog 134 #[.pointer (some ⟨gp,0,none⟩),.agg (nI x).toArray] w (fO λv k=>v=.bool (gY H.tries x)/\Ext w k):=by refine jd Tryz.func134 Tryz.ntmps134 ?_;refine eJ λo p c l d=>?_;have⟨i,m,n,j⟩:=(h.ext c).fn;refine dE dD (dl (cO d rfl) ⟨λf=>?_,λf=>?_⟩);exact ko rfl λa e=>⟨_,rfl,by simp[gY,f],c.trans e⟩;refine dl (cO d rfl) ⟨λg=>?_,λg=>?_⟩;exactλa e=>⟨_,rfl,by simp[gY,f,g],c.trans e⟩;refine dl m (dl (cO d rfl) (iY dD _ (λa e=>Ju i _ _ a (e.cell j)) ⟨λb=>?_,λb=>?_⟩));refine dl n (dl (cO d rfl) (dl (cO d rfl) (iY dD _ (λa e=>Jv i _ _ _ a (e.cell j)) λa e=>⟨_,rfl,?_,c.trans e⟩)));have b:H.tries<=x.tries:=fx b;simp[gY,f,g,b];refineλa e=>⟨_,rfl,?_,c.trans e⟩;have b:¬H.tries<=x.tries:=ie b;simp[gY,f,g,b]
section
variable{w:cJ}{k:cK->cJ->Prop}{t:cR}{x y:dU}
def lQ{n:Nat}(b:0<n)(c:m<=1000000000)(h:k (.int .i64 ((m/n:Nat):Int)) w):jO V.prog (do eqGuard .quo t x y (.int .i64 m) (.int .i64 n);binOp .quo t (.int .i64 m) (.int .i64 n)) w k:=by
 refine⟨_,w,?_,h⟩;show Sem.run jV (Op.intDiv .quo .i64 m n) w=_;unfold Op.intDiv;rw[cS cM];have a:(m:Int).tdiv n=((m/n:Nat):Int):=by rw[Int.tdiv_eq_ediv_of_nonneg cM];simp
 have d:m/n<=m:=Nat.div_le_self _ _;rw[a];simp only[Sem.run_pure];generalize m/n=q at*;rw[IntWalk.i64_in _ cM]
def tx{n:Nat}(b:0<n)(h:k (.int .i64 ((m%n:Nat):Int)) w):jO V.prog (do eqGuard .rem t x y (.int .i64 m) (.int .i64 n);binOp .rem t (.int .i64 m) (.int .i64 n)) w k:=by
 refine⟨_,w,?_,h⟩;show Sem.run jV (Op.intDiv .rem .i64 m n) w=_;unfold Op.intDiv;rw[cS cM];have a:(m:Int).tmod n=((m%n:Nat):Int):=by rw[Int.tmod_eq_emod_of_nonneg cM];simp
 simp only[a,Sem.run_pure]
def zC{t:cR}(n:Nat)(a:i<n)(h:k (.pointer (some ⟨m,o+i,none⟩)) w)(b:ty t=some ⟨2,n,1,n⟩:=by rfl):jO V.prog (Instr.indexAt t (.pointer (some ⟨m,o,none⟩)) (.int .i64 (i:Nat))) w k:=vm i n a h rfl b
def jy{t:cR}{b:eH}{c:cR}(a:dP)(d:w.heap[m]? =some (.cells b c))(e:∀j v,a[j]? =some v->b[o+j]? =some v)(f:G3 t=some true:=by rfl)(g:PK t=some a.length:=by rfl):Sem.run V.prog (loadVar t ⟨m,o,none⟩) w=.ok (.agg a.toArray) w:=by
 have h:=run_loadCells_list (P:=jV) w (dt m o) a λj v i=>by rw[iq];exact cO d (e j v i)
 simp only[loadVar,Sem.run_bind,AF f,Ev g,Result.andThen_ok,em,h,Sem.run_pure]
end
def ef(c:eH)(a:dP)(h:c.size=a.length):ir c 0 a=a.toArray:=by apply Ot;intro j;rw[oT a c 0 j cM,dn,Nat.sub_zero];have e:a.toArray[j]? =a[j]? :=dq;rw[e];split;rfl;rename_i b;have b:a.iw<=j:=Nat.le_of_not_lt λd=>b ⟨gh _,d⟩;rw[Uj b];exact vM (by rw[h];exact b)
def px(x:Sx)(d:Nat):Bool:=if d=0 then x.d0 else if d=1 then x.d1 else x.d2
def ik(x:Sx)(a:Nat)(b:Bool):Sx:=⟨x.tries+1,if a%2=0 then x.mornings+1 else x.mornings,if a%2=0 then x.evenings else x.evenings+1,x.opened||b,if a/2=0 then true else x.d0,if a/2=1 then true else x.d1,if a/2=2 then true else x.d2,x.left⟩
def CW(x:Sx)(b:Nat)(u:Bool)(w:cJ)(W:b<6)(Y:(0<=x.tries/\x.tries<=1000000)/\(0<=x.mornings/\x.mornings<=1000000)/\0<=x.evenings/\x.evenings<=1000000):
 Calls V.prog 158 #[.agg (nI x).toArray,.int .i64 b,.bool u] w (fO λv N=>v=.agg (nI (ik x b u)).toArray/\Ext w N):=by
 refine jd Tryz.func158 Tryz.ntmps158 ?_;refine eJ λZ E F d f=>eU λw2 y G z h=>?_;have g:=G.at_ f;have s:¬(y=E):=iI (dA.lt_of_heap f);refine cP (cO g rfl) (cY (dI g λw3 H c=>?_));have i:=H.fN h s;refine tx (m:=b) (n:=2) cM (eZ ?_);have⟨X,I⟩:=ju (ik x b u);rw[<-I];obtain rfl|rfl|rfl|rfl|rfl|rfl:b=0\/b=1\/b=2\/b=3\/b=4\/b=5:=cM;all_goals
  first
  |refine ko rfl (cP (cO c rfl) (cY (dI c λJ A e=>?_)))
  |refine kZ rfl (cP (cO c rfl) (cY (dI c λJ A e=>?_)))
  have k:=A.fN i s;have O:Ext w J:=((F.trans G).cT H d).cT A d;refine cP (cO e rfl) ⟨λK=>?_,λK=>?_⟩;all_goals
   refine dI e λw5 L l=>?_;have o:=L.fN k s;have P:=O.cT L d;refine lQ (n:=2) cM cM (zC 3 kg (dI l λQ M p=>?_));have q:=M.fN o s;have R:=P.cT M d;have B:Q.heap[E]? =some (.cells (nI X).toArray 166):=p.trans (by rw[I];simp[ir,nI,ik,K,Value.cells]);refine ez (vs:=nI X) (λj v C=>by rw[dn];exact cO B (fB C)) (dI q λt S r=>?_);have D:t.heap[y]? =some (.cells (nI X).toArray 166):=r.trans (dH (λa=>some (Obj.cells a 166)) (ef (pJ 166).toArray (nI X) rfl));have T:Sem.run V.prog (loadVar 166 (dt y 0)) t=.ok (.agg (nI X).toArray) t:=jy (nI X) D λj v C=>by rw[dn];simpa using C
   have U:Ext w t:=R.cT S (du F.size z);clear f g c e l p h i k o q r;refine⟨.agg (nI X).toArray,T,?_⟩;exact⟨_,rfl,rfl,U⟩
def vq(w:cJ)(a:dW)(xs:List Sx):Prop:=∀k (h:k<xs.length),∃b o,a=some ⟨b,o,none⟩/\∀j v,(nI xs[k])[j]? =some v->w.cell? ⟨b,o+k*8+j,none⟩=some v
def vq.ext{w c:cJ}{xs:List Sx}(h:vq w a xs)(e:Ext w c):vq c a xs:=λk d=>by have⟨b,o,f,g⟩:=h k d;exact⟨b,o,f,λj v i=>e.cell (g j v i)⟩
structure mE(wp gp mk ms:Nat)(G:Gd)(xs:List Sx)(before:Int)(w:cJ):Prop where
 g:qE gp mk ms G w
 len:xs.length=G.doors.length
 bf:0<=before/\before<=5
 at_:∃sa sc,w.cell? ⟨wp,0,none⟩=some (.pointer (some ⟨gp,0,none⟩))/\w.cell? ⟨wp,1,none⟩=some (.slice sa xs.length sc)/\w.cell? ⟨wp,2,none⟩=some (.int .i64 before)/\vq w sa xs
section
variable{wp gp mk ms:Nat}{G:Gd}{xs:List Sx}{before:Int}{w:cJ}
theorem mE.ext{a:cJ}(h:mE wp gp mk ms G xs before w)(e:Ext w a):mE wp gp mk ms G xs before a:=by have⟨b,c,d,f,i,j⟩:=h.at_;exact⟨h.g.ext e,h.len,h.bf,b,c,e.cell d,e.cell f,e.cell i,j.ext e⟩
def qU(G:Gd)(before a:Int):Int:=if kT a 0 (2*G.days-1)then(if a<before then 5 else 0)else 3
def S8(h:mE wp gp mk ms G xs before w)(a:Int):Calls V.prog 153 #[.pointer (some ⟨wp,0,none⟩),.int .i64 a] w (fO λv d=>v=.int .i64 (qU G before a)/\d=w):=by have⟨i,j,e,k,f,l⟩:=h.at_;refine jd Tryz.func153 Tryz.ntmps153 ?_;refine cP e (dF (last_at h.g) (dF (fw _ _ _ _) (eK ⟨λb=>?_,λb=>?_⟩)));exact⟨_,rfl,by simp at b;simp[qU,b],rfl⟩;simp at b;refine cP f (dN ⟨λc=>?_,λc=>?_⟩);exact⟨_,rfl,by simp[qU,b,fx c],rfl⟩;exact⟨_,rfl,by simp[qU,b,ie c],rfl⟩
def qp(T:Int)(xs:List Sx)(k:Nat):cN:=(List.range k).filter λd=>match xs[d]? with
 |some x=>!gY T x
 |none=>false
def dJ(T:Int)(xs:List Sx):cN:=qp T xs xs.length
def yz(T:Int)(xs:List Sx)(k:Nat)(a:k<xs.length):qp T xs (k+1)=if gY T xs[k]then qp T xs k else qp T xs k++[k]:=by unfold qp;rw[nq,List.filter_append];cases h:gY T xs[k]<;>simp[h,ft a]
def vt(T:Int)(xs:List Sx)(k:Nat):(qp T xs k).length<=k:=by
 have:=List.length_filter_le (λd=>match xs[d]? with
  |some x=>!gY T x
  |none=>false) (List.range k)
 simpa[qp]using this
def EC(h:mE wp gp mk ms G xs before w):Calls V.prog 119 #[.pointer (some ⟨wp,0,none⟩)] w (fO λv c=>Ext w c/\eO w.heap.size c v (dJ G.tries xs)):=by have⟨C,D,E,F,S,H⟩:=h.at_;have T:=h.g.vL.many;have U:=h.len;refine jd Tryz.func119 Tryz.ntmps119 ?_;refine cP F (dm (jK (n:=xs.length) (λk v=>[(0,dQ wp),(3,v),(9,.slice C xs.length D),(10,i64 xs.length),(11,i64 k)]) (λk v c=>Ext w c/\eO w.heap.size c v (qp G.tries xs k)) (fo) ⟨by trivial,Ext.refl _,dg.nil _ _ _ _⟩ ?_ ?_ ?_));rintro k v c m ⟨e,f⟩;exact dN ⟨rfl,rfl,by trivial,e,f⟩;rintro k v c m ⟨e,f⟩;obtain⟨b,o,rfl,I⟩:=(H.ext e) k m;have x:=vt G.tries xs k;refine fH k 8 m (ez (vs:=nI xs[k]) I (eU λW J K r L=>dI L λy M p=>?_));have i:Ext c y:=K.cT M r;have s:y.heap[J]? =some (.cells (nI xs[k]).toArray 166):=p.trans (dH (λa=>some (Obj.cells a 166)) (ef (pJ 166).toArray (nI xs[k]) rfl));have N:=(h.g.ext e).ext i;clear p;refine dE dD (dl (i.cell (e.cell E)) (dx (.agg (nI xs[k]).toArray) (λz d=>ez (vs:=nI xs[k]) (λj v O=>by rw[dn];exact cO (d.at_ s) (fB O)) fL) (il (.bool (gY G.tries xs[k])) (λz d=>zB (N.ext d) xs[k]) (mQ λz d=>⟨λl=>?_,λl=>?_⟩))));have l:gY G.tries xs[k]=false:=fB l;have A:=(e.trans i).trans d;refine er [Value.int .i64 k] 3 λX P q B t=>hH oR (((f.ext i).ext d).ext q) (du A.size q.size) t cM λQ Y u R _=>cY ⟨Q,by trivial,(A.trans q).iZ R (((f.ext i).ext d).ext q) (di _),?_⟩;rw[yz _ _ _ m,l];simpa[eO,gA]using u;have l:gY G.tries xs[k]=true:=fB l;refine cY ⟨v,by trivial,(e.trans i).trans d,?_⟩;rw[yz _ _ _ m,l];exact(f.ext i).ext d;rintro v c ⟨e,f⟩;exact⟨_,rfl,e,f⟩
end
def rM(s:Nat):dP:=[.bool (s.testBit 0),.bool (s.testBit 1),.bool (s.testBit 2),.bool (s.testBit 3),.bool (s.testBit 4)]
def ED(l:cN)(d:Nat):Bool:=l.contains d
def PT(l:cN):dP:=[.bool (ED l 0),.bool (ED l 1),.bool (ED l 2),.bool (ED l 3),.bool (ED l 4)]
def MS:∀s:Nat,s<32->∀d:Nat,d<5->ED (eh s) d=s.testBit d:=by decide+kernel
def PU(s:Nat)(d:Nat)(h:d∈eh s):d<5:=by have:=(py.1 h).1;simpa using this
def MT(s:Nat)(w:cJ)(L:s<32):Calls V.prog 174 #[.int .u8 s] w (fO λv e=>v=.agg (rM s).toArray/\Ext w e):=by
 refine jd Tryz.func174 Tryz.ntmps174 ?_;refine eU λw1 y M A N=>eU λO g P S i=>cX (ww s O L) λv T z=>?_;have⟨B,z⟩:=z;obtain⟨a,c,rfl,m,_⟩:=z.row;have C:=B.at_ (P.at_ N);have U:¬(y=g):=iI (dA.lt_of_heap N);have Q:(eh s).length<=5:=lZ s 5;have D:∀b o,a=some (dt b o)->O.heap.size<=b:=λb o h=>by obtain⟨_,⟨_,f⟩|⟨b',c',cs,h1,f,_⟩⟩:=z;injection f with f;rw[f]at h;cases h;injection f with f;rw[f]at h;have:=dH Addr.block (dT h);simp at this;omega
 have W:=dA.lt_of_heap i;refine dm (fu (n:=(eh s).length) (λk=>[(2,dQ y),(3,dQ g),(7,.slice a (eh s).length c),(8,i64 (eh s).length),(9,i64 k)]) (λk e=>dz (λx=>x=g) T e/\e.heap[g]? =some (.cells (PT ((eh s).take k)).toArray 217)) ⟨by trivial,dz.refl _ _,B.at_ i⟩ ?_ ?_ ?_);rintro k e p X;exact dN ⟨rfl,rfl,by trivial,X⟩
 ·rintro k e p ⟨q,r⟩;obtain⟨b,o,rfl,Y⟩:=m k p;have R:(eh s)[k]<5:=PU s _ (eG p);have E:¬(b=g):=iI (D b o rfl);refine eX k p (cP (q.fe Y E) (vm (eh s)[k] 5 R (jw r (by simp[Value.cells,PT];omega) (λt F G=>cY ⟨by trivial,q.trans F (λ_ _ h=>h) λ_ _ h=>h,?_⟩) (by simp[Value.cells,Value.oneCell']))));refine G.trans (dH (λa=>some (Obj.cells a 217)) ?_);rw[iT p];generalize (eh s)[k]=d at R;generalize (eh s).take k=l;have Z:∀j,ED (l++[d]) j=(ED l j||decide (j=d)):=λj=>by simp[ED,List.contains_eq_mem,jQ,Bool.decide_or]
  obtain rfl|rfl|rfl|rfl|rfl:d=0\/d=1\/d=2\/d=3\/d=4:=cM;all_goals simp[PT,Z,ir,Value.cells]
 rintro e ⟨q,r⟩;have H:=q.fN C U;rw[j5]at r;have I:PT (eh s)=rM s:=by simp[PT,rM,MS s L]
 rw[I]at r;refine ez (vs:=rM s) (λj v J=>by rw[dn];exact cO r (fB J)) (dI H λt F u=>?_);have K:t.heap[y]? =some (.cells (rM s).toArray 217):=u.trans (dH (λa=>some (Obj.cells a 217)) (ef (pJ 217).toArray (rM s) rfl));have hl:Sem.run V.prog (loadVar 217 (dt y 0)) t=.ok (.agg (rM s).toArray) t:=jy (rM s) K λj v J=>by rw[dn];simpa using J
 have e5:Ext w t:=(((M.trans P).trans B).cT q (iI M.size)).cT F A;clear u;refine⟨.agg (rM s).toArray,hl,?_⟩;exact⟨_,rfl,rfl,e5⟩
section
variable{w:cJ}{k:cK->cJ->Prop}
def iP(w:cJ)(a:dW)(c:dP):Prop:=c=[]\/∃b o,a=some ⟨b,o,none⟩/\∀j u,c[j]? =some u->w.cell? ⟨b,o+j,none⟩=some u
def iP.ext{w c:cJ}{d:dP}(h:iP w a d)(e:Ext w c):iP c a d:=by obtain h|⟨b,o,f,g⟩:=h;exact .inl h;exact .inr ⟨b,o,f,λj u i=>e.cell (g j u i)⟩
def wx{b:dP}(c:IA T U b){x y:dU}(h:k (.bool a.isNone) w):jO V.prog (do eqGuard .eql T x y (.slice a m i) (.slice none 0 0);binOp .eql T (.slice a m i) (.slice none 0 0)) w k:=by have d:=Go.Lib.run_eql_slice_nil (P:=jV) w T U a m i 0 0 c.1;refine⟨_,w,?_,h⟩;go_simp
def MU{zs:dP}{w:cJ}(b:m<=i)(c:w.heap[i]? =some (.cells #[] T)):dg m T zs w (.slice (some ⟨i,0,none⟩) 0 0) 0 []:=
 ⟨dq,.inr ⟨i,0,_,b,rfl,c,dq,di _,kg,λj a=>by simp at a,λj _ a=>by simp at a⟩⟩
def n5{e:cR}{zs:dP}{x:Array Bool}(g:IA T e zs){n0 n:Nat}{w:cJ}{us:dP}(t:w.heap[n]? =some (.cells #[] e))(y:n0<=n)(p:us.length=m*zs.length)(q:iP w a us)(A:∀u∈us,u.oneCell'=true)(v:m<=1000000) (r:∀l d,dg n0 e zs d l m us->(∀W,Ext W w->W.heap.size<=n0->Ext W d)->k l d):zd V.prog (builtin .append #[T,T] U x #[.slice (some ⟨n,0,none⟩) 0 0,.slice a m i]) w k:=by
 have c:=MU (zs:=zs) y t;have f:0<zs.length:=by have⟨_,G,z,_,_,_,_,_,h⟩:=g;exact h
 have B:=dA.lt_of_heap t;obtain rfl|⟨b,o,rfl,q⟩:=q;obtain rfl:m=0:=by obtain h|h:=nt m;exact h;have:=Nat.mul_pos h f;simp at p;omega
 exact wq g (di _) (r _ _ c λW h _=>h);obtain rfl|s:=nt m;obtain rfl:us=[]:=fB p;exact wq g (di _) (r _ _ c λW h _=>h);exact Ew g c cM p s (λj u C=>by rw[iq];exact q j u C) A cM λl d D E _=>r l d (fB D) λW h F=>h.iZ E c F
end
def PV:IA 139 166 (pJ 166):=⟨eE,Tryz.t166,_,eE,rfl,eE,eE,by decide+kernel,kg⟩
def zD(f:dZ)(e:cR)(d:dP):Prop:=∀(a:dW) (l c:Nat) (b:dP) (w:cJ),b.length=l*d.length->(a=none->l=0)->iP w a b->(∀u∈b,u.oneCell'=true)->l<=1000000->Calls V.prog f #[.slice a l c] w (fO λv g=>Ext w g/\dg w.heap.size e d g v l b)
def PW:zD 128 3 [.int .i64 0]:=by intro a l c g w e i j k b;refine jd Tryz.func128 Tryz.ntmps128 ?_;refine wx oR ⟨λh=>?_,λh=>er [] 3 λp q f d m=>n5 oR m d e (j.ext f) k b λr s n o=>⟨_,rfl,o w f (di _),n⟩⟩;obtain rfl:=i (fB h);obtain rfl:g=[]:=fB e;exact⟨_,rfl,Ext.refl _,dg.nil _ _ _ _⟩
def VA:IA 26 29 [.int .i64 0,.slice none 0 0]:=⟨eE,Tryz.t29,_,eE,rfl,eE,eE,by decide+kernel,kg⟩
def PX:IA 222 154 [.int .u8 0]:=⟨eE,Tryz.t154,_,eE,rfl,eE,eE,by decide+kernel,kg⟩
def PY:zD 154 166 (pJ 166):=by intro a l c g w e i j k b;refine jd Tryz.func154 Tryz.ntmps154 ?_;refine wx PV ⟨λh=>?_,λh=>er [] 166 λp q f d m=>n5 PV m d e (j.ext f) k b λr s n o=>⟨_,rfl,o w f (di _),n⟩⟩;obtain rfl:=i (fB h);obtain rfl:g=[]:=fB e;exact⟨_,rfl,Ext.refl _,dg.nil _ _ _ _⟩
def PZ:zD 155 29 [.int .i64 0,.slice none 0 0]:=by intro a l c g w e i j k b;refine jd Tryz.func155 Tryz.ntmps155 ?_;refine wx VA ⟨λh=>?_,λh=>er [] 29 λp q f d m=>n5 VA m d e (j.ext f) k b λr s n o=>⟨_,rfl,o w f (di _),n⟩⟩;obtain rfl:=i (fB h);obtain rfl:g=[]:=fB e;exact⟨_,rfl,Ext.refl _,dg.nil _ _ _ _⟩
def P0:zD 199 154 [.int .u8 0]:=by intro a l c g w e i j k b;refine jd Tryz.func199 Tryz.ntmps199 ?_;refine wx PX ⟨λh=>?_,λh=>er [] 154 λp q f d m=>n5 PX m d e (j.ext f) k b λr s n o=>⟨_,rfl,o w f (di _),n⟩⟩;obtain rfl:=i (fB h);obtain rfl:g=[]:=fB e;exact⟨_,rfl,Ext.refl _,dg.nil _ _ _ _⟩
theorem fJ.cells{w:cJ}{a:dW}{l:cN}(h:fJ w a l):iP w a (gA l):=by
 obtain _|⟨x,r⟩:=l;exact .inl rfl;obtain⟨b,o,rfl,_⟩:=h 0 dq;refine .inr ⟨b,o,rfl,λj u d=>?_⟩;have c:j<(x::r).iw:=by simpa[gA]using(nk.1 d).1
 have⟨f,g,e,i⟩:=h j c;obtain⟨rfl,rfl⟩:b=f/\o=g:=by injection e with e;injection e with k m;exact⟨k,m⟩
 rw[i];have:(gA (x::r))[j]? =some (i64 ((x::r)[j]:Nat)):=by simp only[gA,yf,ft c];rfl
 rw[this]at d;exact d
def fJ.tz(h:fJ w none l):l.length=0:=by obtain _|⟨x,r⟩:=l;rfl;have⟨b,o,e,_⟩:=h 0 dq;cases e
def wz(l:cN):∀u∈gA l,u.oneCell'=true:=λu a=>by obtain⟨n,_,rfl⟩:=kJ.1 a;rfl
def mV(h:fJ w a l)(b:l.length<=1000000):Calls V.prog 128 #[.slice a l.length m] w (fO λv c=>Ext w c/\eO w.heap.size c v l):=
 PW a l.iw m (gA l) w (by simp[gA]) (λe=>by subst e;exact h.tz) h.cells (wz l) b
def xx(w:cJ)(a:dW)(c:List cN):Prop:=∀k (h:k<c.length),∃b o d e,a=some ⟨b,o,none⟩/\w.cell? ⟨b,o+k,none⟩=some (.slice d c[k].length e)/\fJ w d c[k]/\c[k].length<=e
theorem xx.ext{c:List cN}(h:xx w a c)(e:Ext w t):xx t a c:=λk d=>by have⟨b,o,f,g,i,j,l,m⟩:=h k d;exact⟨b,o,f,g,i,e.cell j,l.ext e,m⟩
def fh(c:Nat)(w:cJ)(v:cK)(a:List cN):Prop:=∃b:dP,dg c 27 [.slice none 0 0] w v a.length b/\b.length=a.length/\∀k (h:k<a.length),∃u,b[k]? =some u/\eO c w u a[k]
theorem fh.ext{a:List cN}(h:fh m w x a)(e:Ext w t):fh m t x a:=by have⟨b,c,d,f⟩:=h;refine⟨b,c.ext e,d,λk g=>?_⟩;have⟨u,i,j⟩:=f k g;exact⟨u,i,j.ext e⟩
theorem fh.row{d:List cN}(h:fh m w x d):∃a c,x=.slice a d.length c/\xx w a d/\d.length<=c:=by obtain⟨t,⟨v,⟨g,rfl⟩|⟨b,c,y,z,rfl,i,A,j,B,l,C⟩⟩,D,e⟩:=h;exact⟨none,0,by rw[g],λk f=>cM,cM⟩;refine⟨_,c,rfl,λk f=>?_,j⟩;have⟨u,n,o⟩:=e k f;obtain⟨p,q,rfl,r,s⟩:=o.row;exact⟨b,0,p,q,rfl,cO i (by rw[dn,l k cM];exact n),r,s⟩
def iB{g d:dP}(h:dg m i M w x o g)(l:dg k j Y w y p d)(n:i≠j)(b:Nat)(q:cW x b):¬cW y b:=λf=>by obtain⟨_,_,rfl⟩:=q;obtain⟨_,_,rfl⟩:=f;obtain⟨_,⟨_,e⟩|⟨t,_,u,_,e,r,_⟩⟩:=h;cases e;obtain⟨_,⟨_,c⟩|⟨v,_,s,_,c,a,_⟩⟩:=l;cases c;injection e with e;injection c with c;have e:=dH Addr.block (dT e);have c:=dH Addr.block (dT c);simp only at e c;subst e;subst c;rw[r]at a;injection a with a;injection a with _ a;exact n a
def S9{r:nu}{u:Array Bool}{b:List cN}(h:fh m w x b)(n:m<=w.heap.size)(o:eO m w y l)(v:w.heap[k]? =some (.cells [y].toArray 27))(c:b.length+1<=1000000) (z:∀g d,fh m d g (b++[l])->(∀W,Ext W w->W.heap.size<=m->Ext W d)->r g d):zd V.prog (builtin .append #[66,66] T u #[x,.slice (some ⟨k,0,none⟩) 1 i]) w r:=by
 have⟨A,j,s,B⟩:=h;have e:y.oneCell'=true:=by obtain⟨a,i,rfl,_⟩:=o.row;rfl
 refine hH Jw j n v c (λg d C p J=>z g d ⟨A++[y],fB C,by simp[s],λq D=>?_⟩ λW E F=>E.iZ p j F) rfl (by simp[sB,e]);obtain f|G:=gC q b.length;have⟨H,I,t⟩:=B q f;refine⟨H,by rw[yd cM];exact I,?_⟩;rw[nm f];exact t.keep p (iB t j kg);obtain rfl:q=b.length:=by simp at D;omega
 refine⟨y,by rw[ye cM];simp[s],?_⟩;simp only[se (di _),lJ,nO];exact o.keep p (iB o j kg)
def eO.low(h:eO m w x l)(f:k<=m):eO k w x l:=by obtain⟨a,h|⟨b,c,d,g,e⟩⟩:=h;exact⟨a,.inl h⟩;exact⟨a,.inr ⟨b,c,d,cM,e⟩⟩
def Jy(a:List cN)(i:dW)(m:Nat)(w:cJ)(q:xx w i a)(p:a.length<=100000)(r:∀l∈a,l.length<=100000):Calls V.prog 131 #[.slice i a.length m] w (fO λv c=>Ext w c/\fh w.heap.size c v a):=by refine jd Tryz.func131 Tryz.ntmps131 ?_;refine dm (jK (n:=a.length) (λk v=>[(3,v),(6,.slice i a.length m),(7,i64 a.length),(8,i64 k)]) (λk v c=>Ext w c/\fh w.heap.size c v (a.take k)) (fo) ⟨by trivial,Ext.refl _,[],dg.nil _ _ _ _,rfl,λk d=>by simp at d⟩ ?_ ?_ ?_);rintro k v c d ⟨e,f⟩;exact dN ⟨rfl,rfl,by trivial,e,f⟩;rintro k v c d ⟨e,f⟩;obtain⟨b,o,C,D,rfl,s,t,_⟩:=(q.ext e) k d;refine eX k d (cP s (cX (mV t (iI (r _ (eG d)))) λu E g=>?_));have⟨j,g⟩:=g;refine er [u] 27 (λF G h x y=>S9 ((f.ext j).ext h) (by have:=e.size;have:=j.size;have:=h.size;omega) ((g.low e.size).ext h) y rp λz H A B=>cY ⟨z,by trivial,B w ((e.trans j).trans h) (di _),?_⟩) ?_;rw[iT d];exact A;obtain⟨I,J,rfl,_⟩:=g.row;intro w;kernel_rfl;rintro v c ⟨e,f⟩;rw[j5]at f;exact⟨_,rfl,e,f⟩
def fc{p:Type}(n:Nat){d:Code}{l:L}{Q:QW}(i:Nat->p->L)(J:Nat->p->dC)(q:p)(u:Sub (i 0 q) l/\J 0 q w)
 (f:∀b s w,b<=n->J b s w->WC V.prog Fz m d (λe v x=>match e with
  | .normal=>b<n/\∃o,Sub (i (b+1) o) v/\J (b+1) o x
  |e=>jW k Q e v x) (i b s) w):dX V.prog m (Code.block k (Code.loop d)) l w Q:=by
 refine⟨λa r=>?_⟩;refine wp_block<|nY (λj a w=>∃b s,b<=n/\j=n-b/\Fr m (i b s) a/\J b s w) n ⟨0,q,gh _,cM,r.sub u.1,u.2⟩ ?_;rintro j a w ⟨b,s,y,rfl,r,z⟩;refine lL (jr dB _ _ _ a w r (f b s w y z)) ?_;rintro e E F ⟨t,c,h⟩;cases e with
 |normal=>
  have⟨A,o,B,C⟩:=h;exact⟨n-(b+1),cM,b+1,o,cM,rfl,c.sub B,C⟩
 |exit j=>
  simp only[Exit.then,Exit.inBlock];by_cases g:j=k;subst g;rw[cV rfl];simp only[jW,Cp]at h;exact⟨t,c,h⟩;rw[cS g];have:Nat.beq j k=false:=by
   cases D:Nat.beq j k with
   |false=>rfl
   |true=>exact absurd (nQ D) g
  simp only[jW,this]at h;exact⟨t,c,h⟩
 |_=>exact⟨t,c,h⟩
def AL(l a:eY)(n f:dW)(r i:Nat)(w:cJ)(x:iF w n l)(p:iF w f a)(s:l.length<=100000):
 Calls V.prog 58 #[.slice n l.length r,.slice f a.length i] w (fO λv m=>v=.bool (decide (l=a))/\Ext w m):=by
 refine jd Tryz.func58 Tryz.ntmps58 ?_;refine dm (dm (gP ⟨λh=>?_,λh=>?_⟩));have h:¬l=a:=λe=>by subst e;simp at h
 exact⟨_,rfl,by simp[h],Ext.refl _⟩;have h:l.length=a.length:=by simp at h;omega
 refine fc l.length (λk (_:Unit)=>[(0,.slice n l.length r),(1,.slice f a.length i),(5,i64 k)]) (λk _ m=>Ext w m/\l.take k=a.take k) () ⟨by trivial,Ext.refl _,dq⟩ ?_;rintro k _ m C ⟨e,t⟩;refine dm (dN ⟨λc=>?_,λj=>?_⟩);have c:k<l.length:=fB c;have d:k<a.length:=cM;obtain⟨b,o,rfl,y⟩:=x k c;obtain⟨D,E,rfl,q⟩:=p k d;refine dE dD (gl k c (dl (e.cell y) (gl k d (dl (e.cell q) (UF λF u=>⟨λg=>?_,λg=>?_⟩)))));have g:¬l[k]=a[k]:=fx g;have:¬l=a:=λe=>by subst e;exact g rfl
 exact⟨_,rfl,by simp[this],e.trans u⟩;have g:l[k]=a[k]:=fB g;refine cY ⟨c,(),by trivial,e.trans u,?_⟩;rw[iT c,iT d,t,g];have j:¬k<l.length:=fB j;have z:k=l.length:=cM;have:l=a:=by have A:l.take k=l:=yg cM;have B:a.take k=a:=yg cM;rw[<-A,<-B,t]
 exact⟨_,rfl,by simp[this],e⟩
def Tb:nS l=nS f↔l=f:=by
 constructor;intro h;induction l generalizing f with
 |nil=>cases f with
  |nil=>rfl
  |cons x r=>simp[nS]at h
 |cons x r a=>cases f with
  |nil=>simp[nS]at h
  |cons y s=>
   simp only[nS,kI,Cn]at h;rw[a h.2,show x=y by omega]
 rintro rfl;rfl
def rN(l b:cN)(e a:dW)(g c:Nat)(w:cJ)(h:fJ w e l)(f:fJ w a b)(d:l.length<=100000):
 Calls V.prog 58 #[.slice e l.length g,.slice a b.length c] w (fO λv i=>v=.bool (decide (l=b))/\Ext w i):=by
 have:=AL (nS l) (nS b) e a g c w h.ints f.ints (by simpa[nS]using d);have j:(nS l).length=l.length:=by simp[nS]
 have k:(nS b).length=b.length:=by simp[nS]
 rw[j,k]at this;simpa only[Tb]using this
def G9(l a:List cN)(q i:dW)(y j:Nat)(w:cJ)(C:xx w q l)(r:xx w i a)(z:l.length<=100000)(s:∀x∈l,x.length<=100000):
 Calls V.prog 71 #[.slice q l.length y,.slice i a.length j] w (fO λv p=>v=.bool (decide (l=a))/\Ext w p):=by
 refine jd Tryz.func71 Tryz.ntmps71 ?_;refine dm (dm (gP ⟨λh=>?_,λh=>?_⟩));have h:¬l=a:=λe=>by subst e;simp at h
 exact⟨_,rfl,by simp[h],Ext.refl _⟩;have h:l.length=a.length:=by simp at h;omega
 refine fc l.length (λk (_:Unit)=>[(0,.slice q l.length y),(1,.slice i a.length j),(5,i64 k)]) (λk _ p=>Ext w p/\l.take k=a.take k) () ⟨by trivial,Ext.refl _,dq⟩ ?_;rintro k _ p I ⟨e,A⟩;refine dm (dN ⟨λd=>?_,λm=>?_⟩);have d:k<l.length:=fB d;have f:k<a.length:=cM;obtain⟨b,o,x,c,rfl,D,g,_⟩:=(C.ext e) k d;obtain⟨J,K,E,F,rfl,t,u,_⟩:=(r.ext e) k f;refine dE dD (gl k d (dl D (gl k f (dl t (il (.bool (decide (l[k]=a[k]))) (λB n=>rN l[k] a[k] x E c F B (g.ext n) (u.ext n) (s _ (eG d))) (mQ λB n=>⟨λg=>?_,λg=>?_⟩))))));have g:¬l[k]=a[k]:=fB g;have:¬l=a:=λe=>by subst e;exact g rfl
 exact⟨_,rfl,by simp[this],e.trans n⟩;have g:l[k]=a[k]:=fB g;refine cY ⟨d,(),by trivial,e.trans n,?_⟩;rw[iT d,iT f,A,g];have m:¬k<l.length:=fB m;have:l=a:=by have G:l.take k=l:=yg cM;have H:a.take k=a:=yg cM;rw[<-G,<-H,A]
 exact⟨_,rfl,by simp[this],e⟩
structure zj(w:cJ)(gp mk ms:Nat)(G:Gd)(w':cJ):Prop where
 g:qE gp mk ms G w'
 lo:w.heap.size<=gp/\w.heap.size<=mk/\w.heap.size<=ms
 km:w'.heap[mk]? =some (.map #[] 0)
 sm:w'.heap[ms]? =some (.map #[] 0)
theorem zj.ext{gp mk ms:Nat}(h:zj w gp mk ms H t)(a:Ext t e):zj w gp mk ms H e:=⟨h.g.ext a,h.lo,a.at_ h.km,a.at_ h.sm⟩
def zj.low{gp mk ms:Nat}(h:zj w gp mk ms H e)(a:Ext t w):zj t gp mk ms H e:=⟨h.g,Cq a.size h.lo,h.km,h.sm⟩
def CX{dc:Nat}(h:gZ w a H.doors)(b:H.doors.length<=100000):
 Calls V.prog 144 #[gV H a dc] w (fO λv d=>Ext w d/\((eo H≠0/\v=.tuple #[.pointer none,.int .i64 (eo H)])\/(eo H=0/\∃c mk f,v=.tuple #[.pointer (some ⟨c,0,none⟩),.int .i64 0]/\zj w c mk f H d))):=by
 refine(MP H a dc w h b).mono ?_;rintro e d ⟨v,rfl,i,j⟩;refine⟨v,rfl,i,j.imp id ?_⟩;rintro⟨k,c,mk,f,l,m,n,o,p,q,g⟩;exact⟨k,c,mk,f,l,m,⟨n,o,p⟩,q,g⟩
def eF(c:w.heap[k]? =some (.cells (gL H a m).toArray 24)){b:nu}(h:b (gV H a m) w):jO V.prog (Instr.loadAt 24 (.pointer (some ⟨k,0,none⟩))) w b:=
 ez (vs:=gL H a m) (λj v d=>by rw[dn];exact cO c (fB d)) h
def AM{dc:Nat}(k:gZ w a H.doors)(b:H.doors.length<=100000){l:eY}{la:dW}{lc:Nat}(m:iF w la l)(n:l.length<=100000)(o:l.length<=lc):
 Calls V.prog 113 #[gV H a dc,.slice la l.length lc] w (fO λv i=>Ext w i/\((eo H≠0/\v=.tuple #[.pointer none,.int .i64 (eo H)])\/(eo H=0/\∃d mk f,v=.tuple #[.pointer (some ⟨d,0,none⟩),.int .i64 (je H.doors.length l)]/\zj w d mk f H i))):=by
 refine jd Tryz.func113 Tryz.ntmps113 ?_;refine eJ λr s c p q=>eF q (cX (CX (dc:=dc) (k.ext c) b) ?_);rintro v t ⟨h,⟨e,rfl⟩|⟨e,d,mk,f,rfl,j⟩⟩;exact gP (ko (fB e) ⟨_,rfl,c.trans h,.inl ⟨e,rfl⟩⟩);exact gP (kZ dq (dF (CV j.g (m.ext (c.trans h)) n o) ⟨_,rfl,c.trans h,.inr ⟨e,d,mk,f,rfl,j.low c⟩⟩))
def nT(G:Gd)(l:eY):Int:=if eo G=0 then je G.doors.length l else eo G
def oU(a b:Int):dP:=[.int .i64 a,.int .i64 b]
def pO{l:eY}(h:je m l=0):∃a:cN,l=nS a/\(∀d∈a,d<m):=by
 have e:∀(l b:eY),pN m b l=0->∃a:cN,l=nS a/\∀d∈a,d<m:=by
  intro l;induction l with
  |nil=>intro _ _;exact⟨[],rfl,λd c=>by cases c⟩
  |cons x r f=>
   intro b h;simp only[pN]at h;split at h;rename_i g;split at h;omega;have⟨a,i,j⟩:=f _ h;simp[kT]at g;refine⟨x.toNat::a,?_,λd c=>?_⟩;simp only[nS,kI,Cn];exact⟨cM,i⟩;obtain rfl|c:=fi.1 c;omega;exact j d c;omega
 exact e l [] h
def iF.Ha(h:iF w a (nS l)):fJ w a l:=λk c=>by have⟨b,o,d,e⟩:=h k (by simpa[nS]using c);exact⟨b,o,d,by rw[e];simp[nS]⟩
def xy(G:Gd)(l:eY):cK:=if nT G l=0 then .tuple #[.agg (oU (ji G (l.map Int.toNat)) (iA G (l.map Int.toNat))).toArray,.int .i64 0]else .tuple #[.agg (oU 0 0).toArray,.int .i64 (nT G l)]
def MV{dc:Nat}(G:gZ w a H.doors)(p:H.doors.length<=100000){l:eY}{la:dW}{lc:Nat}(C:iF w la l)(x:l.length<=100000)(I:l.length<=lc):
 Calls V.prog 44 #[gV H a dc,.slice la l.length lc] w (fO λv J=>v=xy H l/\Ext w J):=by
 refine jd Tryz.func44 Tryz.ntmps44 ?_;refine eJ λS T i K L=>eU λM D m N q=>eF (m.at_ L) (cX (AM (dc:=dc) (G.ext (i.trans m)) p (C.ext (i.trans m)) x I) ?_);have r:∀(n:cJ),Ext M n->nT H l≠0->∀k:dC,(∀d,Ext w d->Sem.run V.prog (loadVar 56 (dt D 0)) d=.ok (.agg (oU 0 0).toArray) d->k d)->Eo V.prog (Instr.storeAt 56 (dQ D) (.agg (oU 0 0).toArray)) n k:=λn e b k O=>
  dI (e.at_ q) λd P y=>O d (((i.trans m).trans e).cT P (iI i.size)) (jy (oU 0 0) y λj v z=>by rw[dn];show(oU 0 0).toArray[j]? =some v;simpa using z)
 rintro v n ⟨e,⟨o,rfl⟩|⟨o,U,mk,W,rfl,E⟩⟩;have b:nT H l=eo H:=by simp[nT,o]
 refine gP (ko (fB o) (eC (.agg (oU 0 0).toArray) (r n e (by rw[b];exact o) _ λd f A=>⟨_,A,_,rfl,?_,f⟩)));rw[xy,b,cS o];rfl;have b:nT H l=je H.doors.length l:=by simp[nT,o]
 refine gP ⟨λh=>?_,λh=>?_⟩;have h:¬je H.doors.length l=0:=fx h;refine eC (.agg (oU 0 0).toArray) (r n e (by rw[b];exact h) _ λd f A=>⟨_,A,_,rfl,?_,f⟩);rw[xy,b,cS h];rfl;have h:je H.doors.length l=0:=fB h;obtain⟨c,rfl,s⟩:=pO h;have Q:(nS c).length=c.length:=by simp[nS]
 have t:=((C.ext (i.trans m)).ext e).Ha;have u:(nS c).map Int.toNat=c:=by simp[nS,zK]
 rw[Q]at x⊢;refine ep (G8 E.g s x t) λd f=>ep (Ex (E.ext f).g s x (t.ext f)) λX F=>?_;refine eC (.agg (oU (ji H c) (iA H c)).toArray) (dI (F.at_ (f.at_ (e.at_ q))) λY R B=>⟨_,jy (oU (ji H c) (iA H c)) B λj v z=>by rw[dn];show(oU (ji H c) (iA H c)).toArray[j]? =some v;simpa using z,_,rfl,?_,?_⟩);rw[xy,b,cV h,u];rfl;exact(((i.trans m).trans e).trans (f.trans F)).cT R (iI i.size)
def P2:List Dr:=[⟨0,3,5⟩,⟨0,8,2⟩,⟨1,5,4⟩,⟨1,2,6⟩]
def gK:Gd:=⟨2,4,1,40,3,2,P2⟩
def MW{a:List Dr}(h:w.heap[m]? =some (.cells (a.flatMap dL).toArray T)):gZ w (some ⟨m,0,none⟩) a:=λk b=>by have⟨c,d,e⟩:=wu a k b;exact⟨m,0,rfl,cO h (by rw[dn];simpa using c),cO h (by rw[dn];simpa using d),cO h (by rw[dn];simpa using e)⟩
def P3(w:cJ):Calls V.prog 95 #[] w (fO λv k=>Ext w k/\∃b,w.heap.size<=b/\v=gV gK (some ⟨b,0,none⟩) 4/\k.heap[b]? =some (.cells (P2.flatMap dL).toArray 81)):=by
 refine jd Tryz.func95 Tryz.ntmps95 ?_;refine eU λr d l e m=>eC (.agg (dL ⟨0,3,5⟩).toArray) (eC (.agg (dL ⟨0,8,2⟩).toArray) (eC (.agg (dL ⟨1,5,4⟩).toArray) (eC (.agg (dL ⟨1,2,6⟩).toArray) (er (P2.flatMap dL) 81 λs b n t f=>?_))));refine eC (gV gK (pr b 0) 4) (dI (n.at_ m) λg o c=>?_);have h:g.heap[d]? =some (.cells (gL gK (pr b 0) 4).toArray 24):=c.trans (dH (λa=>some (Obj.cells a 24)) (ef (pJ 24).toArray (gL gK (pr b 0) 4) rfl));have p:Sem.run jV (loadVar 24 (dt d 0)) g=.ok (gV gK (pr b 0) 4) g:=jy (gL gK (pr b 0) 4) h λj v q=>by rw[dn];simpa using q
 clear c;have i:¬(b=d):=iI (dA.lt_of_heap m);refine⟨gV gK (pr b 0) 4,p,?_⟩;exact⟨_,rfl,(l.trans n).cT o e,b,iI l.size,rfl,o.fN f i⟩
structure Ty where
 door:Nat
 shift:Nat
 opened:Bool
def tL(t:Ty):dP:=[.int .i64 t.door,.int .i64 t.shift,.bool t.opened]
def P4:List Ty:=[⟨0,0,false⟩,⟨1,0,true⟩,⟨2,1,false⟩]
def MY(w:cJ):Calls V.prog 96 #[] w (fO λv c=>Ext w c/\∃b,w.heap.size<=b/\v=.slice (some ⟨b,0,none⟩) 3 3/\c.heap[b]? =some (.cells (P4.flatMap tL).toArray 84)):=by refine jd Tryz.func96 Tryz.ntmps96 ?_;exact eC (.agg (tL ⟨0,0,false⟩).toArray) (eC (.agg (tL ⟨1,0,true⟩).toArray) (eC (.agg (tL ⟨2,1,false⟩).toArray) (er (P4.flatMap tL) 84 λf b d e a=>⟨_,rfl,d,b,e,rfl,a⟩)))
def EE(b:Int)(a:dW)(l c:Nat)(w:cJ):Calls V.prog 97 #[.int .i64 b,.slice a l c] w (fO λv g=>v=.agg #[.int .i64 b,.slice a l c]/\Ext w g):=by
 refine jd Tryz.func97 Tryz.ntmps97 ?_;refine eU λp h i d k=>eC (.agg ([i64 b,.slice a l c]:dP).toArray) (dI k λf m e=>?_);have n:Sem.run jV (loadVar 29 (dt h 0)) f=.ok (.agg ([i64 b,.slice a l c]:dP).toArray) f:=jy _ e λj v o=>by rw[dn];show([i64 b,.slice a l c]:dP).toArray[j]? =some v;simpa using o
 exact⟨_,n,_,rfl,rfl,i.cT m d⟩
theorem xz:∀a:List Sx,(a.flatMap nI).length=a.length*8
 |[]=>rfl
 |x::r=>by have:=xz r;simp[nI,this];omega
theorem xA:∀(a:List Sx) (k:Nat) (b:k<a.length) (j:Nat) (v:cK),(nI a[k])[j]? =some v->(a.flatMap nI)[k*8+j]? =some v
 |x::r,0,_,j,v,h=>by have c:j<(nI x).length:=(nk.1 h).1;simp only[vQ,Nat.zero_mul,dn];rw[yd c];exact h
 |x::r,k+1,b,j,v,h=>by have d:=xA r k (fB b) j v (fB h);have e:(nI x).length=8:=rfl;simp only[vQ];rw[ye cM,e,show(k+1)*8+j-8=k*8+j by omega];exact d
structure oV(sb:Nat)(xs:List Sx)(w:cJ):Prop where
 out:∃cs,w.heap[sb]? =some (.cells cs 166)/\xs.length*8<=cs.size/\∀k (h:k<xs.length) j v,(nI xs[k])[j]? =some v->cs[k*8+j]? =some v
def oV.row{a:List Sx}(h:oV m a w):vq w (some ⟨m,0,none⟩) a:=λk b=>by have⟨f,c,g,d⟩:=h.out;exact⟨m,0,rfl,λj v e=>cO c (by rw[dn];exact d k b j v e)⟩
def oV.ext{a:List Sx}(h:oV m a w)(e:Ext w t):oV m a t:=by have⟨b,c,d⟩:=h.out;exact⟨b,e.at_ c,d⟩
def oV.keep{a:List Sx}(h:oV m a w)(k:dz A w t)(b:¬A m):oV m a t:=by have⟨c,d,e⟩:=h.out;exact⟨c,k.fN d b,e⟩
def P5{b:List Sx}(h:oV m b w)(a o:Nat)(F:a<b.length)(c:k=a*8+o)(n:Sx)(G:o+x.cells.size<=8)
 (r:∀j u,(nI n)[j]? =some u->(if o<=j/\j<o+x.cells.size then x.cells.toList[j-o]? else(nI b[a])[j]?)=some u)
 (s:∀d,dz (λt=>t=m) w d->oV m (b.set a n) d->S d)(v:sB x.cells.toList=true:=by rfl)(y:PK T=some x.cells.size:=by rfl):Eo V.prog (Instr.storeAt T (.pointer (some ⟨m,k,none⟩)) x) w S:=by
 subst c;have⟨z,A,B,p⟩:=h.out;have H:a*8+8<=z.size:=by have:=sK 8 (show a+1<=b.length by omega);omega
 refine jw A cM (λd C l=>s d C ⟨_,l,by rw[pM];simpa using B,λi D j u e=>?_⟩) (gJ v) y;have E:j<8:=(nk.1 e).1;rw[oT _ _ _ _ rp];simp only[Array.length_toList];have f:i<b.length:=fB D;by_cases g:i=a;subst g;rw[List.getElem_set_self]at e;have:=r j u e;by_cases q:o<=j/\j<o+x.cells.size;rw[cV q]at this;rw[cV cM,show i*8+j-(i*8+o)=j-o by omega];exact this;rw[cS q]at this;rw[cS cM];exact p i f j u this;rw[List.getElem_set_ne cM]at e;rw[cS (by obtain h|h:=Nat.lt_or_gt_of_ne g;have:=sK 8 (show i+1<=a by omega);omega;have:=sK 8 (show a+1<=i by omega);omega)];exact p i f j u e
def leave1(a:List Sx)(d:Nat):List Sx:=match a[d]? with
 |some x=>a.set d {x with left:=true}
 |none=>a
def iG(a:List Sx)(l:cN):List Sx:=l.foldl leave1 a
def Jz(a:List Sx)(d:Nat):(leave1 a d).length=a.length:=by unfold leave1;split<;>simp
theorem mW:∀(l:cN) (a:List Sx),(iG a l).length=a.length
 |[],_=>rfl
 |d::r,a=>(mW r (leave1 a d)).trans (Jz a d)
def Hb(a:List Sx)(l:cN)(k:Nat)(b:k<l.length):iG a (l.take (k+1))=leave1 (iG a (l.take k)) l[k]:=by rw[iT b];simp only[iG,qG,jP,List.foldl_nil]
def vu(e:Nat)(w:cJ)(v:cK)(b:List Sx):Prop:=(b=[]/\∃a c,v=.slice a 0 c)\/∃d c,e<=d/\v=.slice (some ⟨d,0,none⟩) b.length c/\oV d b w
theorem vq.cells{w:cJ}{a:dW}{c:List Sx}(h:vq w a c):iP w a (c.flatMap nI):=by
 obtain _|⟨x,r⟩:=c;exact .inl rfl;obtain⟨b,o,rfl,_⟩:=h 0 dq;refine .inr ⟨b,o,rfl,λj u g=>?_⟩;have m:j<(x::r).iw*8:=by rw[<-xz];exact(nk.1 g).1
 have i:j/8<(x::r).iw:=cM;have⟨n,p,e,q⟩:=h (j/8) i;obtain⟨rfl,rfl⟩:b=n/\o=p:=by injection e with e;injection e with s t;exact⟨s,t⟩
 have v:j%8<(nI (x::r)[j/8]).iw:=by show j%8<8;omega
 have k:=ft v;have d:=xA (x::r) (j/8) i (j%8) _ k;have l:=q (j%8) _ k;have f:j/8*8+j%8=j:=cM;rw[f]at d;rw[g]at d;obtain rfl:=dT d;have:o+j/8*8+j%8=o+j:=cM;rw[this]at l;exact l
def vq.tz{a:List Sx}(h:vq w none a):a.length=0:=by obtain _|⟨x,r⟩:=a;rfl;have⟨b,o,e,_⟩:=h 0 dq;cases e
def wA{c:List Sx}(h:vq w a c)(d:c.length<=1000000):Calls V.prog 154 #[.slice a c.length m] w (fO λv g=>Ext w g/\vu w.heap.size g v c):=by refine(PY a c.length m (c.flatMap nI) w (xz c) (λe=>by subst e;exact h.tz) h.cells (λu f=>?_) d).mono ?_;have⟨x,_,f⟩:=me.1 f;simp[nI]at f;obtain rfl|rfl|rfl|rfl|rfl|rfl|rfl|rfl:=f<;>rfl;rintro e g ⟨v,rfl,i,B,⟨n,rfl⟩|⟨b,o,p,q,rfl,r,s,t,C,y,D⟩⟩;exact⟨_,rfl,i,.inl ⟨oy n,none,0,rfl⟩⟩;refine⟨_,rfl,i,.inr ⟨b,o,q,rfl,⟨p,r,?_,λk z j v A=>?_⟩⟩⟩;have:(pJ 166).length=8:=rfl;rw[this]at s;have:=sK 8 t;omega;have l:=xA c k z j v A;rw[y _ (nk.1 l).1];exact l
def JA{wp gp mk ms:Nat}{p:List Sx}(h:mE wp gp mk ms H p I w)(X:fJ w a l)(Y:∀d∈l,d<p.length)(O:l.length<=100000):
 Calls V.prog 171 #[.pointer (some ⟨wp,0,none⟩),.slice a l.length m] w (fO λv r=>Ext w r/\∃z,v=.pointer (some ⟨z,0,none⟩)/\mE z gp mk ms H (iG p l) I r):=by
 have⟨Z,sc,h1,P,h3,h4⟩:=h.at_;have aa:p.length<=5:=Cq h.len h.g.vL.many;refine jd Tryz.func171 Tryz.ntmps171 ?_;refine ez (vs:=[dQ gp,.slice Z p.length sc,i64 I]) (λj v f=>?_) (eU λw1 D e1 A q=>dI q λJ k2 s=>?_);match j,f with
 |0,f=>cases f;exact h1
 |1,f=>cases f;exact P
 |2,f=>cases f;exact h3
 have E:Ext w J:=e1.cT k2 A;refine cP (E.cell P) (cX (wA (h4.ext E) cM) ?_);rintro v w3 ⟨Q,R⟩;have ab:=dA.lt_of_heap s;have i:v.oneCell'=true/\v.cells=#[v]:=by obtain⟨_,S,c,rfl⟩|⟨B,c,_,rfl,_⟩:=R<;>exact⟨rfl,rfl⟩
 refine jw (Q.at_ s) (by rw[i.2];exact qJ rfl) (λK T t=>?_) (by rw[i.2];simpa using i.1) (by rw[i.2];rfl);rw[i.2]at t;have L:fF K D #[dQ gp,v,i64 I] 141:=t;clear t s;have e4:Ext w K:=(E.trans Q).cT T A;have M:vu J.heap.size K v p:=by obtain h|⟨B,c,F,g2,C⟩:=R;exact .inl h;exact .inr ⟨B,c,F,g2,C.keep T cM⟩
 refine dm (fu (n:=l.length) (λk=>[(5,dQ D),(17,.slice a l.length m),(18,i64 l.length),(19,i64 k)]) (λk r=>Ext w r/\fF r D #[dQ gp,v,i64 I] 141/\vu J.heap.size r v (iG p (l.take k))) ⟨by trivial,e4,L,by simpa[iG]using M⟩ ?_ ?_ ?_);rintro k r x hJ;exact dN ⟨rfl,rfl,by trivial,hJ⟩;rintro k r x ⟨e,q,G⟩;obtain⟨b,o,rfl,hc⟩:=(X.ext e) k x;have U:=Y _ (eG x);obtain⟨N,_⟩|⟨B,c,F,rfl,C⟩:=G;have:=dH List.length N;rw[mW]at this;simp at this;subst this;simp at U;have y:l[k]<(iG p (l.take k)).length:=by rw[mW];exact U
 refine eX k x (cP hc (cP (cO q rfl) (fH l[k] 8 y (P5 C l[k] 7 y cM {(iG p (l.take k))[l[k]]with left:=true} kg (λj u f=>?_) (λw5 W g5=>cY ⟨by trivial,e.cT W (iI E.size),W.fN q cM,?_⟩)))));match j,f with
 |0,f=>exact f
 |1,f=>exact f
 |2,f=>exact f
 |3,f=>exact f
 |4,f=>exact f
 |5,f=>exact f
 |6,f=>exact f
 |7,f=>exact f
 rw[Hb p l k x];have he:leave1 (iG p (l.take k)) l[k]=(iG p (l.take k)).set l[k] {(iG p (l.take k))[l[k]]with left:=true}:=by unfold leave1;rw[ft y]
 rw[he];exact .inr ⟨B,c,F,by rw[sJ],g5⟩;rintro r ⟨e,q,G⟩;rw[j5]at G;refine⟨_,rfl,e,D,rfl,h.g.ext e,by rw[mW];exact h.len,h.bf,?_⟩;obtain⟨N,S,c,rfl⟩|⟨B,c,F,rfl,C⟩:=G;rw[N];exact⟨S,c,cO q rfl,cO q rfl,cO q rfl,λk x=>by simp at x⟩;exact⟨_,c,cO q rfl,cO q rfl,cO q rfl,C.row⟩
def Hc(s:Nat)(w:cJ):Calls V.prog 167 #[.int .i64 s] w (fO λv a=>v=.bool (decide (s%2=0))/\a=w):=by refine jd Tryz.func167 Tryz.ntmps167 ?_;exact tx (m:=s) (n:=2) cM (eZ ⟨_,rfl,by congr 1;simp;omega,rfl⟩)
def Hd(s:Nat)(w:cJ):Calls V.prog 168 #[.int .i64 s] w (fO λv a=>v=.bool (decide (s%2=1))/\a=w):=by refine jd Tryz.func168 Tryz.ntmps168 ?_;exact tx (m:=s) (n:=2) cM (eZ ⟨_,rfl,by congr 1;simp;omega,rfl⟩)
def UI(c:cK)(p:Nat->Bool):Prop:=∃g first a,c=.func (.func g) first a/\(∀b w,Sem.run V.prog (callFunc g b) w=.ok (.enter g b) w)/\∀(n:Nat) w,Calls V.prog g (first.toList++([Value.int .i64 n]++a.toList)).toArray w (fO λv d=>v=.bool (p n)/\d=w)
def rO(p:Nat->Bool):cN->Nat->Int
 |[],_=> -1
 |y::r,i=>if p y then i else rO p r (i+1)
def He(p:Nat->Bool)(l:cN)(k:Nat)(a:k<l.length):rO p (l.drop k) k=if p l[k]then(k:Int)else rO p (l.drop (k+1)) (k+1):=by rw[nN a];rfl
theorem AN(p:Nat->Bool):∀(l:cN) (i:Nat),decide (0<=rO p l i)=l.any p
 |[],_=>rfl
 |y::r,i=>by simp only[rO,List.any_cons];by_cases h:p y=true;simp[h];have h:p y=false:=fB h;simpa[h]using AN p r (i+1)
def B6{p:Nat->Bool}(r:UI x p)(l:cN)(f:dW)(m:Nat)(w:cJ)(s:fJ w f l)(q:l.length<=100000):Calls V.prog 195 #[.slice f l.length m,x] w (fO λv c=>v=.int .i64 (rO p l 0)/\c=w):=by obtain⟨g,first,i,rfl,j,t⟩:=r;refine jd Tryz.func195 Tryz.ntmps195 ?_;refine dm (fu (n:=l.length) (λk=>[(0,.slice f l.length m),(1,.func (.func g) first i),(7,i64 l.length),(8,i64 k)]) (λk c=>c=w/\rO p l 0=rO p (l.drop k) k) ⟨by trivial,rfl,rfl⟩ ?_ ?_ ?_);rintro k c e ⟨rfl,a⟩;exact dN ⟨rfl,rfl,by trivial,rfl,a⟩;rintro k c e ⟨rfl,a⟩;obtain⟨b,o,rfl,d⟩:=s k e;rw[He p l k e]at a;refine eX k e (cP d (dF (t l[k] c) ⟨λh=>?_,λh=>?_⟩ j));rw[cV h]at a;exact⟨_,rfl,by rw[a];rfl,rfl⟩;rw[h]at a;exact cY ⟨by trivial,rfl,a⟩;rintro c ⟨rfl,a⟩;exact⟨_,rfl,by rw[a];simp[rO],rfl⟩
def qV{p:Nat->Bool}(d:UI x p)(l:cN)(b:dW)(c:Nat)(w:cJ)(e:fJ w b l)(a:l.length<=100000):Calls V.prog 166 #[.slice b l.length c,x] w (fO λv f=>v=.bool (l.any p)/\f=w):=by refine jd Tryz.func166 Tryz.ntmps166 ?_;exact dF (B6 d l b c w e a) (uN ⟨_,rfl,by rw[<-AN p l 0];rfl,rfl⟩)
def VB:Obj->Bool
 | .map .. =>true
 |_=>false
structure jL(n0:Nat)(w w':cJ):Prop where
 os:w'.os=w.os
 tape:w'.tape=w.tape
 output:w'.output=w.output
 size:w.heap.size<=w'.heap.size
 drawn:w.drawn<=w'.drawn
 block:∀b o,w.heap[b]? =some o->(b<n0\/VB o=false)->w'.heap[b]? =some o
section
variable{n0:Nat}{w w' w0 w1 w2:cJ}
theorem jL.refl(n0:Nat)(w:cJ):jL n0 w w:=⟨rfl,rfl,rfl,di _,di _,cL⟩
theorem jL.trans{a b c:cJ}(h:jL n0 a b)(k:jL n0 b c):jL n0 a c:=
 ⟨k.os.trans h.os,k.tape.trans h.tape,k.output.trans h.output,du h.size k.size,du h.drawn k.drawn,λx o e d=>k.block x o (h.block x o e d) d⟩
def Ext.iC(h:Ext w w')(n0:Nat):jL n0 w w':=⟨h.os,h.tape,h.output,h.size,h.drawn,λb o a _=>h.at_ a⟩
def jL.ext(h:jL n0 w w')(d:w.heap.size<=n0):Ext w w':=⟨h.os,h.tape,h.output,h.size,h.drawn,λb c=>by have a:w.heap[b]? =some w.heap[b]:=nh c;rw[a];exact h.block b _ a cL⟩
def jL.from(h:jL n0 w w')(e:Ext w0 w)(a:w0.heap.size<=n0):Ext w0 w':=((e.iC n0).trans h).ext a
def jL.low{a:Nat}(h:jL n0 w w')(d:a<=n0):jL a w w':=⟨h.os,h.tape,h.output,h.size,h.drawn,λb o c e=>h.block b o c cL⟩
def jL.at_(h:jL n0 w w'){b:Nat}{a:eH}{t:cR}{c:Nat×Nat}(d:w.heap[b]? =some (.cells a t c)):w'.heap[b]? =some (.cells a t c):=h.block b _ d (.inr rfl)
def jL.cell(b:jL n0 w w'){v:cK}(a:w.cell? h=some v):w'.cell? h=some v:=by unfold World.cell? at a⊢;split at a;rename_i d t e c;rw[b.at_ c];grind;grind
def jL.cT{b:Nat}(h:jL n0 w w1)(k:dz (λx=>x=b) w1 w2)(e:w.heap.size<=b):jL n0 w w2:=
 ⟨k.os.trans h.os,k.tape.trans h.tape,k.output.trans h.output,du h.size k.size,du h.drawn k.drawn,λx o c d=>by have a:=dA.lt_of_heap c;exact(k.block x (ew a h.size) cM).trans (h.block x o c d)⟩
def jL.iZ{c:Nat}{v:cK}{t:cR}{e f:dP}{a:Nat}(h:jL n0 w w1)(k:dz (cW v) w1 w2)(g:dg c t e w1 v a f)(l:w.heap.size<=c):jL n0 w w2:=
 ⟨k.os.trans h.os,k.tape.trans h.tape,k.output.trans h.output,du h.size k.size,du h.drawn k.drawn,λx o d i=>by have b:=dA.lt_of_heap d;exact(k.block x (ew b h.size) λj=>iI ((g.blk j).1)).trans (h.block x o d i)⟩
def iF.iC{l:eY}(h:iF w a l)(e:jL n0 w w'):iF w' a l:=λk c=>by have⟨b,o,d,f⟩:=h k c;exact⟨b,o,d,e.cell f⟩
def gZ.iC{l:List Dr}(h:gZ w a l)(e:jL n0 w w'):gZ w' a l:=λk c=>by have⟨b,o,d,f,g,i⟩:=h k c;exact⟨b,o,d,e.cell f,e.cell g,e.cell i⟩
def oS.iC{a:Nat}{C:Nat->cK}(h:oS a C w)(e:jL n0 w w'):oS a C w':=by have⟨b,c,d,f⟩:=h.out;exact⟨b,e.at_ c,d,f⟩
theorem qE.iC{gp mk ms:Nat}(h:qE gp mk ms H w)(e:jL n0 w w'):qE gp mk ms H w':=by have⟨a,b,c,d,f,g⟩:=h.at_;exact⟨⟨a,b,c,d.iC e,f.iC e,e.cell g⟩,h.ok,ew h.mlt e.size,ew h.slt e.size,h.ne,h.gk⟩
def fJ.iC{l:cN}(h:fJ w a l)(e:jL n0 w w'):fJ w' a l:=λk c=>by have⟨b,o,d,f⟩:=h k c;exact⟨b,o,d,e.cell f⟩
def dg.iC{d:Nat}{t:cR}{f:dP}{v:cK}{a:Nat}{g:dP}(h:dg d t f w v a g)(e:jL n0 w w'):dg d t f w' v a g:=by obtain⟨i,h|⟨b,c,j,k,l,m,n⟩⟩:=h;exact⟨i,.inl h⟩;exact⟨i,.inr ⟨b,c,j,k,l,e.at_ m,n⟩⟩
theorem xx.iC{c:List cN}(h:xx w a c)(e:jL n0 w w'):xx w' a c:=λk d=>by have⟨b,o,f,g,i,j,l,m⟩:=h k d;exact⟨b,o,f,g,i,e.cell j,l.iC e,m⟩
theorem fh.iC{a:Nat}{v:cK}{b:List cN}(h:fh a w v b)(e:jL n0 w w'):fh a w' v b:=by have⟨c,d,f,g⟩:=h;refine⟨c,d.iC e,f,λk i=>?_⟩;have⟨u,j,l⟩:=g k i;exact⟨u,j,dg.iC l e⟩
def vq.iC{c:List Sx}(h:vq w a c)(e:jL n0 w w'):vq w' a c:=λk d=>by have⟨b,o,f,g⟩:=h k d;exact⟨b,o,f,λj v i=>e.cell cL⟩
theorem mE.iC{wp gp mk ms:Nat}{a:List Sx}(h:mE wp gp mk ms H a I w)(e:jL n0 w w'):mE wp gp mk ms H a I w':=by have⟨b,c,d,f,i,j⟩:=h.at_;exact⟨h.g.iC e,h.len,h.bf,b,c,e.cell d,e.cell f,e.cell i,j.iC e⟩
def iP.iC{c:dP}(h:iP w a c)(e:jL n0 w w'):iP w' a c:=by obtain h|⟨b,o,d,f⟩:=h;exact .inl h;exact .inr ⟨b,o,d,λj u g=>e.cell cL⟩
def oV.iC{a:Nat}{b:List Sx}(h:oV a b w)(e:jL n0 w w'):oV a b w':=by have⟨c,d,f⟩:=h.out;exact⟨c,e.at_ d,f⟩
end
structure mv(key:Nat->cK)(R:Nat->cK->cJ->Prop)(r:Nat)(w:cJ):Prop where
 out:∃es clock,w.heap[r]? =some (.map es clock)/\∀e∈es.toList,∃s,s<32/\e.key=key s/\R s e.val w
def mv.iC{key:Nat->cK}{R:Nat->nu}{r n0:Nat}{w w':cJ}(h:mv key R r w)(e:jL n0 w w')(f:∀s v,R s v w->R s v w')(a:w'.heap[r]? =w.heap[r]?):mv key R r w':=by have⟨c,b,d,g⟩:=h.out;exact⟨c,b,a.trans d,cL⟩
structure CY(kt:cR)(key:Nat->cK):Prop where
 check:∀e s w,s<32->Sem.run V.prog (Instr.checkKey e 10000 kt (key s)) w=.ok () w
 find:∀s (es:List MapEntry),s<32->(∀e∈es,∃s',s'<32/\e.key=key s')->
  ∃o,(∀w,Sem.run V.prog (Instr.findKey kt (key s) es) w=.ok o w)/\(o=none\/∃j e,es[j]? =some e/\e.key=key s/\o=some (j,e.val))
 stays:∀s w,s<32->Sem.run V.prog (Instr.keyThatStays (key s) (key s)) w=.ok (key s) w
 inj:∀s s',s<32->s'<32->key s=key s'->s=s'
section
variable{w:cJ}{k:cK->cJ->Prop}{kt et t:cR}{key:Nat->cK}{R:Nat->cK->cJ->Prop}{r:Nat}
def vv{b:Array MapEntry}{a:Nat}(h:w.heap[r]? =some (.map b a)):Sem.run V.prog (getObj r) w=.ok (.map b a) w:=by simp[getObj,Sem.run,h]
def Lm(K:CY kt key)(f:Tryz.prog.underlying t=some (.map kt et)){z:cK}(g:∀w,Sem.run V.prog (zeroValue et) w=.ok z w)(h:mv key R r w){s:Nat}(b:s<32):∃a,((∃v,a=.tuple #[v,.bool true]/\R s v w)\/a=.tuple #[z,.bool false])/\∀w1,(∀o,w.heap[r]? =some o->w1.heap[r]? =some o)->Sem.run V.prog (Instr.lookup t (.map (some r)) (key s) true) w1=.ok a w1:=by
 have⟨i,c,k,d⟩:=h.out;have⟨o,l,m⟩:=K.find s i.toList b cL;refine⟨.tuple #[(o.map (·.2)).getD z,.bool o.isSome],?_,λw1 n=>?_⟩;obtain rfl|⟨j,e,q,u,rfl⟩:=m;grind;have⟨x,y,A,B⟩:=d e (pz q);obtain rfl:=K.inj s x b y (u.symm.trans A);grind;unfold Instr.lookup;simp only[Sem.run_bind,iz f,Result.andThen_ok,vv (n _ k),Sem.run_pure,K.check _ s w1 b,l];cases o with
 |none=>simp only[Sem.run_bind,g,Result.andThen_ok,Sem.run_pure,em,Option.map_none,Option.getD_none,wZ]
 |some p=>simp
def MZ(K:CY kt key)(c:Tryz.prog.underlying t=some (.map kt et)){z:cK}(d:∀w,Sem.run V.prog (zeroValue et) w=.ok z w)(h:mv key R r w){s:Nat}(e:s<32) (f:∀v,R s v w->k (.tuple #[v,.bool true]) w)(g:k (.tuple #[z,.bool false]) w):jO V.prog (Instr.lookup t (.map (some r)) (key s) true) w k:=by have⟨a,i,b⟩:=Lm K c d h e;refine⟨a,w,cL,?_⟩;grind
def wB{B:dC}(K:CY kt key)(L:Tryz.prog.underlying t=some (.map kt et))(h:mv key R r w){s:Nat}(m:s<32){v:cK}{n0:Nat}(hn:n0<=r) (N:∀w',jL n0 w w'->(∀s u,R s u w->R s u w')/\R s v w') (O:∀w',jL n0 w w'->(∀b,b≠r->w'.heap[b]? =w.heap[b]?)->mv key R r w'->B w'):Eo V.prog (Instr.mapUpdate t (.map (some r)) (key s) v) w B:=by
 have⟨g,c,n,p⟩:=h.out;have C:=dA.lt_of_heap n;have f:∀(a:Array MapEntry) (d:Nat),jL n0 w (w.putObj r (.map a d))/\(∀b,b≠r->(w.putObj r (.map a d)).heap[b]? =w.heap[b]?)/\(w.putObj r (.map a d)).heap[r]? =some (.map a d)/\Sem.run jV (setObj r (.map a d)) w=.ok () (w.putObj r (.map a d)):=λa d=>by refine⟨⟨rfl,rfl,rfl,dq,di _,λb o q k=>?_⟩,λb q=>World.putObj_heap_other q,World.putObj_heap_same C,by simp[setObj,Sem.run,n,World.putObj]⟩;by_cases e:b=r;subst e;rw[n]at q;obtain rfl:=dT q;obtain k|k:=k;omega;cases k;exact(World.putObj_heap_other e).trans q
 have y:∀(a:Array MapEntry) (d:Nat),(∀e∈a.toList,e∈g.toList\/(e.key=key s/\e.val=v))->Sem.run jV (Instr.mapUpdate t (.map (some r)) (key s) v) w=.ok () (w.putObj r (.map a d))->Eo jV (Instr.mapUpdate t (.map (some r)) (key s) v) w B:=λa d l z=>by have⟨M,P,Q,_⟩:=f a d;have⟨S,T⟩:=N _ M;refine⟨_,z,O _ M P ⟨a,d,Q,λe U=>?_⟩⟩;obtain h|⟨W,X⟩:=l e U;have⟨D,E,F,Y⟩:=p e h;exact⟨D,E,F,S _ _ Y⟩;exact⟨s,m,W,by rw[X];exact T⟩
 have⟨o,k,Z⟩:=K.find s g.toList m λe l=>by have⟨D,E,F,_⟩:=p e l;exact⟨D,E,F⟩
 obtain rfl|⟨j,e,hj,A,rfl⟩:=Z;refine y (g.push {key:=key s,val:=v,born:=c}) (c+1) (λe l=>?_) ?_;simp only[Array.toList_push,jQ,jE]at l;obtain h|rfl:=l;exact .inl h;exact .inr ⟨rfl,rfl⟩;unfold Instr.mapUpdate;simp only[Sem.run_bind,iz L,Result.andThen_ok,vv n,K.check _ s w m,k,(f _ _).2.2.2];refine y (g.modify j λe=>{e with key:=key s,val:=v}) c (λx G=>?_) ?_;have⟨i,hi,G⟩:=List.getElem_of_mem G;have H:i<g.size:=fB hi;have:(g.modify j λe=>{e with key:=key s,val:=v})[i]'(fB H)=x:=by rw[<-G];exact(Array.getElem_toList _)
 rw[Array.getElem_modify]at this;split at this;subst this;exact .inr ⟨rfl,rfl⟩;subst this;exact .inl dq;have I:=K.stays s w m;have J:g[j]? =some e:=fB hj;unfold Instr.mapUpdate;simp only[Sem.run_bind,iz L,Result.andThen_ok,vv n,K.check _ s w m,k,J,mg,kK,A,I,(f _ _).2.2.2]
end
end Go.Proofs.W
namespace Go.Proofs.W
def oW(l:cN):Nat->cN->List Bool->List cN
 |0,b,_=>[b]
 |n+1,b,a=>(List.range l.length).flatMap λi=>if a.getD i false then []else oW l n (b++[l.getD i 0]) (a.set i true)
def n6(l:cN):List cN:=oW l l.length [] (List.replicate l.length false)
def fG(G:Gd)(b:cN×Int)(a:cN):cN×Int:=if b.2<0\/mT G a<b.2 then(a,mT G a)else b
def it(G:Gd)(rows:List cN):cN×Int:=rows.foldl (fG G) ([],-1)
def dG(G:Gd)(s:Nat):cN:=(it G (n6 (eh s))).1
def l5(G:Gd)(s:Nat):Bool:=decide (iA G (dG G s)<=G.minutes)
def fE(G:Gd)(most:Nat):cN->cN->Option cN
 |[],a=>some a
 |d::r,a=>
  match(List.range a.length).findSome? λi=>if l5 G (oi (a.getD i 0) d)then fE G most r (a.set i (oi (a.getD i 0) d))else none with
  |some b=>some b
  |none=>if a.length<most/\l5 G (eB [d])=true then fE G most r (a++[eB [d]])else none
def fT(G:Gd)(s:Nat):Option (List cN):=
 if s=0 then some []else((List.range (eh s).length).findSome? λm=>fE G (m+1) (eh s) []).map λa=>a.map (dG G)
end Go.Proofs.W
namespace Go.Proofs.W
open Go.RowKit
def P7:Tryz.prog.underlying 181=some (.map 154 27):=dq
def P8:Tryz.prog.underlying 180=some (.map 217 220):=dq
def M0(s:Nat):cK:=.int .u8 s
def qq(s:Nat):cK:=.agg (rM s).toArray
def ZV(a b c d i e f g h j:Bool)(w:cJ):Sem.run V.prog (Op.equal 217 (.agg #[.bool a,.bool b,.bool c,.bool d,.bool i]) (.agg #[.bool e,.bool f,.bool g,.bool h,.bool j])) w=.ok (a==e&&(b==f&&(c==g&&(d==h&&i==j)))) w:=by
 by_cases k:a=e;subst k;by_cases l:b=f;subst l;by_cases m:c=g;subst m;by_cases n:d=h;subst n;cases a<;>cases b<;>cases c<;>cases d<;>cases i<;>cases j<;>kernel_rfl;cases a<;>cases b<;>cases c<;>cases d<;>cases h<;>first|exact absurd rfl n|kernel_rfl
 cases a<;>cases b<;>cases c<;>cases g<;>first|exact absurd rfl m|kernel_rfl
 cases a<;>cases b<;>cases f<;>first|exact absurd rfl l|kernel_rfl
 cases a<;>cases e<;>first|exact absurd rfl k|kernel_rfl
def UJ:∀s:Nat,s<32->∀a:Nat,a<32->(s.testBit 0==a.testBit 0&&(s.testBit 1==a.testBit 1&&(s.testBit 2==a.testBit 2&&(s.testBit 3==a.testBit 3&&s.testBit 4==a.testBit 4))))=decide (s=a):=cL
def Tc(s a:Nat)(c:s<32)(b:a<32)(w:cJ):Sem.run V.prog (Op.equal 217 (qq s) (qq a)) w=.ok (decide (s=a)) w:=by rw[<-UJ s c a b];exact ZV _ _ _ _ _ _ _ _ _ _ w
def P9{s a:Nat}(c:s<32)(b:a<32)(h:qq s=qq a):s=a:=by have:=UJ s c a b;simp only[qq,rM,Value.agg.injEq]at h;grind
def EF:CY 154 M0:=by
 have d:Tryz.prog.underlying 154=some (.int .u8):=dq;have f:∀(s:Nat) (a:List MapEntry) (i:Nat),(∀e∈a,∃b,b<32/\e.key=M0 b)->Instr.findNow (.int .u8) (M0 s) a i=some none\/∃j e,a[j]? =some e/\e.key=M0 s/\Instr.findNow (.int .u8) (M0 s) a i=some (some (i+j,e.val)):=by
  intro s a;induction a with
  |nil=>intro i _;exact .inl rfl
  |cons e r p=>
   intro i h;have⟨b,_,k⟩:=h e fW;have q:Instr.sameNow (.int .u8) (M0 s) e.key=some ((s:Int)==(b:Int)):=by rw[k];rfl
   unfold Instr.findNow;rw[q];by_cases t:s=b;subst t;exact .inr ⟨0,e,rfl,k,dq⟩;have:((s:Int)==(b:Int))=false:=cL;rw[this];obtain l|⟨j,x,l,m,n⟩:=p (i+1) cL;grind;exact .inr ⟨j+1,x,cL,m,cL⟩
 refine⟨λe s w _=>eE,λs a u g=>?_,λs w u=>?_,λs b _ _ h=>?_⟩;have c:∀o w,Instr.findNow (.int .u8) (M0 s) a 0=some o->Sem.run jV (Instr.findKey 154 (M0 s) a) w=.ok o w:=λo w v=>by unfold Instr.findKey;simp only[Sem.run_bind,iz d,Result.andThen_ok,v,Sem.run_pure]
 obtain h|⟨j,e,l,m,n⟩:=f s a 0 g;exact⟨_,cL,.inl rfl⟩;exact⟨_,λw=>c _ w n,cL⟩;unfold Instr.keyThatStays;have:Instr.sameBits 10000 (M0 s) (M0 s)=true:=by simp[M0,Instr.sameBits]
 rw[cV this,Sem.run_pure];simp only[M0,Value.int.injEq,true_and]at h;omega
def Qa:CY 217 qq:=by
 have f:Tryz.prog.underlying 217=some (.array 5 4):=eE;have n:∀(s:Nat) (a:List MapEntry) (i:Nat),s<32->(∀e∈a,∃b,b<32/\e.key=qq b)->∃o,(∀w,Sem.run jV (Instr.findAsking 217 (qq s) a i) w=.ok o w)/\(o=none\/∃j e,a[j]? =some e/\e.key=qq s/\o=some (i+j,e.val)):=by
  intro s a;induction a with
  |nil=>intro i _ _;exact⟨none,λw=>by simp[Instr.findAsking],.inl rfl⟩
  |cons e r z=>
   intro i c h;have⟨b,d,m⟩:=h e fW;have p:=λw=>Tc s b c d w;rw[<-m]at p;by_cases g:s=b;subst g;exact⟨some (i,e.val),λw=>by unfold Instr.findAsking;simp only[Sem.run_bind,p,Result.andThen_ok,decide_true,em,Sem.run_pure],.inr ⟨0,e,rfl,m,rfl⟩⟩
   have step:∀w,Sem.run jV (Instr.findAsking 217 (qq s) (e::r) i) w=Sem.run jV (Instr.findAsking 217 (qq s) r (i+1)) w:=λw=>by
    conv=>lhs;unfold Instr.findAsking
    simp only[Sem.run_bind,p,Result.andThen_ok,g,decide_false,iR,fq]
   have⟨o,q,t⟩:=z (i+1) c λx A=>h x (jD _ A);refine⟨o,λw=>(step w).trans (q w),t.imp (λh=>h) ?_⟩;rintro⟨j,x,u,v,y⟩;exact⟨j+1,x,fB u,v,by rw[y];congr 2;omega⟩
 refine⟨λe s w _=>eE,λs a c k=>?_,λs w c=>?_,λs b c d h=>P9 c d h⟩;cases a with
 |nil=>exact⟨none,λw=>by unfold Instr.findKey;simp only[Sem.run_bind,iz f,Result.andThen_ok,Instr.findNow,Sem.run_pure],.inl rfl⟩
 |cons e r=>
  have⟨b,_,m⟩:=k e fW;have B:Instr.findNow (.array 5 4) (qq s) (e::r) 0=none:=by unfold Instr.findNow;rw[m];rfl
  have l:∀w,Sem.run jV (Instr.findKey 217 (qq s) (e::r)) w=Sem.run jV (Instr.findAsking 217 (qq s) (e::r)) w:=λw=>by unfold Instr.findKey;simp only[Sem.run_bind,iz f,Result.andThen_ok,B]
  have⟨o,q,t⟩:=n s (e::r) 0 c k;refine⟨o,λw=>(l w).trans (q w),t.imp (λh=>h) ?_⟩;rintro⟨j,x,u,v,y⟩;exact⟨j,x,u,v,by rw[y,dn]⟩
 unfold Instr.keyThatStays;have:Instr.sameBits 10000 (qq s) (qq s)=true:=by simp[qq,rM,Instr.sameBits]
 rw[cV this,Sem.run_pure]
def iJ(A:dp)(w:cJ)(a:dW)(l:cN):Prop:=∀k (h:k<l.length),∃b o,¬A b/\a=some ⟨b,o,none⟩/\w.cell? ⟨b,o+k,none⟩=some (.int .i64 l[k])
def l7(A:dp)(w:cJ)(a:dW)(ls:List cN):Prop:=∀k (h:k<ls.length),∃b o c d,¬A b/\a=some ⟨b,o,none⟩/\w.cell? ⟨b,o+k,none⟩=some (.slice c ls[k].length d)/\iJ A w c ls[k]/\ls[k].length<=d
def oX{w:cJ}{b o:Nat}(h:w.cell? ⟨b,o,none⟩=some x):b<w.heap.size:=by refine zN λa=>?_;have:w.heap[b]? =none:=vM a;simp[World.cell?,this]at h
section
variable{A A':Nat->Prop}{w w':cJ}{a:Option Addr}{l:List Nat}{ls:List (List Nat)}{n0:Nat}
theorem iJ.n(h:iJ A w a l):fJ w a l:=λk c=>by have⟨b,o,_,d,e⟩:=h k c;grind
theorem l7.rows(h:l7 A w a ls):xx w a ls:=λk c=>by have⟨b,o,d,e,_,f,g,i,j⟩:=h k c;exact⟨b,o,d,e,f,g,i.n,j⟩
theorem iJ.go(h:iJ A w a l)(f:∀b,A' b->A b\/w.heap.size<=b)(g:∀b o v,¬A b->w.cell? ⟨b,o,none⟩=some v->w'.cell? ⟨b,o,none⟩=some v):iJ A' w' a l:=λk c=>by have⟨b,o,i,d,e⟩:=h k c;refine⟨b,o,λj=>?_,d,cL⟩;have:=oX e;grind
theorem l7.go(h:l7 A w a ls)(c:∀b,A' b->A b\/w.heap.size<=b)(d:∀b o v,¬A b->w.cell? ⟨b,o,none⟩=some v->w'.cell? ⟨b,o,none⟩=some v):l7 A' w' a ls:=λk e=>by have⟨b,o,f,g,n,i,j,l,m⟩:=h k e;refine⟨b,o,f,g,λp=>?_,i,cL,l.go c d,m⟩;have:=oX j;grind
theorem iJ.iC(h:iJ A w a l)(e:jL n0 w w'):iJ A w' a l:=h.go cL λ_ _ _ _ b=>e.cell b
theorem l7.iC(h:l7 A w a ls)(e:jL n0 w w'):l7 A w' a ls:=h.go cL λ_ _ _ _ b=>e.cell b
theorem iJ.more(h:iJ A w a l)(c:∀b,A' b->A b\/w.heap.size<=b):iJ A' w a l:=h.go c cL
theorem l7.more(h:l7 A w a ls)(c:∀b,A' b->A b\/w.heap.size<=b):l7 A' w a ls:=h.go c cL
theorem eO.M4{d:Nat}(h:eO d w x l)(j:∀b,A b->b<d):∃a c,x=.slice a l.length c/\iJ A w a l/\l.length<=c:=by obtain⟨m,⟨n,rfl⟩|⟨b,c,o,p,rfl,f,q,g,r,i,s⟩⟩:=h;exact⟨none,0,cL,λk e=>cM,cM⟩;refine⟨_,c,rfl,λk e=>⟨b,0,cL,rfl,?_⟩,g⟩;refine cO f ?_;rw[dn,i k cL];simp[gA,ft e]
end
def ShR(A:dp)(G:Gd)(s:Nat)(v:cK)(w:cJ):Prop:=∃a c,v=.slice a (dG G s).length c/\iJ A w a (dG G s)/\(dG G s).length<=c
def M5(A:dp)(o:Option (List cN))(v:cK)(b:Bool)(w:cJ):Prop:=match o with
 |none=>v=.slice none 0 0/\b=false
 |some ls=>b=true/\∃a c,v=.slice a ls.length c/\l7 A w a ls/\ls.length<=c
def XL(A:dp)(G:Gd)(s:Nat)(v:cK)(w:cJ):Prop:=∃u b,v=.agg #[u,.bool b]/\M5 A (fT G s) u b w
structure mc(A:Nat->Prop)(mk ms:Nat)(G:Gd)(w:cJ):Prop where
 s:mv M0 (ShR A G) ms w
 k:mv qq (XL A G) mk w
 ak:¬A mk
 asm:¬A ms
section
variable{A A':Nat->Prop}{w w' w1 w2:cJ}{G:Gd}{mk ms n0:Nat}
theorem ShR.go{s:Nat}(h:ShR A G s x w)(d:∀b,A' b->A b\/w.heap.size<=b)(e:∀b o x,¬A b->w.cell? ⟨b,o,none⟩=some x->w'.cell? ⟨b,o,none⟩=some x):ShR A' G s x w':=by have⟨a,c,f,g,i⟩:=h;exact⟨a,c,f,g.go d e,i⟩
theorem M5.go{o:Option (List cN)}{b:Bool}(h:M5 A o x b w)(d:∀b,A' b->A b\/w.heap.size<=b)(e:∀b o x,¬A b->w.cell? ⟨b,o,none⟩=some x->w'.cell? ⟨b,o,none⟩=some x):M5 A' o x b w':=by
 cases o with
 |none=>exact h
 |some ls=>
  have⟨f,a,c,g,i,j⟩:=h;exact⟨f,a,c,g,i.go d e,j⟩
theorem XL.go{s:Nat}(h:XL A G s x w)(a:∀b,A' b->A b\/w.heap.size<=b)(c:∀b o x,¬A b->w.cell? ⟨b,o,none⟩=some x->w'.cell? ⟨b,o,none⟩=some x):XL A' G s x w':=by have⟨u,b,d,e⟩:=h;exact⟨u,b,d,e.go a c⟩
theorem mv.go{c:Nat->cK}{R d:Nat->nu}{r:Nat}(h:mv c R r w)(g:∀s v,R s v w->d s v w')(a:∀o,w.heap[r]? =some o->w'.heap[r]? =some o):mv c d r w':=by have⟨e,b,f,i⟩:=h.out;exact⟨e,b,a _ f,cL⟩
def mv.lt{a:Nat->cK}{R:Nat->nu}{r:Nat}(h:mv a R r w):r<w.heap.size:=by have⟨c,b,d,_⟩:=h.out;grind
theorem mc.go(h:mc A mk ms G w)(c:∀b,A' b->A b\/w.heap.size<=b)(g:∀b o v,¬A b->w.cell? ⟨b,o,none⟩=some v->w'.cell? ⟨b,o,none⟩=some v)(d:∀b o,b=mk\/b=ms->w.heap[b]? =some o->w'.heap[b]? =some o):mc A' mk ms G w':=by have i:=h.k.lt;have ls:=h.s.lt;refine⟨h.s.go (λs v e=>e.go c g) cL,h.k.go (λs v e=>e.go c g) cL,λf=>?_,λf=>?_⟩;obtain a|a:=c _ f;exact h.ak a;grind;obtain a|a:=c _ f;exact h.asm a;grind
def mc.ext(h:mc A mk ms G w)(e:Ext w w'):mc A mk ms G w':=h.go cL (λ_ _ _ _ a=>e.cell a) λb o _ c=>e.at_ c
def mc.more(h:mc A mk ms G w)(a:∀b,A' b->A b\/w.heap.size<=b):mc A' mk ms G w:=h.go a cL cL
def mc.keep{F:dp}(h:mc A mk ms G w)(k:dz F w w')(a:∀b,F b->A b):mc A mk ms G w':=
 h.go cL (λb o v c e=>k.fe e cL) λb o c f=>k.fN f λd=>by obtain rfl|rfl:=c;exact h.ak (a _ d);exact h.asm (a _ d)
end
def MR(n0 mk ms:Nat)(G:Gd)(a b:cJ):Prop:=jL n0 a b/\∀A:dp,(∀x,A x->x<a.heap.size)->mc A mk ms G a->mc A mk ms G b
section
variable{n0 mk ms:Nat}{G:Gd}{a b c:cJ}
theorem MR.refl(a:cJ):MR n0 mk ms G a a:=⟨jL.refl _ _,cL⟩
theorem MR.trans(h:MR n0 mk ms G a b)(k:MR n0 mk ms G b c):MR n0 mk ms G a c:=⟨h.1.trans k.1,λA d e=>k.2 A (λx f=>ew (d x f) h.1.size) (h.2 A d e)⟩
def Ext.mr(h:Ext a b):MR n0 mk ms G a b:=⟨h.iC n0,λA _ c=>c.ext h⟩
def Yh(n0 mk ms:Nat)(G:Gd):gH (MR n0 mk ms G):=⟨MR.refl,λ_ _ _=>MR.trans,λw=>(Ext.drew w).mr⟩
end
section
variable{w:cJ}{k:cK->cJ->Prop}
def EG{a:dP}(g:IA T U a){l c:Nat}(j:l<=c)(m:c<=100000)(h:∀b d,Ext w b->w.heap.size<=d->b.heap[d]? =some (.cells (madeCells a.toArray (c*a.length)) U)->k (.slice (some ⟨d,0,none⟩) l c) b):jO V.prog (Instr.makeSlice T (.int .i64 l) (.int .i64 c)) w k:=by have⟨n,i,z,f,o,p,q,r,s⟩:=g;have e:=run_make (P:=jV) w T U i z n f o .i64 .i64 (l:Int) (c:Int) cM cM (by have:i.bytes*c<=256*100000:=Nat.mul_le_mul r m;have f:((i.bytes:Int)*(c:Int))=((i.bytes*c:Nat):Int):=dq;omega) cM;simp only[ow]at e;rw[p,q]at e;exact⟨_,_,e,h _ w.lG (Ext.alloc _ _) (di _) (fY _ _)⟩
def AO(z:cK)(n:Nat):madeCells #[z] n=Array.replicate n z:=by apply Array.ext;simp[madeCells];intro i a b;simp[madeCells,Nat.mod_one]
def W5:IA 225 4 [.bool false]:=⟨eE,Tryz.t4,_,eE,rfl,eE,eE,by decide+kernel,kg⟩
def Ln{e:cR}{z:cK}{s:Array Bool}(t:IA T e [z]){d:eH}(g:w.heap[m]? =some (.cells d e))(a:i+1<=j)(h:i<d.size){u:cK}(y:w.cell? ⟨o,0,none⟩=some u)(A:u.oneCell'=true)
 (B:∀l,dz (λx=>x=m) w l->l.heap[m]? =some (.cells (d.setIfInBounds i u) e)->k (.slice (some ⟨m,0,none⟩) (i+1) j) l):zd V.prog (builtin .append #[T,T] U s #[.slice (some ⟨m,0,none⟩) i j,.slice (some ⟨o,0,none⟩) 1 p]) w k:=by
 have⟨n,r,E,C,F,G,c,H,I⟩:=t;have c:r.size=1:=c
 have q:=run_append_room_cells (P:=jV) w T U e r n C m 0 i j (dt o 0) 1 p [u] (by simp[c]) (λf v b=>by
  match f,b with
  |0,b=>cases b;rw[iq];exact y) (λv D=>by obtain rfl:=jE.1 D;exact A) a (λf b=>by
  have:f=0:=fB b;subst this;simp[World.cell?,g,c,h]) (λf b=>by simp[World.frozen?,g])
 rw[c]at q;simp only[dn,rm]at q;refine⟨_,w.setCells m i [u],?_,B _ (qn _ _ _ _ _ (dz.refl _ w)) (tw [u] w m i d e (0,0) g)⟩;unfold builtin;simp only[Sem.run_bind,q,Result.andThen_ok,Sem.run_pure]
end
structure E2(r u:Nat)(o1 Yi o2 Yj:Obj)(a b:cJ):Prop where
 k:dz (λx=>x=r\/x=u) a b
 r1:a.heap[r]? =some Yi->b.heap[r]? =some Yi
 r0:a.heap[r]? =some o1->b.heap[r]? =some o1\/b.heap[r]? =some Yi
 u1:a.heap[u]? =some Yj->b.heap[u]? =some Yj
 u0:a.heap[u]? =some o2->b.heap[u]? =some o2\/b.heap[u]? =some Yj
def W7(r u:Nat)(f d g e:Obj):gH (E2 r u f d g e):=
 ⟨λw=>⟨dz.refl _ w,id,.inl,id,.inl⟩,λa b c h k=>⟨h.k.trans k.k (λ_ _ h=>h) λ_ _ h=>h,λx=>k.r1 (h.r1 x),λx=>by
  obtain y|y:=h.r0 x;exact k.r0 y;exact .inr (k.r1 y),λx=>k.u1 (h.u1 x),λx=>by
  obtain y|y:=h.u0 x;exact k.u0 y;exact .inr (k.u1 y)⟩,λw=>⟨(Ext.drew w).keep _,id,.inl,id,.inl⟩⟩
def E2.W8{d c:Obj}{a b:cJ}(h:Ext a b):E2 m i O Q d c a b:=⟨h.keep _,λx=>h.at_ x,λx=>.inl (h.at_ x),λx=>h.at_ x,λx=>.inl (h.at_ x)⟩
def E2.cell{d c:Obj}{a b:cJ}(e:E2 m i O Q d c a b){v:cK}(f:a.cell? h=some v)(g:h.block≠m)(j:h.block≠i):b.cell? h=some v:=e.k.fe f cM
def E2.t1{e d:Obj}{a b:cJ}(k:dz (λx=>x=m) a b)(c:m≠i)(h:b.heap[m]? =some Q):E2 m i O Q e d a b:=
 ⟨k.trans (dz.refl (λ_=>False) b) (λ_ _ h=>.inl h) λ_ _ h=>h.elim,λ_=>h,λ_=>.inr h,λx=>k.fN x (jg c),λx=>.inl (k.fN x (jg c))⟩
def E2.t2{e c:Obj}{a b:cJ}(k:dz (λx=>x=i) a b)(d:m≠i)(h:b.heap[i]? =some c):E2 m i O Q e c a b:=
 ⟨k.trans (dz.refl (λ_=>False) b) (λ_ _ h=>.inr h) λ_ _ h=>h.elim,λx=>k.fN x d,λx=>.inl (k.fN x d),λ_=>h,λ_=>.inr h⟩
section
variable{E:cJ->cJ->Prop}{w:cJ}{kx:cK->Prop}{kr kp kl:io->Prop}{lb ea:Bool}
def xB{v:cK}(b:gH E)(c:∀a,E w a->a.cell? h=some v)(k:kx v)(d:G3 T=some false:=by rfl):xq E E w (λa f=>jO V.prog (Instr.loadAt T (.pointer (some h))) a f) kx kr kp lb kl ea:=
 dx v (λa e=>cP (c a e) ⟨rfl,b.refl _⟩ d) k
end
structure B7 where
 (rv lv yv uv gv rb ub lp:Nat)(la:Option Addr)(lc:Nat)
def dj(b:Nat):cK:=.pointer (some ⟨b,0,none⟩)
def B7.oY(e:B7):eH:=#[dj e.rv,dj e.lv,dj e.yv,dj e.uv,dj e.gv]
structure Yk(e:B7):Prop where
 r:e.rv≠e.lv/\e.rv≠e.yv/\e.rv≠e.uv/\e.rv≠e.gv/\e.rv≠e.rb/\e.rv≠e.ub
 b:e.rb≠e.lv/\e.rb≠e.yv/\e.rb≠e.uv/\e.rb≠e.gv/\e.rb≠e.ub
 u:e.ub≠e.lv/\e.ub≠e.yv/\e.ub≠e.uv/\e.ub≠e.gv
 l:∀b o,e.la=some ⟨b,o,none⟩->b≠e.rv/\b≠e.rb/\b≠e.ub
def j8(a:List Bool):Obj:=.cells (a.map Value.bool).toArray 4
structure Lo(e:B7)(l row:List Nat)(used:List Bool)(w:cJ):Prop where
 rv:w.heap[e.rv]? =some (.cells #[.slice (some ⟨e.rb,0,none⟩) row.length l.length] 27)
 lv:w.cell? ⟨e.lv,0,none⟩=some (.slice e.la l.length e.lc)
 yv:w.cell? ⟨e.yv,0,none⟩=some (.func (.yield e.lp) #[] #[])
 uv:w.cell? ⟨e.uv,0,none⟩=some (.slice (some ⟨e.ub,0,none⟩) l.length l.length)
 gv:w.cell? ⟨e.gv,0,none⟩=some (.func (.func 197) #[] e.oY)
 rb:∃cs,w.heap[e.rb]? =some (.cells cs 3)/\cs.size=l.length/\∀j (h:j<row.length),cs[j]? =some (.int .i64 row[j])
 ub:w.heap[e.ub]? =some (j8 used)
 ul:used.length=l.length
 row:fJ w e.la l
def Lo.keep{e:B7}{a:List Bool}(h:Lo e l f a w)(k:dz A w t)(s:∀b,A b->b≠e.rv/\b≠e.lv/\b≠e.yv/\b≠e.uv/\b≠e.gv/\b≠e.rb/\b≠e.ub/\∀c o,e.la=some ⟨c,o,none⟩->b≠c):Lo e l f a t:=by have n:∀b,(b=e.rv\/b=e.lv\/b=e.yv\/b=e.uv\/b=e.gv\/b=e.rb\/b=e.ub)->¬A b:=cL;have⟨d,g,j,m⟩:=h.rb;refine⟨k.fN h.rv cL,k.fe h.lv cL,k.fe h.yv cL,k.fe h.uv cL,k.fe h.gv cL,⟨d,k.fN g cL,j,m⟩,k.fN h.ub cL,h.ul,λi p=>?_⟩;have⟨b,o,q,r⟩:=h.row i p;exact⟨b,o,q,k.fe r cL⟩
def Lo.FT{e:B7}(g:Yk e){c:cN}{d a:List Bool}(h:Lo e l f d w)(k:dz (λx=>x=e.rv\/x=e.rb\/x=e.ub) w t)
 (o:t.heap[e.rv]? =some (.cells #[.slice (some ⟨e.rb,0,none⟩) c.length l.length] 27))(p:∃m,t.heap[e.rb]? =some (.cells m 3)/\m.size=l.length/\∀j (h:j<c.length),m[j]? =some (.int .i64 c[j]))(q:t.heap[e.ub]? =some (j8 a))(s:a.length=l.length):Lo e l c a t:=by
 have⟨B,C,D,E,F,G⟩:=g.r;have⟨H,I,J,K,L⟩:=g.b;have⟨M,N,O,P⟩:=g.u;refine⟨o,k.fe h.lv cL,k.fe h.yv cL,k.fe h.uv cL,k.fe h.gv cL,p,q,s,λi v=>?_⟩;have⟨y,z,n,A⟩:=h.row i v;have:=g.l _ _ n;exact⟨y,z,n,k.fe A cL⟩
def UK{a:B7}{c b:Obj}(d:E2 a.rb a.ub O Q c b w t)(f:dz (λx=>x=a.rv) t e):dz (λx=>x=a.rv\/x=a.rb\/x=a.ub) w e:=
 (d.k.trans f cL cL)
def xC(l:cN)(m:Nat)(b:cN)(a:List Bool)(k:Nat):List cN:=(List.range k).flatMap λi=>if a.getD i false then []else oW l m (b++[l.getD i 0]) (a.set i true)
def yA(l:cN)(m:Nat)(b:cN)(a:List Bool)(k:Nat):xC l m b a (k+1)=xC l m b a k++if a.getD k false then []else oW l m (b++[l.getD k 0]) (a.set k true):=by unfold xC;rw[nq,List.flatMap_append];simp
def Hf(e:B7)(l:cN)(Y:List cN->dC):Prop:=∀i b c w,b.length=l.length->(∀d∈b,d∈l)->Lo e l b c w->Y i w->∃f g a h,Sem.run V.prog (Instr.yield e.lp #[.slice (some ⟨e.rb,0,none⟩) b.length l.length]) w=.ok (.round e.lp f g a h) w/\RoundIn Fence.wide 0 V.prog e.lp f g a h w λk j=>k=.returned (.bool true)/\Lo e l b c j/\Y (i++[b]) j
def EH(a:eH)(k:Nat)(v:cK):(a.setIfInBounds k v).setIfInBounds k v=a.setIfInBounds k v:=dq
def Hg(a:List Bool)(k:Nat)(b:Bool):((a.map Value.bool).toArray).setIfInBounds k (.bool b)=((a.set k b).map Value.bool).toArray:=by grind
theorem Lp{e:B7}(P:Yk e)(aa:l.length<=100000){Y:List cN->dC}(hY:∀s a b,Y s a->dz (λx=>x=e.rv\/x=e.rb\/x=e.ub) a b->Y s b)(hy:Hf e l Y):
 ∀m g c s w,g.length+m=l.length->(∀d∈g,d∈l)->Lo e l g c w->Y s w->Calls V.prog 197 e.oY w (fO λv G=>v=.bool true/\Lo e l g c G/\Y (s++oW l m g c) G)
 |m,g,c,s,w,hm,N,h,Q=>by
  have⟨o1,o2,o3,o4,o5,o6⟩:=P.r;have⟨p1,p2,p3,p4,p5⟩:=P.b;have⟨q1,q2,q3,q4⟩:=P.u;have ax:=P.l;refine jd Tryz.func197 Tryz.ntmps197 ?_;refine cP (cO h.rv rfl) (dm (cP h.lv (dm (eZ ⟨λZ=>?_,λZ=>?_⟩))));have Z:g.length=l.length:=by simp at Z;omega
  obtain rfl:m=0:=cM;have⟨f,au,ah,av,ab,hR⟩:=hy s g c w Z N h Q;refine cP h.yv (cP (cO h.rv rfl) ⟨_,_,_,_,ab,hR.mono ?_⟩);rintro en G ⟨rfl,K,h2⟩;exact⟨_,rfl,rfl,K,h2⟩;have Z:g.length≠l.length:=by simp at Z;omega
  obtain⟨m,rfl⟩:∃m',m=m'+1:=⟨m-1,cM⟩;refine cP h.lv (dm (fu (n:=l.length) (λk=>[(0,dj e.rv),(1,dj e.lv),(2,dj e.yv),(3,dj e.uv),(4,dj e.gv),(17,.slice e.la l.length e.lc),(18,i64 l.length),(19,i64 k)]) (λk G=>Lo e l g c G/\Y (s++xC l m g c k) G) ⟨by trivial,h,by simpa[xC]using Q⟩ ?_ ?_ ?_));rintro k G R hJ;exact dN ⟨rfl,rfl,by trivial,hJ⟩;rintro k G R ⟨h,Q⟩;have⟨b,o,S,T⟩:=h.row k R;have U:k<c.length:=by rw[h.ul];exact R
  have ai:G.cell? (dt e.ub (0+k))=some (.bool c[k]):=by refine cO h.ub ?_;simp[U]
  have ac:c.getD k false=c[k]:=getD_eq U;have aj:l.getD k 0=l[k]:=getD_eq R;rw[S];refine eX k R (cP T (cP h.uv (eX k R (cP ai ⟨λhu=>?_,λhu=>?_⟩))));refine cY ⟨⟨rfl,rfl,rfl,rfl,rfl,by rw[<-S];rfl,rfl,rfl,trivial⟩,h,?_⟩;rw[yA,ac,hu];simpa using Q;have⟨C,g1,g2,g3⟩:=h.rb;have aw:g.length<l.length:=cM;have hE:=W7 e.rb e.ub (.cells C 3) (.cells (C.setIfInBounds g.length (i64 l[k])) 3) (j8 c) (j8 (c.set k true));refine dE hE ?_;refine xB hE (λq p=>p.cell h.uv (by show e.uv≠e.rb;omega) (by show e.uv≠e.ub;omega)) ?_;refine xB hE (λq p=>p.cell (cO h.rv rfl) o5 o6)<| .rel (λv w=>∃H,v=eT H 1 1/\H≠e.rb/\H≠e.ub/\w.heap[H]? =some (.cells [Value.int .i64 l[k]].toArray 3)) ?_ (λq p=>er [Value.int .i64 l[k]] 3 λt H e2 ad hb=>⟨⟨H,rfl,?_,?_,hb⟩,E2.W8 e2⟩) ?_;rintro v a b ⟨H,K,h2,h3,h4⟩ p;exact⟨H,K,h2,h3,p.k.fN h4 cM⟩;have:=dA.lt_of_heap g1;have:=p.k.size;omega;have:=dA.lt_of_heap h.ub;have:=p.k.size;omega;refine .rel (λv w=>v=eT e.rb (g.length+1) l.length/\fF w e.rb (C.setIfInBounds g.length (i64 l[k])) 3) ?_ ?_ ?_;rintro v a b ⟨K,h2⟩ p;exact⟨K,p.r1 h2⟩;rintro q p v ⟨H,rfl,n1,n2,hb⟩;have y:∀L,fF q e.rb L 3->L.size=C.size->L.setIfInBounds g.length (i64 l[k])=C.setIfInBounds g.length (i64 l[k])->zd V.prog (builtin .append #[27,27] 27 (#[Operand.tmp 30,Operand.tmp 32].map λ| .const _=>true|_=>false) #[eT e.rb g.length l.length,eT H 1 1]) q λu t=>(u=eT e.rb (g.length+1) l.length/\fF t e.rb (C.setIfInBounds g.length (i64 l[k])) 3)/\E2 e.rb e.ub (.cells C 3) (.cells (C.setIfInBounds g.length (i64 l[k])) 3) (j8 c) (j8 (c.set k true)) q t:=λL ak ay z=>by refine Ln (u:=i64 l[k]) oR ak cM cM (cO hb rfl) rfl λt I i=>?_;rw[z]at i;exact⟨⟨rfl,i⟩,E2.t1 I p5 i⟩
  obtain D|D:=p.r0 g1;exact y C D rfl rfl;exact y _ D dq (EH _ _ _);refine .exact (oz e.ub (0+k)) (λq p v hv=>eX k cM ⟨rfl,hE.refl _⟩)<| .yw (λ_ w=>w.heap[e.ub]? =some (j8 (c.set k true))) (λ_ a b K p=>p.u1 K) (λq p v hv=>?_) ?_
  have y:∀J:List Bool,q.heap[e.ub]? =some (j8 J)->J.length=c.length->J.set k true=c.set k true->Eo V.prog (Instr.storeAt 4 (oz e.ub (0+k)) (.bool true)) q λt=>t.heap[e.ub]? =some (j8 (c.set k true))/\E2 e.rb e.ub (.cells C 3) (.cells (C.setIfInBounds g.length (i64 l[k])) 3) (j8 c) (j8 (c.set k true)) q t:=λJ W al z=>by
   refine jw W (by simp[Value.cells];omega) (λt I i=>by
   have i:t.heap[e.ub]? =some (j8 (c.set k true)):=by rw[i,j8,<-z,<-Hg];simp[ir,Value.cells]
   exact⟨i,E2.t2 I p5 i⟩) (gJ rfl)
  obtain D|D:=p.u0 h.ub;exact y c D rfl rfl;exact y _ D dq dq;intro q p v1 M v2 ad hJ;obtain⟨rfl,M⟩:v1=eT e.rb (g.length+1) l.length/\fF q e.rb (C.setIfInBounds g.length (i64 l[k])) 3:=M;replace hJ:q.heap[e.ub]? =some (j8 (c.set k true)):=hJ;clear ad;have O:=p.k.fN h.rv cM;refine dI O λt I i=>?_;have k3:=UK p I;have hW:Lo e l (g++[l[k]]) (c.set k true) t:=by
   refine h.FT P k3 (by rw[i];simp[ir,Value.cells]) ⟨_,I.fN M cM,by simp[g2],λj hj=>?_⟩ (I.fN hJ cM) (by simp[h.ul]);obtain ae|az:=gC j g.length;rw[gd cM,g3 j ae,nm ae];obtain rfl:j=g.length:=by simp at hj;omega
   rw[ou cM];simp
  have am:Y (s++xC l m g c k) t:=hY _ _ _ Q k3;clear i O I M hJ p k3;refine cP hW.gv (cX (Lp P aa hY hy m (g++[l[k]]) (c.set k true) _ t rp (λd hd=>by obtain hd|hd:=jQ.1 hd;exact N d hd;rw[jE.1 hd];exact eG R) hW am) ?_);rintro v w3 ⟨rfl,E,an⟩;have⟨F,t1,t2,t3⟩:=E.rb;have A:=W7 e.rb e.ub (.cells F 3) (.cells F 3) (j8 (c.set k true)) (j8 c);have ao:(g++[l[k]]).length=g.length+1:=dq;have B:=E.rv;rw[ao]at B;refine dE A ?_;refine xB A (λq p=>p.cell E.uv (by show e.uv≠e.rb;omega) (by show e.uv≠e.ub;omega)) ?_;refine xB A (λq p=>p.cell (cO B rfl) o5 o6)<|xB A (λq p=>p.cell (cO B rfl) o5 o6)<|XJ (i64 ((g.length+1:Nat):Int)) (λq _=>dm ⟨rfl,A.refl _⟩)<|vo (n:=1) ?_ cM A;refine dx (eT e.rb g.length l.length) (λq _=>pK g.length cM ⟨rfl,A.refl _⟩ cM)<|gl k cM ?_ rfl rfl A;refine .yw (λ_ w=>w.heap[e.ub]? =some (j8 c)) (λ_ a b K p=>p.u1 K) (λq p=>?_) ?_;have af:c.set k false=c:=by apply List.ext_getElem?;intro j;by_cases hj:j=k;subst hj;simp[U,hu];rw[List.getElem?_set_ne cM]
  have y:∀J:List Bool,q.heap[e.ub]? =some (j8 J)->J.length=c.length->J.set k false=c->Eo V.prog (Instr.storeAt 4 (oz e.ub (0+k)) (.bool false)) q λt=>t.heap[e.ub]? =some (j8 c)/\E2 e.rb e.ub (.cells F 3) (.cells F 3) (j8 (c.set k true)) (j8 c) q t:=λJ W al z=>by
   refine jw W (by simp[Value.cells];omega) (λt I i=>by
   have i:t.heap[e.ub]? =some (j8 c):=by
    have h4:j8 c=.cells ((J.map Value.bool).toArray.setIfInBounds k (.bool false)) 4:=by rw[Hg,z];rfl
    rw[i,h4];simp[ir,Value.cells]
   exact⟨i,E2.t2 I p5 i⟩) (gJ rfl)
  obtain D|D:=p.u0 E.ub;exact y _ D dq (by rw[List.set_set];exact af);exact y _ D rfl af;intro w4 e4 X;replace X:w4.heap[e.ub]? =some (j8 c):=X;have ag:=e4.k.fN B cM;refine dI ag λw5 k5 ap=>?_;have k6:=UK e4 k5;have aq:Lo e l g c w5:=E.FT P k6 (by rw[ap];simp[ir,Value.cells]) ⟨F,k5.fN ((e4.r0 t1).elim id id) cM,t2,λj hj=>by rw[t3 j rp,nm hj]⟩ (k5.fN X cM) h.ul;have ar:=hY _ _ _ an k6;refine eK (kZ rfl (cY ⟨⟨rfl,rfl,rfl,rfl,rfl,by rw[<-S];rfl,rfl,rfl,trivial⟩,aq,?_⟩));rw[yA,ac,hu,aj];simpa using ar;rintro G ⟨h,Q⟩;exact⟨_,rfl,rfl,h,Q⟩
def XM:Obj:=.cells #[.slice none 0 0] 27
structure ZE(n0:Nat)(a b:cJ):Prop where
 os:b.os=a.os
 tape:b.tape=a.tape
 output:b.output=a.output
 size:a.heap.size<=b.heap.size
 drawn:a.drawn<=b.drawn
 block:∀x o,a.heap[x]? =some o->b.heap[x]? =some o\/(n0<=x/\o=XM/\∃u,u≠ .slice none 0 0/\b.heap[x]? =some (.cells #[u] 27))
def Yl(e:Nat):gH (ZE e):=by refine⟨λw=>⟨rfl,rfl,rfl,di _,di _,cL⟩,λa b c h k=>⟨k.os.trans h.os,k.tape.trans h.tape,k.output.trans h.output,du h.size k.size,du h.drawn k.drawn,λx o f=>?_⟩,λw=>⟨rfl,rfl,rfl,di _,mG _,λx o h=>.inl h⟩⟩;obtain d|⟨d,i,u,j,g⟩:=h.block x o f;exact k.block x o d;obtain l|⟨_,m,_⟩:=k.block x _ g;grind;grind
def Ext.ze(h:Ext w t)(a:Nat):ZE a w t:=⟨h.os,h.tape,h.output,h.size,h.drawn,λx o b=>.inl (h.at_ b)⟩
def ZE.ext(h:ZE m w t)(d:w.heap.size<=m):Ext w t:=⟨h.os,h.tape,h.output,h.size,h.drawn,λx a=>by have b:w.heap[x]? =some w.heap[x]:=nh a;obtain c|⟨c,_⟩:=h.block x _ b;grind;grind⟩
def ZE.at_(h:ZE m w t)(a:w.heap[k]? =some O)(b:O≠XM):t.heap[k]? =some O:=(h.block k O a).elim id cL
def ZE.store{c:Nat}{a b:cJ}{x:Nat}{u:cK}(k:dz (λy=>y=x) a b)(f:c<=x)(g:u≠ .slice none 0 0)(h:a.heap[x]? =some XM\/a.heap[x]? =some (.cells #[u] 27))(i:b.heap[x]? =some (.cells #[u] 27)):ZE c a b:=
 ⟨k.os,k.tape,k.output,k.size,k.drawn,λy o d=>by by_cases e:y=x;grind;exact .inl (k.fN d e)⟩
def wC(h:T≠U):Obj.cells W T≠ .cells X U:=cL
def Te(i m:Nat)(F:dp)(Y:(dp)->List cN->dC)(l:cN):Prop:=∀B h c j w,(∀b,B b->m<=b/\b<w.heap.size)->B j->fJ w (some ⟨j,0,none⟩) c->c.length=l.length->(∀d∈c,d∈l)->Y B h w->∃f e a g,Sem.run V.prog (Instr.yield i #[.slice (some ⟨j,0,none⟩) c.length l.length]) w=.ok (.round i f e a g) w/\RoundIn Fence.wide 0 V.prog i f e a g w λn k=>n=.returned (.bool true)/\dz F w k/\Y B (h++[c]) k
def M6(J:l.length<=100000){lc lv lp n0:Nat}{F:dp}{Y:(dp)->List cN->dC}(hn:n0=w.heap.size) (aa:w.cell? ⟨lv,0,none⟩=some (.slice a l.length lc))(ab:fJ w a l)(al:∀b o,a=some ⟨b,o,none⟩->b<w.heap.size)(hF:∀b,F b->b<w.heap.size/\b≠lv/\∀b' o,a=some ⟨b',o,none⟩->b≠b') (h0:∀c B,Ext w c->(∀b,B b->n0<=b/\b<c.heap.size)->Y B [] c)(hY:∀B m q b,Y B m q->dz B q b->Y B m b)(hy:Te lp n0 F Y l):
 Calls V.prog 196 #[.func (.yield lp) #[] #[],dj lv] w (fO λv w'=>∃B,Y B (n6 l) w'):=by
 subst hn;have ac:lv<w.heap.size:=oX aa;refine jd Tryz.func196 Tryz.ntmps196 ?_;refine eJ λD yv ey aI ad=>?_;have aJ:=dA.lt_of_heap ad;have U:=ey.cell aa;refine gQ 8 dD (Yl D.heap.size) (λq b h=>h.ze _) ?_;have ae:∀c,ZE D.heap.size D c->jO V.prog (Instr.loadAt 27 (dQ lv)) c λu N=>u=.slice a l.length lc/\Ext c N:=λc n=>cP ((n.ext (di _)).cell U) fL;refine .exact _ ae (.exact (i64 l.length) (λc _=>dm fL) ?_);refine .rel (λv c=>∃g,v=eT g 0 l.length/\D.heap.size<=g/\c.heap[g]? =some (.cells (Array.replicate l.length (i64 0)) 3)) ?_ (λc n=>EG (l:=0) oR (gh _) J λN W X E A=>⟨⟨W,rfl,du n.size E,?_⟩,X⟩) ?_
 ·rintro v q b ⟨g,P,Q,K⟩ n;exact⟨g,P,Q,n.at_ K (wC kg)⟩
 ·rw[A];simp[AO]
 refine .exact _ ae (.exact (i64 l.length) (λc _=>dm fL) ?_);refine .rel (λv c=>∃C,v=eT C l.length l.length/\D.heap.size<=C/\c.heap[C]? =some (.cells (Array.replicate l.length (.bool false)) 4)) ?_ (λc n=>EG W5 (di _) J λN W X E A=>⟨⟨W,rfl,du n.size E,?_⟩,X⟩) ?_
 ·rintro v q b ⟨g,P,Q,K⟩ n;exact⟨g,P,Q,n.at_ K (wC kg)⟩
 ·rw[A];simp[AO]
 refine .MI (λv c=>∃i,v=dQ i/\D.heap.size<=i/\c.heap[i]? =some XM) (λv q b ⟨i,P,Q,K⟩ n=>⟨i,P,Q,n.at_ K⟩) (λc n=>eU λN W X E A=>⟨⟨W,rfl,du n.size E,A⟩,X⟩) ?_;refine .rel (λv c=>∃I,v=dQ I/\D.heap.size<=I/\c.heap[I]? =some (.cells #[fo] 225)) ?_ (λc n=>eU λN W X E A=>⟨⟨W,rfl,du n.size E,A⟩,X⟩) ?_
 ·rintro v q b ⟨g,P,Q,K⟩ n;exact⟨g,P,Q,n.at_ K (wC kg)⟩
 refine .yw (λvs c=>∃R i g,vs=[dQ i,R,eT g 0 l.length]/\D.heap.size<=i/\c.heap[i]? =some (.cells #[eT g 0 l.length] 27)) ?_ (λc n v3 K R h4 v8 h8=>?_) ?_
 ·rintro vs q b ⟨R,i,g,P,Q,K⟩ n;exact⟨R,i,g,P,Q,n.at_ K⟩
 ·obtain⟨i,rfl,g1,g2⟩:=K;obtain⟨g,rfl,g3,g4⟩:=h8;refine dI g2 λN Z H=>⟨⟨R,i,g,rfl,g1,H⟩,ZE.store Z g1 (λe=>by cases e) (.inl g2) H⟩
 ·intro c n v3 _ R h4 am an v8 h8 hJ;obtain⟨I,rfl,ao,p⟩:∃I,R=dQ I/\D.heap.size<=I/\c.heap[I]? =some (.cells #[fo] 225):=h4;obtain⟨C,rfl,aK,r⟩:∃C,am=eT C l.length l.length/\D.heap.size<=C/\c.heap[C]? =some (.cells (Array.replicate l.length (.bool false)) 4):=an;obtain⟨g,rfl,aL,s⟩:∃g,v8=eT g 0 l.length/\D.heap.size<=g/\c.heap[g]? =some (.cells (Array.replicate l.length (i64 0)) 3):=h8;have⟨_,i,ap,G,aM,z⟩:∃R i af,[v3,dQ I,eT g 0 l.length]=[dQ i,R,eT af 0 l.length]/\D.heap.size<=i/\c.heap[i]? =some (.cells #[eT af 0 l.length] 27):=hJ;simp only[Cn,and_true]at G;obtain⟨rfl,rfl,G⟩:=G;injection G with G;obtain rfl:g=ap:=dH Addr.block (dT G);clear G;have ex:Ext D c:=n.ext (di _);clear n;have ne:∀{x y:Nat} {cs aq:eH} {t t':cR},c.heap[x]? =some (.cells cs t)->c.heap[y]? =some (.cells aq t')->t≠t'->x≠y:=λhx hy ht e=>by subst e;rw[hx]at hy;exact wC ht (dT hy)
  have d1:=ne z p kg;have d2:=ne z s kg;have d3:=ne z r kg;have d4:=ne p s kg;have d5:=ne p r kg;have d6:=ne s r kg;have su:=dA.lt_of_heap p;refine dI p λN Z H=>?_;have H:N.heap[I]? =some (.cells #[eT C l.length l.length] 225):=H;refine eU λw3 gv e3 aN ag=>dI ag λO k4 ar=>?_;have s2:=Z.size;have au:Ext D N:=ex.cT Z ao;have L:Ext D O:=(au.trans e3).cT k4 (iI ex.size);have av:=dA.lt_of_heap z;have aw:=dA.lt_of_heap s;have ax:=dA.lt_of_heap r;have aO:=dA.lt_of_heap p;have S:∀{x:Nat} {o:Obj},N.heap[x]? =some o->O.heap[x]? =some o:=λhx=>k4.fN (e3.at_ hx) (iI (dA.lt_of_heap hx));have ay:=L.at_ ad;let e:B7:=⟨i,lv,yv,I,gv,g,C,lp,a,lc⟩;have aG:=ac;have sw:=ey.size;have ok:Yk e:=⟨⟨by show i≠lv;omega,by show i≠yv;omega,d1,by show i≠gv;omega,d2,d3⟩,⟨by show g≠lv;omega,by show g≠yv;omega,jg d4,by show g≠gv;omega,d6⟩,⟨by show C≠lv;omega,by show C≠yv;omega,jg d5,by show C≠gv;omega⟩,λb o A=>by have:=al b o A;show b≠i/\b≠g/\b≠C;omega⟩;have hO:Lo e l [] (List.replicate l.length false) O:=by refine⟨S (Z.fN z d1),L.cell U,cO ay rfl,cO (S H) rfl,cO ar rfl,⟨_,S (Z.fN s (jg d4)),dq,λj hj=>by simp at hj⟩,?_,dq,ab.ext (ey.trans L)⟩;have:=S (Z.fN r (jg d5));rw[this];simp[j8]
  let B:dp:=λx=>x=i\/x=g\/x=C;have s4:=L.size;have l4:∀{x:Nat},x<c.heap.size->x<O.heap.size:=λhx=>Cq e3.size k4.size
  have M:∀b,B b->w.heap.size<=b/\b<O.heap.size:=λb A=>by
   obtain rfl|rfl|rfl:=A
   ·exact⟨cM,l4 av⟩
   ·exact⟨cM,l4 aw⟩
   ·exact⟨cM,l4 ax⟩
  have az:=h0 O B (ey.trans L) M;have aA:∀m q b,(Y B m q/\O.heap.size<=q.heap.size)->dz (λx=>x=e.rv\/x=e.rb\/x=e.ub) q b->(Y B m b/\O.heap.size<=b.heap.size):=λm q b h k=>⟨hY B m q b h.1 k,du h.2 k.size⟩;have aB:Hf e l (λm q=>Y B m q/\O.heap.size<=q.heap.size):=by rintro m aC aH wy hr ah hA ⟨aD,aP⟩;have⟨cs,g1,g2,g3⟩:=hA.rb;have⟨f,ai,T,aj,ak,hR⟩:=hy B m aC g wy (λb A=>⟨(M b A).1,iI ((M b A).2)⟩) (.inr (.inl rfl)) (λk hk=>⟨g,0,rfl,cO g1 (by rw[dn];exact g3 k hk)⟩) hr ah aD;refine⟨f,ai,T,aj,ak,hR.mono ?_⟩;rintro en w' ⟨rfl,hk,aE⟩;refine⟨rfl,hA.keep hk (λb A=>?_),aE,iI hk.size⟩;have⟨q1,q2,q3⟩:=hF b A;show b≠i/\b≠lv/\b≠yv/\b≠I/\b≠gv/\b≠g/\b≠C/\_;exact⟨cM,q2,cM,cM,cM,cM,cM,q3⟩
  refine cP hO.gv (cX (Lp ok J aA aB l.length [] (List.replicate l.length false) [] O dq (λd hd=>by cases hd) hO ⟨az,di _⟩) ?_);rintro v w5 ⟨rfl,_,aF,_⟩;exact⟨_,rfl,B,by simpa[n6]using aF⟩
def M9(c:dW)(n d:Nat)(w:cJ):Calls V.prog 172 #[.slice c n d] w (fO λv e=>Ext w e/\∃a,v=.func (.func 196) #[] #[dj a]/\w.heap.size<=a/\e.heap[a]? =some (.cells #[.slice c n d] 27)):=by refine jd Tryz.func172 Tryz.ntmps172 ?_;exact eJ λh a f b g=>⟨_,rfl,f,a,rfl,b,g⟩
section
variable{N:Nat}{r:Option Nat}{ds:List Deferred}{x y:Code}{Q:Exit->Act->cJ->Prop}{l:L}{a:Act}{w:cJ}
def ZW(f:pu ds N l a)(g:flat x=true)(h:WC V.prog Fz N x (λe c d=>∀b,pu ds N c b->Q e b d) l w):x.wpIn (wd r) 0 V.prog Q a w:=
 wpIn_mono (lY dB x _ l a w g f h) (by rintro e b d ⟨c,i,j⟩;grind)
def UL(P:cU)(r:Option Nat)(y:Code)(Q:Exit->Act->dC):Exit->Act->dC
 | .normal,a,w=>y.wpIn (wd r) 0 P Q a w
 |e,a,w=>Q e a w
def wpS(d:pu ds N l a)(f:flat x=true)(h:WC V.prog Fz N x (λe g c=>∀b,pu ds N g b->UL V.prog r y Q e b c) l w):(Code.seq x y).wpIn (wd r) 0 V.prog Q a w:=
 wpIn_seq (wpIn_mono (ZW (Q:=UL jV r y Q) d f h) (by rintro e b c i;cases e<;>exact i))
def ZX{id:Nat}{c:Array Oper}{E:cJ->dC}(g:pu ds N l a)(i:gH E)(h:DW V.prog Fz N (λ_ _=>False) E E 1000 c.toList w l (λj k=>∀f,pu ds N j f->y.wpIn (wd none) 0 V.prog Q f k) 0 c.toList [] (yx c.toList l) [] [] [] [])(m:ny c N (uM c.toList)=true:=by kernel_rfl):
 (Code.seq (.region id c true) y).wpIn (wd none) 0 V.prog Q a w:=
 wpIn_seq (wpIn_wide.2 (GZ dB cL i i cL eE m rfl g.b (λl f w e n=>n f ⟨e.b,e.d.trans g.d⟩) h))
end
def Hh{b:Func}{c:Code}{args:dP}{w:cJ}{R:Ending->dC}(N:Nat)
 (g:V.prog.funcs[K]? =some b)(d:b.body=some c)(l:b.ntmps=N)(i:args.length<=N)(h:∀a,pu [] N (args.zipIdx.map λp=>(p.2,p.1)) a->c.wpIn (wd none) 0 V.prog (bodyPostM Fence.wide 0 V.prog b R) a w):Calls V.prog K args.toArray w R:=by
 refine callsIn_wide.1 (callsIn_of_wp_marks (n:=0) g d trivial (h _ ⟨⟨?_,λt v j=>?_⟩,rfl⟩));grind
 have f:∀(e:dP) (n:Nat),lk ((e.zipIdx n).map λp=>(p.2,p.1)) t=some v->n<=t/\e[t-n]? =some v:=by
  intro e;induction e with
  |nil=>intro n h;cases h
  |cons x r m=>
   intro n h;simp only[List.zipIdx_cons,kI,lk]at h;cases d:Nat.beq n t with
   |true=>
    rw[d]at h;have:n=t:=nQ d;grind
   |false=>
    grind
 have k:=(f args 0 j).2;rw[Nat.sub_zero]at k;grind [List.getElem?_eq_some_iff,kS,Array.getElem?_append_left]
def Lq{d:Func}{t N:Nat}{l:L}{a:Act}{ds:List Deferred}{w:cJ}(c:d.results=#[.tmp t])(e:pu ds N l a)(f:lk l t=some z):Sem.run V.prog (results d a.tmps) w=.ok z w:=by have g:a.tmps.getD t gU=z:=e.b.at_ t z f;rw[Ay,c];simp[ME,g]
def VC{c:Func}{t N:Nat}{l:L}{a:Act}{w:cJ}{R:Ending->dC}(b:c.results=#[.tmp t])(e:pu [] N l a)(f:lk l t=some z)(g:R (.returned z) w):bodyPostM Fence.wide 0 V.prog c R .ret a w:=by show LeavesInM Fence.wide 0 jV c a.tmps R a.defers .returning w;rw[e.d];exact⟨z,Lq b e f,g⟩
def Lr(D:Nat):Deferred:={target:=.collected D,args:=#[]}
def VD{c:Func}{t N D:Nat}{l:L}{a:Act}{w:cJ}{R:Ending->dC}(b:c.results=#[.tmp t])(e:pu [Lr D] N l a)(f:lk l t=some z)(g:w.heap[D]? =some (.deferred (some [])))(h:R (.returned z) (w.putObj D (.deferred none))):bodyPostM Fence.wide 0 V.prog c R .ret a w:=by show LeavesInM Fence.wide 0 jV c a.tmps R a.defers .returning w;rw[e.d];exact⟨dq,.inl ⟨D,_,rfl,run_takeDeferred g,z,Lq b e f,h⟩⟩
def B8(fn:FuncId)(tmps:Array Value)(p:Tmp)(assign body:Code)(D:Nat)(st:LoopState):Loop:={state:=st,pending:=none,fn,tmps,params:=#[p],assign,body,defers:=D}
def Na{N t p:Nat}{l:L}{a:Act}{w:cJ}{c g:Code}{Q:Exit->Act->dC}(q:pu [] N l a)(A:lk l t=some (.func (.func K) #[] W))(B:∀x w,Sem.run V.prog (callFunc K x) w=.ok (.enter K x) w){I:dC} (j:∀o f n,n=B8 o a.tmps p c g w.heap.size .ready->Ext w f->f.heap.size=w.heap.size+2->f.heap[w.heap.size]? =some (.deferred (some []))->f.heap[w.heap.size+1]? =some (.loop n)->
  Calls V.prog K (#[.func (.yield (w.heap.size+1)) #[] #[]]++W) f (fO λv i=>i.heap[w.heap.size+1]? =some (.loop n)/\I i))
 (k:∀n i y,i.heap[w.heap.size+1]? =some (.loop n)->I i->pu [Lr w.heap.size] N l y->Q .normal y (i.putObj (w.heap.size+1) (.loop {n with state:=.exhausted}))):(Code.rangeFunc (.tmp t) #[p] c g).wpIn (wd none) 0 V.prog Q a w:=by
 have r:a.eval (.tmp t)=.func (.func K) #[] W:=q.b.at_ t _ A;refine wpIn_rangeFunc ?_;intro o C;have⟨f,m⟩:∃f,(w.alloc (.deferred (some []))).alloc (.loop (B8 o a.tmps p c g w.lG .ready))=f:=⟨_,rfl⟩;have s:f.heap[w.lG+1]? =some (.loop (B8 o a.tmps p c g w.lG .ready)):=by grind [World.alloc_heap_new,World.size_alloc]
 have u:f.heap[w.lG]? =some (.deferred (some [])):=by grind [alloc_old,World.alloc_heap_new]
 have D:Ext w f:=by rw[<-m];exact(Ext.alloc _ _).trans (Ext.alloc _ _)
 refine⟨w.lG+1,[Lr w.lG],f,{target:=.fn (.func K) W,args:=#[.func (.yield (w.lG+1)) #[] #[]]},f,K,#[.func (.yield (w.lG+1)) #[] #[]]++W,f,?_,?_,λ_ _=>trivial,?_,(λh=>by cases h),?_⟩
 ·rw[<-m];exact run_enterLoop_outer _ _ _ _ _
 ·simp only[resolve,rangeCall,r];simp[go_sem]
 ·grind [invoke]
 ·refine(callsIn_wide.2 (j o f _ rfl D (by rw[<-m];simp) u s)).mono ?_;rintro e i ⟨v,rfl,z,E⟩;have F:=run_endLoop (P:=jV) z (by simp[B8]);refine⟨none,_,F,k _ i _ z E ⟨⟨q.b.size,q.b.at_⟩,?_⟩⟩;show [Lr w.lG]++a.defers=_;rw[q.d];rfl
def Hi{i m p D N:Nat}{a b:Code}{j:cJ}{n:Loop}(o:n=B8 m W p a b D .ready)(q:j.heap[i]? =some (.loop n)){l:L}(C:wX N l ⟨W,[]⟩)(S:p<N){R:dC}(E:flat a=true)(F:flat b=true)
 (h:∀s t,t=j.putObj i (.loop s)->t.heap[i]? =some (.loop s)->WC V.prog Fz N a (λe u B=>e=.normal/\B=j/\WC V.prog Fz N b (λe G v=>e=.normal/\v.heap[i]? =some (.loop s)/\R (v.putObj i (.loop n))) u t) (ins N (some p) z l) j):
 ∃f d c g,Sem.run V.prog (Instr.yield i #[z]) j=.ok (.round i f d c g) j/\RoundIn Fence.wide 0 V.prog i f d c g j λH I=>H=.returned (.bool true)/\R I:=by
 subst o;have J:=run_yield (P:=jV) (args:=#[z]) q (by simp[B8]);refine⟨_,_,_,_,J,roundIn_of_wpIn trivial ?_⟩;have w:pu [] N (ins N (some p) z l) ⟨W.setIfInBounds p z,[]⟩:=⟨C.put (some p) z cL,rfl⟩;have K:((B8 m W p a b D .ready).params.zip #[z]).foldl (λ(W:eH) (x:Tmp×cK)=>W.setIfInBounds x.1 x.2) (B8 m W p a b D .ready).tmps=W.setIfInBounds p z:=by simp[B8]
 rw[K];refine wpIn_mono (lY (r:=some i) dB a _ _ _ _ E w (h (B8 m W p a b D .busy) _ rfl (World.putObj_heap_same (dA.lt_of_heap q)))) ?_;rintro e M B ⟨u,y,rfl,rfl,k⟩;refine⟨_,run_beginRound q rfl,wpIn_mono (lY (r:=some i) dB b _ u M _ F y k) ?_⟩;rintro e T v ⟨G,O,rfl,A,Q⟩;exact⟨_,_,run_endRound none A,rfl,Q⟩
def Ext.AP(h:Ext w t)(o:Obj)(b:w.heap.size<=m):Ext w (t.putObj m o):=
 ⟨h.os,h.tape,h.output,fB h.size,h.drawn,λx a=>(World.putObj_heap_other cM).trans (h.block x a)⟩
def mw(W:cJ)(b:Nat)(o:Obj):dz (λx=>x=b) W (W.putObj b o):=
 ⟨rfl,rfl,rfl,dq,di _,λx _ a=>World.putObj_heap_other a⟩
def pP(d:w.heap[m]? =some Q)(f:∀b t c,Q≠ .cells b t c)(a:w.cell? h=some x):(w.putObj m O).cell? h=some x:=by refine(mw w m O).fe a λe=>?_;unfold World.cell? at a;grind
def qu(G:Gd)(a:List cN)(b:cN):it G (a++[b])=fG G (it G a) b:=by simp[it]
structure VE(G:Gd)(bb lb lp:Nat)(rc:Loop)(W1:cJ)(B:Nat->Prop)(pre:List (List Nat))(W:cJ):Prop where
 b:∀b,B b->W1.heap.size<=b
 k:dz (λb=>b=bb\/b=lb\/b=lp) W1 W
 l:W.heap[lp]? =some (.loop rc)
 lt:bb<W1.heap.size/\lb<W1.heap.size/\lp<W1.heap.size
 at_:∃a c,W.heap[bb]? =some (.cells #[.slice a (it G pre).1.length c] 27)/\iJ (λx=>B x\/x<W1.heap.size) W a (it G pre).1/\(it G pre).1.length<=c/\W.heap[lb]? =some (.cells #[.int .i64 (it G pre).2] 3)
def VE.keep{n:Loop}{d:List cN}(h:VE H m k i n w B d t)(f:dz B t e):VE H m k i n w B d e:=by have⟨a,c,q,r,s,u⟩:=h.at_;have j:∀x,x<w.heap.size->¬B x:=λx p g=>iI (h.b x g);exact⟨h.b,h.k.trans f (λ_ _ h=>h) (λx p g=>absurd g (j x p)),f.fN h.l (j _ h.lt.2.2),h.lt,a,c,f.fN q (j _ h.lt.1),r.go (λ_ h=>.inl h) (λb o v g y=>f.fe y λz=>g (.inl z)),s,f.fN u (j _ h.lt.2.1)⟩
def mv.all{c:Nat->cK}{F:(dp)->Prop}{R:(dp)->Nat->nu}(K:CY T c)(p:∃A,F A)(h:∀A,F A->mv c (R A) m w):mv c (λs v w=>∀A,F A->R A s v w) m w:=by have⟨q,d⟩:=p;have⟨j,a,k,r⟩:=(h q d).out;refine⟨j,a,k,λe l=>?_⟩;have⟨s,n,o,_⟩:=r e l;refine⟨s,n,o,λA t=>?_⟩;have⟨f,b,g,i⟩:=(h A t).out;rw[k]at g;obtain⟨rfl,rfl⟩:j=f/\a=b:=cL;have⟨u,x,y,z⟩:=i e l;obtain rfl:=K.inj s u n x (o.symm.trans y);grind
def EI{gp mk ms n0 s:Nat}{F:(dp)->Prop}(h:qE gp mk ms N w)(au:∃A,F A)(C:∀A,F A->∀b,A b->b<w.heap.size)(hp:∀A,F A->mc A mk ms N w)(hn:n0<=ms)(hs:s<32)(hd:∀d∈eh s,d<N.doors.length):
 Calls V.prog 129 #[dj gp,.int .u8 s] w (fO λv w'=>jL n0 w w'/\∀A,F A->mc A mk ms N w'/\ShR A N s v w'):=by
 have av:(eh s).length<=100000:=by grind [lZ,eh]
 refine Hh (args:=[dj gp,.int .u8 s]) 46 V.func129 rfl Tryz.ntmps129 dq λa hF=>wpS hF rfl (eJ λw1 b2 e1 bf L a1 aK=>?_);have h1:=h.ext e1;have aw:=λA C=>(hp A C).ext e1;refine wpS aK rfl (cP (cO L rfl) (cP h1.Zf (MZ EF P7 (z:=fo) dq (mv.all EF au λA C=>(aw A C).s) hs (λv hv=>ko rfl λa2 af=>VC rfl af rfl ⟨_,rfl,e1.iC n0,λA C=>⟨aw A C,hv A C⟩⟩) (kZ rfl λa2 af=>?_))));refine wpS af rfl (eU λw2 q e2 bg ab a3 aL=>?_);refine wpS aL rfl (eU λw3 p e3 aM ac=>dI ac λw4 k4 ax a4 aN=>?_);have bh:=dA.lt_of_heap ab;have bi:=dA.lt_of_heap ac;have bj:=dA.lt_of_heap L;have e4:Ext w2 w4:=e3.cT k4 aM;have E4:Ext w w4:=(e1.trans e2).trans e4;have ay:fF w4 q #[fo] 27:=e4.at_ ab;have ad:fF w4 p #[i64 (-1)] 3:=ax;refine wpIn_seq<|wpS aN rfl (cX (ww s w4 hs) ?_);rintro bk w5 ⟨e5,az⟩;obtain⟨la,lc,rfl,ag,_⟩:=az.row;refine cX (M9 la (eh s).length lc w5) ?_;rintro fv g ⟨e6,lv,rfl,bl,ae⟩;intro a6 ah;have bm:∀b o,la=some (dt b o)->w4.heap.size<=b/\b<w5.heap.size:=λb o f=>by obtain⟨_,⟨_,h2⟩|⟨b',c',cs,g1,h2,g3,_⟩⟩:=az;grind;grind
 have s1:=e1.size;have s2:=e2.size;have s4:=e4.size;have s5:=e5.size;have s6:=e6.size;have l6:lv<g.heap.size:=dA.lt_of_heap ae;have bn:p<w4.heap.size:=dA.lt_of_heap ad;have S:Ext w g:=E4.trans (e5.trans e6);have aA:fF g b2 #[dj gp] 138:=((e2.trans e4).trans (e5.trans e6)).at_ L;have bo:q≠p/\q≠b2/\p≠b2:=cL;refine wpIn_block (Na ah rfl dq (I:=λW2=>∃M G B,Ext g G/\G.heap.size=g.heap.size+2/\G.heap[g.heap.size]? =some (.deferred (some []))/\VE N q p (g.heap.size+1) M G B (n6 (eh s)) W2) ?_ ?_);intro fn G M aO c aB hD hL;have ai:=ag.ext (e6.trans c);have aC:=c.at_ ae;refine(M6 (lv:=lv) (lc:=lc) (lp:=g.heap.size+1) (F:=λb=>b=q\/b=p\/b=g.heap.size+1) (Y:=λB J W=>VE N q p (g.heap.size+1) M G B J W) av rfl (cO aC rfl) ai (λb o f=>?_) (λb f=>?_) (λW2 B T hB=>?_) (λB J a b hy k=>hy.keep k) ?_).mono ?_;grind;refine⟨cM,cM,λb' o bp=>?_⟩;grind;refine⟨λb f=>(hB b f).1,T.keep _,T.at_ hL,cM,none,0,?_,λk hk=>by simp[it]at hk,gh _,?_⟩;exact T.at_ (c.at_ (e6.at_ (e5.at_ ay)));exact T.at_ (c.at_ (e6.at_ (e5.at_ ad)));intro B J K rb W aj aP al bq aD j;have EW:Ext w W:=⟨j.k.os.trans (S.trans c).os,j.k.tape.trans (S.trans c).tape,j.k.output.trans (S.trans c).output,cL,du (S.trans c).drawn j.k.drawn,λx hx=>(j.k.block x cM cM).trans ((S.trans c).block x hx)⟩;have⟨ba,bc,g1,g2,g3,g4⟩:=j.at_;have⟨q1,q2,q3⟩:=j.lt;have lW:=j.k.size;refine Hi aO j.l ⟨ah.b.size,ah.b.at_⟩ cL (R:=λw'=>dz (λb=>b=q\/b=p\/b=g.heap.size+1) W w'/\VE N q p (g.heap.size+1) M G B (J++[K]) w') rfl rfl λaE W0 U O=>⟨rfl,rfl,?_⟩;have kB:dz (λx=>x=g.heap.size+1) W W0:=by rw[U];exact mw _ _ _
 have bd:W0.heap.size=W.heap.size:=by rw[U];simp
 have E0:Ext w W0:=by rw[U];exact EW.AP _ cM
 clear U;have P:=kB.fN g1 cM;have t:=kB.fN g4 cM;have aQ:fF W0 b2 #[dj gp] 138:=kB.fN (j.k.fN (c.at_ aA) cM) cM
 have am:∀(r:cJ) (a':dW) (c':Nat) (y:cN) (D:Int),r.heap[g.heap.size+1]? =some (.loop aE)->fF r q #[.slice a' y.length c'] 27->fF r p #[i64 D] 3->it N (J++[K])=(y,D)->iJ (λx=>B x\/x<G.heap.size) r a' y->y.length<=c'->
  dz (λb=>b=q\/b=p\/b=g.heap.size+1) W0 r->Exit.normal=.normal/\r.heap[g.heap.size+1]? =some (.loop aE)/\dz (λb=>b=q\/b=p\/b=g.heap.size+1) W (r.putObj (g.heap.size+1) (.loop M))/\VE N q p (g.heap.size+1) M G B (J++[K]) (r.putObj (g.heap.size+1) (.loop M)):=λr a' c' y D y1 y2 y3 y4 y5 y6 y7=>by
  have kE:=mw r (g.heap.size+1) (.loop M);have kW:dz (λb=>b=q\/b=p\/b=g.heap.size+1) W (r.putObj (g.heap.size+1) (.loop M)):=(kB.trans y7 (λ_ _ h=>.inr (.inr h)) λ_ _ h=>h).trans kE (λ_ _ h=>h) λ_ _ h=>.inr (.inr h);refine⟨rfl,y1,kW,j.b,j.k.trans kW (λ_ _ h=>h) λ_ _ h=>h,World.putObj_heap_same (dA.lt_of_heap y1),j.lt,a',c',?_,?_,?_,?_⟩;rw[y4];exact kE.fN y2 cM;rw[y4];exact y5.go (λ_ h=>.inl h) λb o v f n=>pP y1 (λ_ _ _ e=>cL) n;grind;rw[y4];exact kE.fN y3 cM
 have E:fJ W0 (pr rb 0) K:=λk hk=>by have⟨b,o,z1,z2⟩:=al k hk;have br:=aj rb aP;have:b=rb:=cL;subst this;exact⟨b,o,z1,kB.fe z2 cL⟩
 have aR:∀d∈K,d<N.doors.length:=λd aS=>hd d (aD d aS);have aF:K.length<=100000:=cM;refine cP (cO aQ rfl) (dF (MQ (h.ext E0) aR aF E) (cP (cO t rfl) (dN ⟨λaT=>ko rfl (cX (mV E cM) λuv w7 X=>?_),λbs=>cP (cO t rfl) (dN ⟨λaG=>cX (mV E cM) λuv w7 X=>?_,λbe=>?_⟩)⟩)));have⟨Z,X⟩:=X;obtain⟨ua,uc,rfl,an,ao⟩:=eO.M4 (A:=λx=>B x\/x<G.heap.size) X (λb f=>by obtain f|f:=f;have:=(aj b f).2;grind;grind);refine dI (Z.at_ P) λw8 k8 ap=>dI (k8.fN (Z.at_ t) cM) λr k9 aq=>?_
 exact am r _ _ _ _ (k9.fN (k8.fN (Z.at_ O) (show¬g.heap.size+1=q by omega)) (show¬g.heap.size+1=p by omega)) (k9.fN ap (show¬q=p by omega)) aq (by rw[qu,fG,cV (.inl (fx aT))]) (an.go (λ_ h=>.inl h) λb o v f n=>k9.fe (k8.fe n (λe=>f (.inr cL))) (λe=>f (.inr cL))) ao
  ((Z.keep (λb=>b=q\/b=p\/b=g.heap.size+1)).trans (k8.trans k9 (H:=λb=>b=q\/b=p\/b=g.heap.size+1) (λ_ _ h=>.inl h) λ_ _ h=>.inr (.inl h)) (λ_ _ h=>h) λ_ _ h=>h)
 have⟨Z,X⟩:=X;obtain⟨ua,uc,rfl,an,ao⟩:=eO.M4 (A:=λx=>B x\/x<G.heap.size) X (λb f=>by obtain f|f:=f;have:=(aj b f).2;grind;grind);refine dI (Z.at_ P) λw8 k8 ap=>dI (k8.fN (Z.at_ t) cM) λr k9 aq=>?_
 exact am r _ _ _ _ (k9.fN (k8.fN (Z.at_ O) (show¬g.heap.size+1=q by omega)) (show¬g.heap.size+1=p by omega)) (k9.fN ap (show¬q=p by omega)) aq (by rw[qu,fG,cV (.inr (fx aG))]) (an.go (λ_ h=>.inl h) λb o v f n=>k9.fe (k8.fe n (λe=>f (.inr cL))) (λe=>f (.inr cL))) ao
  ((Z.keep (λb=>b=q\/b=p\/b=g.heap.size+1)).trans (k8.trans k9 (H:=λb=>b=q\/b=p\/b=g.heap.size+1) (λ_ _ h=>.inl h) λ_ _ h=>.inr (.inl h)) (λ_ _ h=>h) λ_ _ h=>h)
 refine am W0 ba bc _ _ O P t (by rw[qu,fG,cS (by grind)]) (g2.go (λ_ h=>.inl h) λb o v f n=>kB.fe n (λe=>f (.inr cL))) g3 (dz.refl _ _);rintro e W2 ⟨v,rfl,B,j⟩;exact⟨_,rfl,j.l,_,G,B,c,aB,hD,j⟩;rintro M W2 a7 aU ⟨bt,G,B,c,aB,hD,j⟩ aV;have lD:=dA.lt_of_heap hD;have⟨q1,q2,q3⟩:=j.lt;have⟨ba,bc,g1,g2,g3,g4⟩:=j.at_;have EW:Ext w W2:=⟨j.k.os.trans (S.trans c).os,j.k.tape.trans (S.trans c).tape,j.k.output.trans (S.trans c).output,cL,du (S.trans c).drawn j.k.drawn,λx hx=>(j.k.block x cM cM).trans ((S.trans c).block x hx)⟩;have D2:=j.k.fN hD cM;have aW:=j.k.fN (c.at_ aA) cM;have⟨W3,Q⟩:∃W3,W3=W2.putObj (g.heap.size+1) (.loop {M with state:=.exhausted}):=⟨_,rfl⟩;have k3:dz (λx=>x=g.heap.size+1) W2 W3:=by rw[Q];exact mw _ _ _
 have E3:Ext w W3:=by rw[Q];exact EW.AP _ cM
 have aX:iJ (λx=>B x\/x<G.heap.size) W3 ba (dG N s):=by rw[Q];exact g2.go (λ_ h=>.inl h) λb o v f n=>pP aU (λ_ _ _ e=>cL) n
 rw[<-Q];clear Q;have D3:=k3.fN D2 dq;have aY:=k3.fN aW cM;have aH:=k3.fN g1 cM;have h3:=h.ext E3;show Code.wpIn _ _ _ (Code.seq _ _) _ a7 W3;refine ZX aV dD (dl (cO aY rfl) (dl h3.Zf (dl (cO aH rfl) λw8 e8=>?_)));have aa:=λA C=>(hp A C).ext (E3.trans e8);have aI:∀A,F A->ShR A N s (.slice ba (dG N s).length bc) w8:=λA i=>⟨ba,bc,rfl,(aX.go (λ_ h=>.inl h) λb o v f n=>e8.cell n).more λb f=>.inl (.inr (iI (C A i b f))),g3⟩;refine wB EF P7 (mv.all EF au λA C=>(aa A C).s) hs hn (λr m=>⟨λs u X A C=>(X A C).go (λ_ h=>.inl h) λb o v f n=>m.cell n,λA C=>(aI A C).go (λ_ h=>.inl h) λb o v f n=>m.cell n⟩) λr m9 bu aZ=>?_;have bv:=h.ne;have ar:∀A,F A->mc A mk ms N r:=λA i=>⟨aZ.go (λs v hr=>hr A i) λo ho=>ho,(aa A i).k.go (λs v hr=>hr.go (λ_ h=>.inl h) λb o v f n=>m9.cell n) λo ho=>cL,(aa A i).ak,(aa A i).asm⟩;have a0:=λA i=>(aI A i).go (A':=A) (λ_ h=>.inl h) (λb o v f n=>m9.cell n);have D9:r.heap[g.heap.size]? =some (.deferred (some [])):=m9.block _ _ (e8.at_ D3) (.inr rfl);have a5:=m9.at_ (e8.at_ aH);intro a9 a8;refine wpS a8 rfl (cP (cO a5 rfl) λbw aJ=>wpIn_ret (VD rfl aJ rfl D9 ⟨_,rfl,?_,λA i=>⟨?_,?_⟩⟩));exact(((E3.trans e8).iC n0).trans m9).cT (mw _ _ _) cM;refine(ar A i).go (λ_ h=>.inl h) (λb o v f n=>pP D9 (λ_ _ _ e=>cL) n) λb o f ho=>(World.putObj_heap_other λe=>?_).trans ho;have⟨bx,c1,t1,_⟩:=(ar A i).s.out;have⟨bz,c2,t2,_⟩:=(ar A i).k.out;obtain rfl|rfl:=f;grind;grind;exact(a0 A i).go (λ_ h=>.inl h) λb o v f n=>pP D9 (λ_ _ _ e=>cL) n
def yB{gp mk ms n0 s:Nat}(h:qE gp mk ms H w)(c:∀b,A b->b<w.heap.size)(f:mc A mk ms H w)(l:n0<=ms)(m:s<32)(n:∀d∈eh s,d<H.doors.length):
 Calls V.prog 129 #[dj gp,.int .u8 s] w (fO λv g=>MR n0 mk ms H w g/\∀a,(∀b,a b->b<w.heap.size)->mc a mk ms H w->ShR a H s v g):=by
 refine(EI (n0:=n0) (F:=λa=>(∀b,a b->b<w.lG)/\mc a mk ms H w) h ⟨A,c,f⟩ (λa h=>h.1) (λa h=>h.2) l m n).mono ?_;rintro e g ⟨v,rfl,o,k⟩;exact⟨v,rfl,⟨o,λa i j=>(k a ⟨i,j⟩).1⟩,λa i j=>(k a ⟨i,j⟩).2⟩
def Hj{gp mk ms n0 s:Nat}(h:qE gp mk ms H w)(c:∀b,A b->b<w.heap.size)(f:mc A mk ms H w)(i:n0<=ms)(j:s<32)(k:∀d∈eh s,d<H.doors.length):
 Calls V.prog 129 #[dj gp,.int .u8 s] w (fO λv a=>jL n0 w a/\mc A mk ms H a/\ShR A H s v a):=by
 refine(yB h c f i j k).mono ?_;rintro e a ⟨v,rfl,g,l⟩;exact⟨v,rfl,g.1,g.2 A c f,l A c f⟩
def MA(n0 mk ms:Nat)(G:Gd)(A:dp)(a b:cJ):Prop:=jL n0 a b/\(mc A mk ms G a->mc A mk ms G b)
def wD(n0 mk ms:Nat)(G:Gd)(A:dp):gH (MA n0 mk ms G A):=⟨λw=>⟨jL.refl _ _,id⟩,λ_ _ _ h k=>⟨h.1.trans k.1,λa=>k.2 (h.2 a)⟩,λw=>⟨(Ext.drew w).iC n0,λa=>a.ext (Ext.drew w)⟩⟩
def Ext.ma(h:Ext w t)(n0 mk ms:Nat)(G:Gd)(A:dp):MA n0 mk ms G A w t:=⟨h.iC n0,λa=>a.ext h⟩
def ShR.iC{s n0:Nat}(h:ShR A H s x w)(e:jL n0 w t):ShR A H s x t:=h.go (λ_ h=>.inl h) λb o x c a=>e.cell a
def EJ:∀d∈dG H s,d∈eh s:=by
 have rows:∀(l:cN) (m:Nat) (b:cN) (a:List Bool),(∀d∈b,d∈l)->∀r∈oW l m b a,∀d∈r,d∈l:=by
  intro l m;induction m with
  |zero=>intro b a e r h;simp only[oW,jE]at h;subst h;exact e
  |succ m n=>
   intro b a e r h;simp only[oW,me]at h;have⟨i,j,h⟩:=h;split at h;cases h;refine n _ _ (λd c=>?_) r h;obtain c|c:=jQ.1 c;exact e d c;have j:i<l.iw:=fB j;rw[jE.1 c,getD_eq j];exact eG j
 have f:∀(g:List cN) (k:cN×Int),(∀r∈g,∀d∈r,d∈eh s)->(∀d∈k.1,d∈eh s)->∀d∈(g.foldl (fG H) k).1,d∈eh s:=by
  intro g;induction g with
  |nil=>intro k _ h;exact h
  |cons r g n=>
   intro k o p;rw[jP];refine n _ (λx q=>o x (jD _ q)) ?_;unfold fG;split;exact o r fW;exact p
 exact f _ _ (λr e=>rows _ _ _ _ (λd c=>by cases c) r e) λd c=>by cases c
theorem rP{G:Gd}:(dG G s).length<=5:=by
 have rows:∀(l:cN) (m:Nat) (b:cN) (a:List Bool),∀r∈oW l m b a,r.length=b.length+m:=by
  intro l m;induction m with
  |zero=>intro b a r h;simp only[oW,jE]at h;subst h;rfl
  |succ m f=>
   intro b a r h;simp only[oW,me]at h;have⟨i,o,h⟩:=h;split at h;cases h;have:=f _ _ r h;simp at this;omega
 have c:∀(d:List cN) (e:cN×Int),(∀r∈d,r.length<=5)->e.1.length<=5->(d.foldl (fG G) e).1.length<=5:=by
  intro d;induction d with
  |nil=>intro e _ h;exact h
  |cons r d f=>
   intro e g j;rw[jP];refine f _ (λx k=>g x (jD _ k)) ?_;unfold fG;split;exact g r fW;exact j
 have p:=lZ s 5;exact c _ _ (λr n=>by have:=rows _ _ _ _ r n;simp[eh]at this⊢;omega) dq
def EK{gp mk ms n0 s:Nat}{G:Gd}(h:qE gp mk ms G w)(m:∀b,A b->b<w.heap.size)(o:mc A mk ms G w)(p:n0<=ms)(q:s<32)(k:∀d∈eh s,d<G.doors.length):
 Calls V.prog 121 #[dj gp,.int .u8 s] w (fO λv r=>v=.bool (l5 G s)/\MA n0 mk ms G A w r):=by
 have g:=wD n0 mk ms G A;refine jd Tryz.func121 Tryz.ntmps121 ?_;refine dE g<| .rel (ShR A G s) (λv a b h e=>h.iC e.1) (λi f=>cX (Hj (h.iC f.1) (λb t=>ew (m b t) f.1.size) (f.2 o) p q k) λv u ⟨x,y,z⟩=>⟨z,x,λ_=>y⟩)<| .exact (i64 (iA G (dG G s))) (λi f v l=>?_) ?_;obtain⟨a,c,rfl,B,_⟩:=l;have D:=rP (G:=G) (s:=s);exact ep (Ex (h.iC f.1) (λd j=>k d (EJ d j)) cM B.n) λu C=>⟨rfl,C.ma _ _ _ _ _⟩;refine xB g (λi f=>(h.iC f.1).c3) (UE ?_ g);rintro i f v l;exact⟨_,rfl,rfl,f⟩
section
variable{w:cJ}{k:cK->cJ->Prop}
def tailA(a:dW)(c:Nat):dW:=if c=1 then a else a.map (·.add 1)
def Ls(j:1<=m)(l:m<=i)(h:k (.slice (tailA a i) (m-1) (i-1)) w)(d:ty T=some ⟨3,1,1,0⟩:=by rfl):jO V.prog (Instr.sliceAt T (.slice a m i) (some (.int .i64 1)) none none) w k:=by have⟨e,f,g⟩:=tv d rfl;refine⟨_,w,?_,h⟩;have b:(1:Int)<=(m:Int):=cM;have c:(0:Int)<=(1:Int):=dq;unfold Instr.sliceAt Instr.slice;simp only[Sem.run_bind,iz f,Result.andThen_ok,Instr.sliceBounds,Instr.sliceBound,asIntOf,pure_bind,c,b,and_self,em,Sem.run_pure,mP g,wZ,iR,fq];simp only[Int.toNat_one,Nat.one_mul,tailA]
end
def fJ.tail{w:cJ}(h:fJ w a (m::l))(e:(m::l).length<=i):fJ w (tailA a i) l:=λk f=>by have⟨b,o,d,g⟩:=h (k+1) cL;have c:¬i=1:=cL;refine⟨b,o+1,?_,?_⟩;unfold tailA;rw[cS c,d];simp[iq];grind
def fJ.cut{w:cJ}(h:fJ w a l)(i:Nat):fJ w a (l.take i):=λk d=>by have c:k<l.length:=cL;have⟨b,o,e,f⟩:=h k c;grind
def Qb(a:eH):Prop:=∀(j:Nat) (v:cK),a[j]? =some v->∃n:Int,v=Value.int .u8 n
def JB(a:cN):dP:=a.map λn:Nat=>Value.int .u8 n
def Hk(w:cJ)(a:dW)(c:cN):Prop:=∀k (h:k<c.length),∃b o,a=some ⟨b,o,none⟩/\w.cell? ⟨b,o+k,none⟩=some (.int .u8 c[k])
def Hk.iC{w c:cJ}{n0:Nat}(h:Hk w a l)(e:jL n0 w c):Hk c a l:=λk d=>by have⟨b,o,f,g⟩:=h k d;exact⟨b,o,f,e.cell g⟩
def xD(f:Nat)(w:cJ)(e:cK)(a:cN):Prop:=(a=[]/\e=.slice none 0 0)\/∃d c b,e=.slice (some ⟨d,0,none⟩) a.length c/\a.length<=c/\f<=d/\w.heap[d]? =some (.cells b 154)/\Qb b/\a.length<=b.size/\∀k (h:k<a.length),b[k]? =some (.int .u8 a[k])
def xD.iC{w a:cJ}{b:cK}{n0:Nat}(h:xD m w b l)(e:jL n0 w a):xD m a b l:=by obtain h|⟨d,c,f,g,i,j,k,n⟩:=h;exact .inl h;exact .inr ⟨d,c,f,g,i,j,e.at_ k,n⟩
def xD.row{w:cJ}{b:cK}(h:xD m w b l):∃a c,b=.slice a l.length c/\l.length<=c/\Hk w a l/\(a=none->l=[]):=by obtain⟨rfl,rfl⟩|⟨e,c,j,f,g,n,i,o,p,q⟩:=h;exact⟨none,0,rfl,di _,λk d=>by simp at d,cL⟩;exact⟨_,c,f,g,λk d=>⟨e,0,rfl,cO i cL⟩,cL⟩
def EL{w:cJ}{v:cK}(h:dg m 154 [.int .u8 0] w v l.length (JB l)):xD m w v l:=by obtain⟨s,⟨e,rfl⟩|⟨b,c,f,g,rfl,i,t,n,u,o,y⟩⟩:=h;exact .inl ⟨oy e,rfl⟩;have p:(JB l).length=l.length:=cL;refine .inr ⟨b,c,f,rfl,n,g,i,λj v a=>?_,cL,λk z=>?_⟩;have q:=(iS.1 a).1;obtain d|r:=gC j (JB l).length;rw[o j d]at a;obtain⟨x,_,rfl⟩:=kJ.1 (pz a);grind;grind;grind [List.getElem?_eq_getElem,JB]
def mc.sets{A:dp}{mk ms gb:Nat}{w:cJ}{C:eH}(h:mc A mk ms H w)(q:w.heap[gb]? =some (.cells C T))(D:Qb C):mc (λx=>A x\/x=gb) mk ms H w:=by
 have E:∀{a:dW} {l:cN},iJ A w a l->iJ (λx=>A x\/x=gb) w a l:=λf k r=>by have⟨b,o,j,g,d⟩:=f k r;refine⟨b,o,λi=>i.elim j λe=>?_,g,d⟩;subst e;simp only[World.cell?,q]at d;have⟨n,t⟩:=D _ _ d;cases t
 have I:∀{a:dW} {y:List cN},l7 A w a y->l7 (λx=>A x\/x=gb) w a y:=λf k r=>by have⟨b,o,J,K,j,g,d,m,z⟩:=f k r;refine⟨b,o,J,K,λi=>i.elim j λe=>?_,g,d,E m,z⟩;subst e;simp only[World.cell?,q]at d;have⟨n,t⟩:=D _ _ d;cases t
 have⟨L,O,F,_⟩:=h.s.out;have⟨M,P,G,_⟩:=h.k.out;refine⟨h.s.go (λs v f=>?_) λo B=>B,h.k.go (λs v f=>?_) λo B=>B,λi=>i.elim h.ak λe=>?_,λi=>i.elim h.asm λe=>?_⟩;have⟨a,c,g,d,m⟩:=f;exact⟨a,c,g,E d,m⟩;have⟨u,b,g,d⟩:=f;refine⟨u,b,g,?_⟩;cases p:fT H s with
 |none=>rw[p]at d;exact d
 |some y=>
  rw[p]at d;have⟨j,a,c,m,z,N⟩:=d;exact⟨j,a,c,m,I z,N⟩
 rw[e,q]at G;cases G;rw[e,q]at F;cases F
def mc.fewer{A a:dp}{mk ms:Nat}{w:cJ}(h:mc a mk ms H w)(c:∀b,A b->a b):mc A mk ms H w:=h.more cL
def ky(G:Gd)(s:Nat):Prop:=s<32/\∀d∈eh s,d<G.doors.length
def Qc:∀s:Nat,s<32->∀d:Nat,d<5->∀x∈eh (oi s d),x∈eh s\/x=d:=by decide+kernel
theorem ky.oi(h:ky H s)(b:d<H.doors.length)(c:H.doors.length<=5):ky H (oi s d):=
 ⟨Ei s h.1 d cM,λx a=>(Qc s h.1 d cM x a).elim (h.2 x) cM⟩
def ky.zero(G:Gd):ky G 0:=⟨dq,λd a=>by
 have:eh 0=[]:=by decide+kernel
 grind⟩
theorem ky.eB{G:Gd}(c:G.doors.length<=5)(a:∀d∈l,d<G.doors.length):ky G (eB l):=by
 have b:∀(l:cN) (s:Nat),ky G s->(∀d∈l,d<G.doors.iw)->ky G (setFrom s l):=by
  intro l;induction l with
  |nil=>intro s h _;exact h
  |cons d r e=>intro s h a;exact e _ (h.oi (a d fW) c) cL
 exact b l 0 (ky.zero G) a
def l8{a:Type}{f:Nat->Option a}{k:Nat}{y:a}(c:k<m)(d:∀i,i<k->f i=none)(e:f k=some y):(List.range m).findSome? f=some y:=by obtain⟨b,rfl⟩:∃b,m=k+1+b:=⟨m-(k+1),cM⟩;rw[List.range_add,nq,List.findSome?_append,List.findSome?_append];grind
theorem qv{a:Type}{f:Nat->Option a}(b:∀i,i<m->f i=none):(List.range m).findSome? f=none:=cL
def jL.patch{w f h j g:cJ}(a:jL m w f)(b:dz (λx=>x=i) f h)(c:jL m h j)(d:dz (λx=>x=i) j g)(p:∀o,f.heap[i]? =some o->g.heap[i]? =some o):jL m w g:=
 ⟨d.os.trans (c.os.trans (b.os.trans a.os)),d.tape.trans (c.tape.trans (b.tape.trans a.tape)),d.output.trans (c.output.trans (b.output.trans a.output)),by have:=a.size;have:=b.size;have:=c.size;have:=d.size;omega,by have:=a.drawn;have:=b.drawn;have:=c.drawn;have:=d.drawn;omega,λx o l k=>by have n:=a.block x o l k;by_cases e:x=i;grind;exact d.fN (c.block x o (b.fN n e) k) e⟩
end Go.Proofs.W
