/- Laws that the proof needs, part 3. Conditions: none. -/
import Derived.Test.YteeagjkaflglpaaGreatX02
set_option maxRecDepth 100000
set_option maxHeartbeats 8000000
set_option linter.all false
variable{m k i j o p s d:Nat}{w t e:cI}{x y z:cJ}{A B C:Nat->Prop}{l f:List Nat}{T U:cQ}{a:Option Go.Addr}{W X:Array cJ}{M Y:List cJ}{I J:Int}{h:Go.Addr}{D E:Bool}{O Q:Go.Obj}{K:dY}{S:cI->Prop}
namespace Go.Proofs.W
open Go.RowKit
abbrev io:=cJ->cI->Prop
def Ax{a:Type}(f:a->Bool):List a->Bool
 |[]=>false
 |x::r=>match f x with
  |true=>true
  |false=>Ax f r
def Uq:Option Nat->Nat->Bool
 |some d,t=>Nat.beq d t
 |none,_=>false
def V2(a:List Oper)(t:Nat):Bool:=Ax (λo=>Uq o.dst t) a
def zb(a:List Oper)(o:Oper)(t:Nat):Bool:=match V2 a t with
 |false=>true
 |true=>Ax (λe=>match Region.binds .any e with
  |true=>Uq (As a e.on) t
  |false=>false) o.after.toList
def rd:dW->cM
 | .tmp t=>[t]
 |_=>[]
def Xp:List dW->cM
 |[]=>[]
 |x::r=>rd x++Xp r
def XT:List (Nat×dW)->cM
 |[]=>[]
 |x::r=>rd x.2++XT r
def Xq:Option dW->cM
 |none=>[]
 |some x=>rd x
def SB:Op->cM
 | .move x=>rd x
 | .assign x=>rd x
 | .nilCheck x=>rd x
 | .fieldAddr _ x _=>rd x
 | .extract x _=>rd x
 | .field _ x _=>rd x
 | .load _ x=>rd x
 | .box _ x=>rd x
 | .unOp _ _ x=>rd x
 | .convert _ _ x=>rd x
 | .pick c x y=>rd c++(rd x++rd y)
 | .store _ x y=>rd x++rd y
 | .binOp _ _ x y _=>rd x++rd y
 | .makeSlice _ x y=>rd x++rd y
 | .indexAddr _ x y=>rd x++rd y
 | .index _ x y=>rd x++rd y
 | .lookup _ x y _=>rd x++rd y
 | .mapUpdate _ m x y=>rd m++(rd x++rd y)
 | .build _ d=>XT d.toList
 | .buildSlice _ _ d=>XT d.toList
 | .makeFunc _ a b=>Xp a.toList++Xp b.toList
 | .makeMap _ r=>Xq r
 | .slice _ x a b c=>rd x++(Xq a++(Xq b++Xq c))
 | .call c=>(match c.callee with
  | .value f=>rd f
  |_=>[])++Xp c.args.toList
 |_=>[]
def SC(a:List Oper)(o:Oper):cM:=match o.guard with
 |none=>[]
 |some (g,_)=>match As a g with
  |some d=>[d]
  |none=>[]
def tw(c:Nat->Bool)(l:L):cM->L
 |[]=>[]
 |t::r=>match c t with
  |true=>(match lk l t with
   |some v=>(t,v)::tw c l r
   |none=>tw c l r)
  |false=>tw c l r
def nT(c:Nat->Bool):List (Nat×io)->List (Nat×io)
 |[]=>[]
 |p::r=>match c p.1 with
  |true=>p::nT c r
  |false=>nT c r
def Ay(a:List Oper)(o:Oper):cM:=SB o.op++SC a o
def zd:List (Nat×io)->cI->(L->Prop)->Prop
 |[],_,f=>f []
 |p::r,w,f=>∀v,p.2 v w->zd r w λl=>f ((p.1,v)::l)
def GG(l:L):cM->Option dN
 |[]=>some []
 |t::r=>match lk l t with
  |some v=>(match GG l r with
   |some a=>some (v::a)
   |none=>none)
  |none=>none
abbrev B1:=List Nat×(List cJ->cI->Prop)
def Az:List B1->L->cI->Prop->Prop
 |[],_,_,X=>X
 |p::r,l,w,X=>match GG l p.1 with
  |some a=>p.2 a w->Az r l w X
  |none=>Az r l w X
inductive xv (E E':cI->cI->Prop) (w:cI) (f:cI->(cJ->cI->Prop)->Prop) (kx:cJ->Prop) (kr:io->Prop) (kp:io->Prop) (lb:Bool) (kl:io->Prop) (ea:Bool):Prop
 |exact(v:cJ) (h:∀w1,E' w w1->f w1 λu w2=>u=v/\E w1 w2) (k:kx v)
 |rel (R:io) (st:∀v a b,R v a->E' a b->R v b) (h:∀w1,E' w w1->f w1 λu w2=>R u w2/\E w1 w2) (k:kr R)
 |Mr (R:io) (st:∀v a b,R v a->E a b->R v b) (h:∀w1,E' w w1->f w1 λu w2=>R u w2/\E w1 w2) (k:kp R)
 |late (hb:lb=true) (R:io) (st:∀v a b,R v a->E a b->R v b) (h:∀w1,E' w w1->f w1 λu w2=>R u w2/\E w1 w2) (k:kl R)
 |early (he:ea=true) (R:io) (st:∀v a b,R v a->E a b->R v b) (h:∀w1,E w w1->f w1 λu w2=>R u w2/\E w1 w2) (k:kp R)
 |Eg (he:ea=true) (v:cJ) (h:∀w1,E w w1->f w1 λu w2=>u=v/\E w1 w2) (k:kx v)
inductive XU (E1 E2 Es:cI->cI->Prop) (w:cI) (f:cI->(List cJ->cI->Prop)->Prop) (kj:(List cJ->cI->Prop)->Prop):Prop
 |yo (J:List cJ->cI->Prop) (st:∀vs a b,J vs a->Es a b->J vs b) (h:∀w1,E1 w w1->f w1 λvs w2=>J vs w2/\E2 w1 w2) (k:kj J)
def GH:List (Nat×io)->cM
 |[]=>[]
 |p::r=>p.1::GH r
def Ms:L->dN
 |[]=>[]
 |p::r=>p.2::Ms r
def Ph(T:y9)(e:cM)(l:L):Op->Option cJ
 | .move x=>ev l x
 | .assign x=>ev l x
 | .pick (.tmp c) x y=>match lk l c with
  |some (.bool b)=>(match mem c e with
   |true=>(match b with
    |true=>ev l x
    |false=>ev l y)
   |false=>none)
  |_=>none
 | .nilCheck x=>match ev l x with
  |some (.pointer (some f))=>some (.pointer (some f))
  |_=>none
 | .fieldAddr S x i=>match ev l x with
  |some (.pointer (some ⟨b,o,none⟩))=>(match T.off S i with
   |some d=>some (.pointer (some ⟨b,o+d,none⟩))
   |none=>none)
  |_=>none
 | .extract x i=>match ev l x with
  |some (.tuple g)=>nth g.toList i
  |_=>none
 | .makeFunc h first a=>match evs l first.toList with
  |some j=>(match evs l a.toList with
   |some k=>some (.func h j.toArray k.toArray)
   |none=>none)
  |none=>none
 |_=>none
def GI{P:cU}{T:y9}{d:cM}{l:L}{w:cI}{o:Oper}{k:nB}{s:dB}{pan:List PanicEntry->dB}(h:Ph T d l o.op=some x)(e:k x w):Fh P T d l w o k s pan:=by
 unfold Fh;unfold Ph at h;split at h;case h_1 b a=>grind
 case h_2 b a=>grind
 case h_3 c b y a=>
  grind
 case h_4 b a=>
  grind
 case h_5 S b i a=>
  grind
 case h_6 b i a=>
  grind
 case h_7 f first cap a=>
  grind
 grind
def I9(o:Oper)(r:List Oper):Bool:=match r,o.dst,o.guard with
 |[],none,none=>true
 |_,_,_=>false
def SD{a:Type}(f:a->Bool):List a->Bool
 |[]=>true
 |x::r=>match f x with
  |true=>SD f r
  |false=>false
def early0(a:List Oper)(i t:Nat):Bool:=match V2 a t with
 |false=>false
 |true=>SD (λo=>match Uq o.dst t with
  |true=>Ax (λe=>match Region.binds .any e with
   |true=>Nat.beq e.on i
   |false=>false) o.after.toList
  |false=>true) a
def rH(c e:Nat->Bool)(l a:L):cM->L
 |[]=>[]
 |t::r=>match c t with
  |true=>(match lk l t with
   |some v=>(t,v)::rH c e l a r
   |none=>rH c e l a r)
  |false=>(match e t with
   |true=>(match lk a t with
    |some v=>(t,v)::rH c e l a r
    |none=>rH c e l a r)
   |false=>rH c e l a r)
def SF(a:List Oper)(i:Nat)(o:Oper)(l b:L):L:=rH (zb a o) (early0 a i) l b (Ay a o)
def B2(d:Option Nat)(R:io)(a:List (Nat×io)):List (Nat×io):=match d with
 |some d=>(d,R)::a
 |none=>a
def Pi(a:List Oper)(sp i:Nat):Bool:=match nth a sp with
 |some o=>Ax (λe=>match Region.binds .any e with
  |true=>Nat.beq e.on i
  |false=>false) o.after.toList
 |none=>false
def tx(a:List Oper)(sp i:Nat):Bool:=match nth a sp with
 |some o=>Ax (λe=>match Region.binds .any e with
  |true=>(match Nat.beq e.on i with
   |true=>true
   |false=>Pi a e.on i)
  |false=>false) o.after.toList
 |none=>false
def Vg(b:Bool):List (Nat×io)->List (Nat×io)->List (Nat×io)
 |[],a=>a
 |p::r,a=>match b with
  |true=>p::(r++a)
  |false=>a
def Pj{a b:List (Nat×io)}{p:Nat×io}(h:p∈Vg D a b):p∈b\/(D=true/\p∈a):=by
 cases a with
 |nil=>exact .inl h
 |cons q r=>
  cases D with
  |false=>exact .inl h
  |true=>
   obtain rfl|h:=eW.1 h;grind;grind
def GJ(P:Program)(T:y9)(N:Nat)(pn:List PanicEntry->World->Prop)(E E':World->World->Prop)(a:List Oper)(w:World)(i:Nat)(e:L)(o:Oper)(f:List Nat)(l:L)(b c:List (Nat×io))(j g:Bool)(d:L->List (Nat×io)->List (Nat×io)->Bool->Prop):Prop:=
 match Ph T f (SF a i o l e) o.op with
 |some v=>d (ins N o.dst v l) b c false
 |none=>xv E E' w (λh k=>zd (Vg g (nT (zb a o) c) (nT (zb a o) b)) h λm=>Fh P T f (m++SF a i o l e) h o k (λ_=>False) pn)
  (λv=>d (ins N o.dst v l) b c false) (λR=>d l (B2 o.dst R b) c false) (λR=>d l b (B2 o.dst R c) false) j (λR=>d l (B2 o.dst R b) c true) g
def WF(P:cU)(T:y9)(E E':cI->dB)(a:List Oper)(w:cI)(o:Oper)(e:cM)(l:L)(b:List (Nat×io))(f:B1->Prop):Prop:=
 XU E' E E' w (λc g=>zd (nT (zb a o) b) c λd=>Fh P T e (d++tw (zb a o) l (Ay a o)) c o (λ_ _=>False) (λh=>g (Ms d) h) λ_ _=>False)
  (λJ=>f (GH (nT (zb a o) b),J))
def runT(P:cU)(T:y9)(E E':cI->dB)(a:List Oper)(w:cI)(o:Oper)(f:cM)(l:L)(b c:List (Nat×io))(g:B1->Prop):Prop:=
 XU E E' E w (λd h=>zd (nT (zb a o) c++nT (zb a o) b) d λe=>Fh P T f (e++tw (zb a o) l (Ay a o)) d o (λ_ _=>False) (λi=>h (Ms e) i) λ_ _=>False)
  (λJ=>g (GH (nT (zb a o) c++nT (zb a o) b),J))
inductive ZB (E E':cI->cI->Prop) (w:cI) (f:cI->(cJ->cI->Prop)->Prop) (kr:io->Prop):Prop
 |spec (R:io) (st:∀v a b,R v a->E a b->R v b) (h:∀w1,E w w1->f w1 λu w2=>R u w2/\E' w1 w2) (k:kr R)
def WG(P:cU)(T:y9)(pn:List PanicEntry->dB)(E E':cI->dB)(a:List Oper)(w:cI)(o:Oper)(c:cM)(l:L)(d e:List (Nat×io))(f:io->Prop):Prop:=
 ZB E E' w (λb g=>zd (nT (zb a o) e++nT (zb a o) d) b λh=>Fh P T c (h++tw (zb a o) l (Ay a o)) b o g (λ_=>False) pn) f
def AA:List (Nat×io)->List (Nat×io)->List (Nat×io)
 |[],a=>a
 |p::r,a=>(p.1,λ_ _=>True)::AA r a
def wn(a:cM)(o:Oper):Bool:=match o.dst with
 |some _=>Ax (λe=>match Region.binds .any e with
  |true=>mem e.on a
  |false=>false) o.after.toList
 |none=>false
def Ja(b:Bool)(i:Nat)(a:cM):cM:=match b with
 |true=>i::a
 |false=>a
def KJ(o:Oper):Bool:=match o.dst,o.guard with
 |none,none=>(match o.op with
  | .store _ _ _=>true
  | .mapUpdate _ _ _ _=>true
  |_=>false)
 |_,_=>false
def DW(P:cU)(T:y9)(N:Nat)(pn:List PanicEntry->cI->Prop)(E E':cI->cI->Prop)(sp:Nat)(a:List Oper)(w:cI)(j:L)(K:L->cI->Prop):Nat->List Oper->List Nat->L->List (Nat×io)->List (Nat×io)->List B1->List Nat->Prop
 |_,[],_,l,h,n,q,k=>∀s,E' w s->zd h s λm=>Az q m s (K (m++l) s)
 |i,o::r,c,l,h,n,q,k=>match I9 o r with
  |true=>∀s,E' w s->zd h s λm=>Az q m s (Fh P T [] (m++l) s o (λ_ _=>False) (λv=>K (m++l) v) λ_ _=>False)
  |false=>match KJ o with
  |true=>(match Nat.beq i sp with
   |true=>runT P T E E' a w o c l h n λp=>DW P T N pn E E' sp a w j K (i+1) r c l (AA n h) [] (p::q) k
   |false=>WF P T E E' a w o c l h λp=>DW P T N pn E E' sp a w j K (i+1) r c l h n (p::q) k)
  |false=>V1 N o.dst (match o.guard with
   |none=>(match Nat.beq i sp with
    |true=>WG P T pn E E' a w o c l h n λR=>DW P T N pn E E' sp a w j K (i+1) r c l (B2 o.dst R (AA n h)) [] q (match o.dst with
     |some _=>[i]
     |none=>[])
    |false=>GJ P T N pn E E' a w i j o c l h n (wn k o) (tx a sp i) λm e f t=>DW P T N pn E E' sp a w j K (i+1) r c m e f q (Ja t i k))
   |some (g,u)=>(match As a g with
    |none=>False
    |some d=>match zb a o d with
     |false=>False
     |true=>match lk l d with
      |some (.bool b)=>(match mem d c with
       |true=>(match b,u with
        |true,true=>GJ P T N pn E E' a w i j o c l h n (wn k o) (tx a sp i) λm e f t=>DW P T N pn E E' sp a w j K (i+1) r c m e f q (Ja t i k)
        |false,false=>GJ P T N pn E E' a w i j o c l h n (wn k o) (tx a sp i) λm e f t=>DW P T N pn E E' sp a w j K (i+1) r c m e f q (Ja t i k)
        |_,_=>DW P T N pn E E' sp a w j K (i+1) r c (ins N o.dst undef l) h n q k)
       |false=>(match u with
        |true=>(b=true->GJ P T N pn E E' a w i j o (d::c) ((d,.bool true)::l) h n (wn k o) (tx a sp i) λm e f t=>DW P T N pn E E' sp a w j K (i+1) r (d::c) m e f q (Ja t i k))/\
         (b=false->DW P T N pn E E' sp a w j K (i+1) r (d::c) (ins N o.dst undef ((d,.bool false)::l)) h n q k)
        |false=>(b=true->DW P T N pn E E' sp a w j K (i+1) r (d::c) (ins N o.dst undef ((d,.bool true)::l)) h n q k)/\
         (b=false->GJ P T N pn E E' a w i j o (d::c) ((d,.bool false)::l) h n (wn k o) (tx a sp i) λm e f t=>DW P T N pn E E' sp a w j K (i+1) r (d::c) m e f q (Ja t i k))))
      |some (.tuple _)=>DW P T N pn E E' sp a w j K (i+1) r c (ins N o.dst undef l) h n q k
      |_=>False))
def yp(a:List Oper):L->L
 |[]=>[]
 |p::r=>match V2 a p.1 with
  |true=>yp a r
  |false=>p::yp a r
def uQ:List Oper->Nat
 |[]=>0
 |o::r=>match I9 o r with
  |true=>0
  |false=>uQ r+1
section
variable{P:cU}{T:y9}{N m sp:Nat}{pn:List PanicEntry->cI->Prop}{E E':cI->cI->Prop}{ops:Array Oper}{w0:cI}{a0:Act}{K:L->cI->Prop}{Q:Exit->Act->cI->Prop}
theorem nE{a:Type}{f:a->Bool}:∀{l:List a},Ax f l=true->∃x∈l,f x=true
 |x::r,h=>by simp only[Ax]at h;split at h;grind;have⟨y,b,c⟩:=nE h;grind
theorem KM{a:Type}{f:a->Bool}:∀{l:List a} {x:a},x∈l->f x=true->Ax f l=true
 |y::r,x,h,b=>by simp only[Ax];obtain rfl|h:=eW.1 h;grind;split;rfl;exact KM h b
theorem zv{d:Option Nat}{t:Nat}:Uq d t=true↔d=some t:=by
 cases d with
 |none=>simp[Uq]
 |some d=>
  simp only[Uq,iO];simp
theorem un{ops:Array Oper}{t:Nat}:V2 ops.toList t=wrote ops t:=by
 cases h:V2 ops.toList t with
 |true=>
  have⟨o,b,a⟩:=nE h;exact(Fp.2 ⟨o,cK,by grind [zv]⟩).symm
 |false=>
  cases a:wrote ops t with
  |false=>rfl
  |true=>
   have⟨o,b,c⟩:=Fp.1 a;have:=KM (f:=λo=>Uq o.dst t) (by grind:o∈ops.toList) (zv.2 cK);grind [V2]
def Mt(c:nD ops N m=true){i j t:Nat}{o b:Oper}(d:ops[i]? =some o)(a:ops[j]? =some b)(h:o.dst=some t)(e:b.dst=some t):i=j:=by have f:i<ops.size:=(iS.1 d).1;have g:j<ops.size:=(iS.1 a).1;simp only[nD,eU]at c;grind
structure Cons(ops:Array Oper)(a0:Act)(i:Nat)(S:Nat->Bool->io)(l:L)(rs ps:List (Nat×io))(js:List B1):Prop where
 l:∀t v,lk l t=some v->(wrote ops t=false/\a0.eval (.tmp t)=v)\/∃j o,j<i/\ops[j]? =some o/\o.dst=some t/\∀b u w,S j b u w->u=v
 r:∀p∈rs,∃j o,j<i/\ops[j]? =some o/\o.dst=some p.1/\∀b u w,S j b u w->p.2 u w
 p:∀p∈ps,∃j o,j<i/\ops[j]? =some o/\o.dst=some p.1/\∀u w,S j false u w->p.2 u w
 j:∀p∈js,∃j o,j<i/\ops[j]? =some o/\o.dst=none/\∀b a w,S j b (jd ops o a) w->p.2 (p.1.map λt=>a.eval (.tmp t)) w
structure At(ops:Array Oper)(a0:Act)(N i:Nat)(S:Nat->Bool->io)(b:Bool)(D:Nat->Prop)(a:Act)(w:cI):Prop where
 size:a.tmps.size=N
 defers:a.defers=a0.defers
 keep:∀j,Before ops i j->a.eval (.tmp j)=a0.eval (.tmp j)
 val:∀j d,D j->((ops[j]?).bind (·.dst))=some d->S j b (a.eval (.tmp d)) w
def oS(H:nD ops N m=true){i:Nat}{S n:Nat->Bool->io}{l:L}{I:List B1}{A B:List (Nat×io)}(q:Cons ops a0 i S l A B I)(C:∀j,j<i->n j=S j){o:Oper}{a:Act}{w:cI}
 (E:At ops a0 N i n D (λj=>(o.after.any λe=>e.on==j&&Region.binds .any e)=true) a w){t:Nat}(s:zb ops.toList o t=true):(∀v,lk l t=some v->a.eval (.tmp t)=v)/\(∀p∈A,p.1=t->p.2 (a.eval (.tmp t)) w)/\(D=false->∀p∈B,p.1=t->p.2 (a.eval (.tmp t)) w):=by
 have g:wrote ops t=true->∀j d,ops[j]? =some d->d.dst=some t->n j D (a.eval (.tmp t)) w:=λu j d b c=>by unfold zb at s;rw[un,u]at s;have⟨e,M,F⟩:=nE s;split at F;rename_i O;have J:=zv.1 F;rw[mW]at J;have G:(ops[e.on]?).bind (·.dst)=some t:=cK;have⟨P,x,y⟩:=jD.1 G;obtain rfl:=Mt H x b y c;exact E.val _ _ (Fp.2 ⟨e,cK,cK⟩) G;grind
 have f:∀{j:Nat} {d:Oper},ops[j]? =some d->d.dst=some t->wrote ops t=true:=λb c=>Fp.2 ⟨_,xY b,cK⟩;refine⟨λv K=>?_,?_,?_⟩;obtain⟨u,h⟩|⟨j,d,k,b,c,h⟩:=q.l t v K;rw[E.keep t (Mq u)];grind;have:=g (f b c) j d b c;rw[C j k]at this;grind;rintro p z rfl;have⟨j,d,k,b,c,h⟩:=q.r p z;have:=g (f b c) j d b c;rw[C j k]at this;grind;rintro rfl p z rfl;have⟨j,d,k,b,c,h⟩:=q.p p z;grind
theorem tz{c:Nat->Bool}{l:L}{a:Act}(h:∀t,c t=true->∀v,lk l t=some v->a.eval (.tmp t)=v):∀(d:cM) (t:Nat) (v:cJ),lk (tw c l d) t=some v->a.eval (.tmp t)=v
 |[],t,v,b=>by cases b
 |x::r,t,v,b=>by simp only[tw]at b;split at b;rename_i e;split at b;rename_i u f;simp only[lk]at b;split at b;grind [Nat.eq_of_beq_eq_true,Option.some.inj];exact tz h r t v b;exact tz h r t v b;exact tz h r t v b
theorem AB{a:Act}{w:cI}:∀{d:List (Nat×io)} {f:L->Prop},zd d w f->(∀p∈d,p.2 (a.eval (.tmp p.1)) w)->∃b,f b/\∀t v,lk b t=some v->a.eval (.tmp t)=v
 |[],f,h,_=>⟨[],h,λt v c=>by cases c⟩
 |p::r,f,h,e=>by have⟨b,g,j⟩:=AB (h _ (e p fF)) λq i=>e q (ii _ i);refine⟨_,g,λt v c=>?_⟩;simp only[lk]at c;grind [Nat.eq_of_beq_eq_true,Option.some.inj]
def Eh{l a:L}{t:Nat}(h:lk (a++l) t=some x):lk a t=some x\/lk l t=some x:=by
 induction a with
 |nil=>grind
 |cons p r b=>
  grind [lk]
theorem gq{c:Nat->Bool}:∀{a:List (Nat×io)} {p:Nat×io},p∈nT c a->p∈a/\c p.1=true
 |q::r,p,h=>by simp only[nT]at h;split at h;rename_i b;obtain rfl|h:=eW.1 h;grind;exact⟨ii _ (gq h).1,(gq h).2⟩;exact⟨ii _ (gq h).1,(gq h).2⟩
def qm(o:Oper)(j:Nat):Prop:=(o.after.any λe=>e.on==j&&Region.binds .any e)=true
theorem Cons.ins{i:Nat}{S n:Nat->Bool->io}{l:L}{y:List B1}{z A:List (Nat×io)}(q:Cons ops a0 i S l z A y)(B:∀j,j<i->n j=S j){o:Oper}(E:ops[i]? =some o)(F:∀d,o.dst=some d->∀b u w,n i b u w->u=x):Cons ops a0 (i+1) n (Proofs.W.ins N o.dst x l) z A y:=by
 have v:∀t u,lk l t=some u->(wrote ops t=false/\a0.eval (.tmp t)=u)\/∃j o,j<i+1/\ops[j]? =some o/\o.dst=some t/\∀b C w,n j b C w->C=u:=λt u h=>by obtain h|⟨j,c,k,e,f,s⟩:=q.l t u h;grind;exact .inr ⟨j,c,cL,e,f,by rw[B j k];grind⟩
 refine⟨λt u g=>?_,λp m=>?_,λp m=>?_,λp m=>?_⟩;cases D:o.dst with
 |none=>rw[D]at g;exact v t u g
 |some d=>
  rw[D]at g;simp only[W.ins]at g;split at g;simp only[lk]at g;grind [Nat.eq_of_beq_eq_true,Option.some.inj];grind
 have⟨j,c,k,e,f,s⟩:=q.r p m;exact⟨j,c,cL,e,f,by rw[B j k];grind⟩;have⟨j,c,k,e,f,s⟩:=q.p p m;grind;have⟨j,c,k,e,f,s⟩:=q.j p m;exact⟨j,c,cL,e,f,λb a w h=>s b a w cK⟩
def Cons.vi{i:Nat}{S:Nat->Bool->io}{l:L}{c:List B1}{e f:List (Nat×io)}(a:Cons ops a0 i S l e f c){d:Nat}(g:lk l d=some x):Cons ops a0 i S ((d,x)::l) e f c:=by refine⟨λt u b=>?_,a.r,a.p,a.j⟩;simp only[lk]at b;split at b;rename_i h;obtain rfl:=nS h;obtain rfl:=dQ b;exact a.l _ _ g;exact a.l t u b
theorem Cons.B2{i:Nat}{S m:Nat->Bool->io}{l:L}{x:List B1}{s y:List (Nat×io)}(n:Cons ops a0 i S l s y x)(z:∀j,j<i->m j=S j){o:Oper}(B:ops[i]? =some o){R:io}(C:∀d,o.dst=some d->∀b u w,m i b u w->R u w):Cons ops a0 (i+1) m l (Proofs.W.B2 o.dst R s) y x:=by
 have v:∀p∈s,∃j o,j<i+1/\ops[j]? =some o/\o.dst=some p.1/\∀b u w,m j b u w->p.2 u w:=λp c=>by have⟨j,e,k,f,g,q⟩:=n.r p c;exact⟨j,e,cL,f,g,by rw[z j k];grind⟩
 refine⟨λt u h=>?_,λp c=>?_,λp c=>?_,λp c=>?_⟩;obtain h|⟨j,e,k,f,g,q⟩:=n.l t u h;grind;exact .inr ⟨j,e,cL,f,g,by rw[z j k];grind⟩;cases A:o.dst with
 |none=>rw[A]at c;exact v p c
 |some d=>
  rw[A]at c;obtain rfl|c:=eW.1 c;grind;grind
 have⟨j,e,k,f,g,q⟩:=n.p p c;grind;have⟨j,e,k,f,g,q⟩:=n.j p c;exact⟨j,e,cL,f,g,λb a w h=>q b a w cK⟩
def Cons.XV{i:Nat}{S n:Nat->Bool->io}{l:L}{s v:List (Nat×io)}{x:List B1}(k:Cons ops a0 i S l s v x)(y:∀j,j<i->n j=S j){o:Oper}(z:ops[i]? =some o)(A:o.dst=none){q:B1}(B:∀b a w,n i b (jd ops o a) w->q.2 (q.1.map λt=>a.eval (.tmp t)) w):Cons ops a0 (i+1) n l s v (q::x):=by refine⟨λt u h=>?_,λp c=>?_,λp c=>?_,λp c=>?_⟩;obtain h|⟨j,d,g,e,f,m⟩:=k.l t u h;grind;exact .inr ⟨j,d,cL,e,f,by rw[y j g];grind⟩;have⟨j,d,g,e,f,m⟩:=k.r p c;exact⟨j,d,cL,e,f,by rw[y j g];grind⟩;have⟨j,d,g,e,f,m⟩:=k.p p c;grind;obtain rfl|c:=eW.1 c;grind;have⟨j,d,g,e,f,m⟩:=k.j p c;exact⟨j,d,cL,e,f,λb a w h=>m b a w cK⟩
theorem CG:∀{b a:List (Nat×io)} {p:Nat×io},p∈AA b a->p∈a\/∃q∈b,p=(q.1,λ_ _=>True)
 |[],a,p,h=>.inl h
 |q::r,a,p,h=>by obtain rfl|h:=eW.1 h;grind;obtain h|⟨x,c,d⟩:=CG h;grind;grind
def Cons.YX{i:Nat}{S:Nat->Bool->io}{l:L}{b c:List (Nat×io)}{d:List B1}(a:Cons ops a0 i S l b c d):Cons ops a0 i S l (AA c b) [] d:=by refine⟨a.l,λp e=>?_,(λp e=>cK),a.j⟩;obtain h|⟨q,f,rfl⟩:=CG e;exact a.r p h;have⟨j,o,g,k,m,_⟩:=a.p q f;grind
def Cons.WH{i:Nat}{S m:Nat->Bool->io}{l:L}{x s:List (Nat×io)}{y:List B1}(n:Cons ops a0 i S l x s y)(z:∀j,j<i->m j=S j){o:Oper}(B:ops[i]? =some o){R:io}(C:∀d,o.dst=some d->m i false=R):Cons ops a0 (i+1) m l x (Proofs.W.B2 o.dst R s) y:=by
 have v:∀p∈s,∃j o,j<i+1/\ops[j]? =some o/\o.dst=some p.1/\∀u w,m j false u w->p.2 u w:=λp c=>by have⟨j,e,k,f,g,q⟩:=n.p p c;grind
 refine⟨λt u h=>?_,λp c=>?_,λp c=>?_,λp c=>?_⟩;obtain h|⟨j,e,k,f,g,q⟩:=n.l t u h;grind;exact .inr ⟨j,e,cL,f,g,by rw[z j k];grind⟩;have⟨j,e,k,f,g,q⟩:=n.r p c;exact⟨j,e,cL,f,g,by rw[z j k];grind⟩;cases A:o.dst with
 |none=>rw[A]at c;exact v p c
 |some d=>
  rw[A]at c;obtain rfl|c:=eW.1 c;grind;grind
 have⟨j,e,k,f,g,q⟩:=n.j p c;exact⟨j,e,cL,f,g,λb a w h=>q b a w cK⟩
structure Told(E E':cI->cI->Prop)(R:Bool->io):Prop where
 e:∀b v w w',R b v w->E w w'->R b v w'
 x:∀v w w',R false v w->E' w w'->R true v w'
theorem KN{b:Type}{f:b->Bool}:∀{l:List b},SD f l=true->∀x∈l,f x=true
 |y::r,h,x,a=>by simp only[SD]at h;split at h;rename_i c;obtain rfl|a:=eW.1 a;grind;exact KN h x a;grind
def Mv{i t:Nat}(h:early0 ops.toList i t=true):Before ops i t:=λk o a b=>by unfold early0 at h;split at h;grind;have:=KN h o cK;grind [Nat.beq_refl,nE,Array.any_eq_true',Nat.eq_of_beq_eq_true,Uq,waits]
theorem CH{c e:Nat->Bool}{l b:L}{a:Act}(h:∀t,c t=true->∀v,lk l t=some v->a.eval (.tmp t)=v)(f:∀t,e t=true->∀v,lk b t=some v->a.eval (.tmp t)=v):∀(g:cM) (t:Nat) (v:cJ),lk (rH c e l b g) t=some v->a.eval (.tmp t)=v
 |[],t,v,d=>by cases d
 |x::r,t,v,d=>by
  have j:=CH h f r t v;have i:∀u,a.eval (.tmp x)=u->lk ((x,u)::rH c e l b r) t=some v->a.eval (.tmp t)=v:=λu k h=>by simp only[lk]at h;grind [Nat.eq_of_beq_eq_true,Option.some.inj]
  grind [rH]
theorem Pk(I:mO P T)(A:∀c a w,a.tmps.size=N->a.defers=a0.defers->pn c w->Q (.panic c) a w)(hE:gJ E)(aa:∀a b,E a b->E' a b)(hB:nD ops N m=true){i:Nat}{S:Nat->Bool->io}{l:L}{rs ps:List (Nat×io)}{js:List B1}{ks:cM}{o:Oper}{Z:Bool}{l0:L}(ab:∀t v,lk l0 t=some v->a0.eval (.tmp t)=v){go:L->List (Nat×io)->List (Nat×io)->Bool->Prop}(G:Cons ops a0 i S l rs ps js)(J:ops[i]? =some o) (h:GJ P T N pn E E' ops.toList w0 i l0 o ks l rs ps D Z go):∃R:Bool->io,Told E E' R/\
  (∀(g:Nat->Bool->io) (b:Bool),(D=true->b=true)->(∀j,j<i->g j=S j)->∀a w,At ops a0 N i g b (qm o) a w->(Z=true->b=false/\E w0 w)->E' w0 w->o.wp P a w (λa' z=>∃v,a'=a.put o.dst v/\E w z/\R b v z) Q)/\
  ∃l' V W X,go l' V W X/\(X=true->D=true/\∀u w,¬R false u w)/\∀g:Nat->Bool->io,(∀j,j<i->g j=S j)->(∀d,o.dst=some d->g i=R)->Cons ops a0 (i+1) g l' V W js:=by
 have frame:∀(g:Nat->Bool->io) (b:Bool),(∀j,j<i->g j=S j)->∀a w,At ops a0 N i g b (qm o) a w->∀x:L,(∀t v,lk x t=some v->a.eval (.tmp t)=v)->wY N (x++SF ops.toList i o l l0) a:=λg b q a w r x ad=>by refine⟨r.size,λt v ht=>?_⟩;obtain h|h:=Eh ht;grind;exact CH (λt hc v Y=>(oS hB G q r hc).1 v Y) (λt hc v Y=>(r.keep t (Mv hc)).trans (ab t v Y)) _ t v h
 have y:∀(g:Nat->Bool->io) (b:Bool),(∀j,j<i->g j=S j)->∀a w,At ops a0 N i g b (qm o) a w->(Z=true->b=false)->∀f:L->Prop,zd (Vg Z (nT (zb ops.toList o) ps) (nT (zb ops.toList o) rs)) w f->∃x,f x/\wY N (x++SF ops.toList i o l l0) a:=λg b q a w r n f hf=>by
  have⟨x,B,h2⟩:=AB (a:=a) hf λp K=>by obtain K|⟨C,K⟩:=Pj K;exact(oS hB G q r (gq K).2).2.1 p (gq K).1 rfl;exact(oS hB G q r (gq K).2).2.2 (n C) p (gq K).1 rfl
  grind
 unfold GJ at h;split at h;rename_i v Y;refine⟨λ_ u _=>u=v,⟨λ_ _ _ _ h _=>h,λ_ _ _ h _=>h⟩,λg b _ q a w r n C=>?_,_,_,_,_,h,(λh=>cK),λg q O=>G.ins q J λd U b u w hu=>cK⟩;refine ji I (frame g b q a w r [] λt v ht=>by cases ht) (GI (k:=λu w2=>u=v/\w2=w) (s:=λ_=>False) (pan:=λ_ _=>False) Y ⟨rfl,rfl⟩) ?_ (λ_ h=>h.elim) λ_ _ h=>h.elim;rintro u z ⟨rfl,rfl⟩;exact⟨u,rfl,hE.refl _,rfl⟩;cases h with
 |exact v h k=>
  refine⟨λ_ u _=>u=v,⟨λ_ _ _ _ h _=>h,λ_ _ _ h _=>h⟩,λg b _ q a w r n C=>?_,_,_,_,_,k,(λh=>cK),λg q O=>G.ins q J λd U b u w hu=>cK⟩;have⟨x,B,F⟩:=y g b q a w r (λe=>(n e).1) _ (h w C);refine ji I F B ?_ (λ_ h=>h.elim) λc z h=>A c a z r.size r.defers h;grind
 |rel R H h k=>
  refine⟨λ_=>R,⟨λ_ _ _ _ h e=>H _ _ _ h (aa _ _ e),λ_ _ _ h e=>H _ _ _ h e⟩,λg b _ q a w r n C=>?_,_,_,_,_,k,(λh=>cK),λg q O=>G.B2 q J λd U b u w h=>cK⟩;have⟨x,B,F⟩:=y g b q a w r (λe=>(n e).1) _ (h w C);refine ji I F B ?_ (λ_ h=>h.elim) λc z h=>A c a z r.size r.defers h;grind
 |Mr R H h k=>
  refine⟨λb u w=>b=true\/R u w,⟨λ_ _ _ _ h e=>h.imp id λh=>H _ _ _ h e,λ_ _ _ _ _=>.inl rfl⟩,λg b _ q a w r n C=>?_,_,_,_,_,k,(λh=>cK),λg q O=>G.WH q J λd U=>cK⟩;have⟨x,B,F⟩:=y g b q a w r (λe=>(n e).1) _ (h w C);refine ji I F B ?_ (λ_ h=>h.elim) λc z h=>A c a z r.size r.defers h;grind
 |late ac R H h k=>
  refine⟨λb u w=>b=true/\R u w,⟨λ_ _ _ _ h e=>⟨h.1,H _ _ _ h.2 e⟩,λ_ _ _ h _=>cK⟩,λg b hb q a w r n C=>?_,_,_,_,_,k,λ_=>⟨ac,λu w h=>cK⟩,λg q O=>G.B2 q J λd U b u w h=>cK⟩;have⟨x,B,F⟩:=y g b q a w r (λe=>(n e).1) _ (h w C);refine ji I F B ?_ (λ_ h=>h.elim) λc z h=>A c a z r.size r.defers h;grind
 |early M R H h k=>
  refine⟨λb u w=>b=true\/R u w,⟨λ_ _ _ _ h e=>h.imp id λh=>H _ _ _ h e,λ_ _ _ _ _=>.inl rfl⟩,λg b _ q a w r n C=>?_,_,_,_,_,k,(λh=>cK),λg q O=>G.WH q J λd U=>cK⟩;have⟨x,B,F⟩:=y g b q a w r (λe=>(n e).1) _ (h w (n M).2);refine ji I F B ?_ (λ_ h=>h.elim) λc z h=>A c a z r.size r.defers h;grind
 |Eg M v h k=>
  refine⟨λ_ u _=>u=v,⟨λ_ _ _ _ h _=>h,λ_ _ _ h _=>h⟩,λg b _ q a w r n C=>?_,_,_,_,_,k,(λh=>cK),λg q O=>G.ins q J λd U b u w hu=>cK⟩;have⟨x,B,F⟩:=y g b q a w r (λe=>(n e).1) _ (h w (n M).2);refine ji I F B ?_ (λ_ h=>h.elim) λc z h=>A c a z r.size r.defers h;grind
theorem xw{a:Act}{w:cI}{d:L}{X:Prop}(j:∀t v,lk d t=some v->a.eval (.tmp t)=v):∀{k:List B1},Az k d w X->(∀p∈k,p.2 (p.1.map λt=>a.eval (.tmp t)) w)->X
 |[],h,_=>h
 |p::r,h,e=>by
  have b:∀(c:List Nat) (f:List cJ),GG d c=some f->(c.map λt=>a.eval (.tmp t))=f:=by
   intro c;induction c with
   |nil=>grind [Option.some.injEq,GG]
   |cons t r l=>
    grind [Option.some.injEq,GG]
  simp only[Az]at h;split at h;rename_i f g;exact xw j (h (b _ _ g▸e p fF)) λq i=>e q (ii _ i);exact xw j h λq i=>e q (ii _ i)
theorem xx{a:Act}{w:cI}:∀{c:List (Nat×io)} {f:L->Prop},zd c w f->(∀p∈c,p.2 (a.eval (.tmp p.1)) w)->∃b,f b/\(∀t v,lk b t=some v->a.eval (.tmp t)=v)/\Ms b=(GH c).map λt=>a.eval (.tmp t)
 |[],f,h,_=>⟨[],h,(λt v d=>by cases d),rfl⟩
 |p::r,f,h,e=>by have⟨b,g,k,i⟩:=xx (h _ (e p fF)) λq j=>e q (ii _ j);refine⟨_,g,λt v d=>?_,by simp[Ms,GH,i]⟩;simp only[lk]at d;grind [Nat.eq_of_beq_eq_true,Option.some.inj]
theorem GK:∀{a:List (Nat×io)} {t:Nat},t∈GH a->∃p∈a,p.1=t
 |p::r,t,h=>by obtain rfl|h:=eW.1 h;grind;have⟨q,b,c⟩:=GK h;grind
def KP{o:Oper}{t:Nat}(c:wrote ops t=true)(a:zb ops.toList o t=true):t∈I8 ops o:=by unfold zb at a;rw[un,c]at a;have⟨e,d,b⟩:=nE a;split at b;rename_i g;have f:=zv.1 b;rw[mW]at f;have h:(ops[e.on]?).bind (·.dst)=some t:=cK;exact List.mem_filterMap.2 ⟨e,d,cK⟩;grind
def CI(hT:mO P T)(C:nD ops N m=true){Z E2 D:cI->dB}(aa:∀a b,E a b->E' a b){i:Nat}{S:Nat->Bool->io}{l:L}{F G:List (Nat×io)}{js:List B1}{ks:cM}{o:Oper}(y:Bool)(H:∀a b,E a b->D a b)(I:y=false->∀a b,E' a b->D a b){z:List (Nat×io)}(hq:∀p∈z,(p∈F\/(y=true/\p∈G))/\zb ops.toList o p.1=true){go:B1->Prop}(q:Cons ops a0 i S l F G js)(ho:ops[i]? =some o)(f:o.dst=none)
 (h:XU Z E2 D w0 (λw1 κ=>zd z w1 λl'=>Fh P T ks (l'++tw (zb ops.toList o) l (Ay ops.toList o)) w1 o (λ_ _=>False) (λw2=>κ (Ms l') w2) λ_ _=>False) (λJ=>go (GH z,J))):∃R:Bool->io,Told E E' R/\
  (∀(g:Nat->Bool->io) (b K:Bool),(y=true->b=false/\K=true)->(∀j,j<i->g j=S j)->∀a w,At ops a0 N i g b (qm o) a w->Z w0 w->o.wp P a w (λa' M=>∃v,a'=a.put o.dst v/\E2 w M/\R K v M/\v=jd ops o a) Q)/\
  ∃p,go p/\∀g:Nat->Bool->io,(∀j,j<i->g j=S j)->g i=R->Cons ops a0 (i+1) g l F G (p::js):=by
 have⟨J,st,h,k⟩:=h;let ss:=GH z;have ab:∀t∈ss,t∈I8 ops o:=λt O=>by obtain⟨p,U,rfl⟩:=GK O;have⟨d,e⟩:=hq p U;obtain d|⟨_,d⟩:=d;have⟨j,o',hj,n,V,_⟩:=q.r p d;exact KP (Fp.2 ⟨_,xY n,cK⟩) e;have⟨j,o',hj,n,V,_⟩:=q.p p d;exact KP (Fp.2 ⟨_,xY n,cK⟩) e
 refine⟨λb v w=>(y=true->b=true)/\∃a:Act,v=jd ops o a/\J (ss.map λt=>a.eval (.tmp t)) w,⟨λ_ v a b ⟨h0,c,s,A⟩ u=>⟨h0,c,s,st _ _ _ A (H _ _ u)⟩,λv a b ⟨h0,c,s,A⟩ u=>⟨λ_=>rfl,c,s,st _ _ _ A (I cK _ _ u)⟩⟩,λg b K hb x a w B u=>?_,_,k,λg x hi=>q.XV x ho f λb a w hs=>?_⟩;have⟨W,s,A,h3⟩:=xx (a:=a) (h w u) λp U=>by have⟨d,e⟩:=hq p U;obtain d|⟨X,d⟩:=d;exact(oS C q x B e).2.1 p d rfl;exact(oS C q x B e).2.2 (hb X).1 p d rfl
 have hF:wY N (W++tw (zb ops.toList o) l (Ay ops.toList o)) a:=by refine⟨B.size,λt v O=>?_⟩;obtain h|h:=Eh O;grind;exact tz (λt hc v hv=>(oS C q x B hc).1 v hv) _ t v h
 refine ji hT hF s (λ_ _ h=>h.elim) (λM hw=>?_) λ_ _ h=>h.elim;have⟨hJ,Y⟩:=hw;rw[h3]at hJ;exact⟨_,by rw[f];rfl,Y,⟨λX=>(hb X).2,a,rfl,hJ⟩,rfl⟩;grind [List.map_congr_left,Mp]
def Pm(B:mO P T)(g:∀c a w,a.tmps.size=N->a.defers=a0.defers->pn c w->Q (.panic c) a w)(n:nD ops N m=true){i:Nat}{S:Nat->Bool->io}{l:L}{x y:List (Nat×io)}{C:List B1}{D:cM}{o:Oper}{z:io->Prop}(q:Cons ops a0 i S l x y C)(O:ops[i]? =some o) (h:WG P T pn E E' ops.toList w0 o D l x y z):∃R:io,(∀v a b,R v a->E a b->R v b)/\z R/\
  (∀r:Nat->Bool->io,(∀j,j<i->r j=S j)->∀a w,At ops a0 N i r false (qm o) a w->E w0 w->o.wp P a w (λF f=>∃v,F=a.put o.dst v/\E' w f/\R v f) Q):=by
 have⟨R,G,h,k⟩:=h;refine⟨R,G,k,λr s a w e H=>?_⟩;have⟨u,I,U,V⟩:=xx (a:=a) (h w H) λp d=>by obtain d|d:=jy.1 d;exact(oS n q s e (gq d).2).2.2 rfl p (gq d).1 rfl;exact(oS n q s e (gq d).2).2.1 p (gq d).1 rfl
 have J:wY N (u++tw (zb ops.toList o) l (Ay ops.toList o)) a:=by refine⟨e.size,λt v K=>?_⟩;obtain h|h:=Eh K;grind;exact tz (λt M v A=>(oS n q s e M).1 v A) _ t v h
 refine ji B J I (λv f A=>?_) (λ_ h=>h.elim) λc f h=>g c a f e.size e.defers h;grind
def Jb{a:Act}{g d:Nat}(b:(ops[g]?).bind (·.dst)=some d)(c:a.eval (.tmp d)=.bool D):yielded ops a.tmps g=some D:=by grind [kN,yielded,undef]
def Pn(ops:Array Oper)(i:Nat)(S:Nat->Bool->io)(a:cM):Prop:=∀j∈a,∃o d,j<i/\ops[j]? =some o/\o.dst=some d/\∀u w,¬S j false u w
def Pn.next{ops:Array Oper}{i:Nat}{S a:Nat->Bool->io}{b:cM}(h:Pn ops i S b)(c:∀j,j<i->a j=S j):Pn ops (i+1) a b:=λj e=>by have⟨o,d,f,g,k,l⟩:=h j e;exact⟨o,d,cL,g,k,by rw[c j f];grind⟩
theorem mem_iff{n:Nat}:∀{l:cM},mem n l=true->n∈l
 |x::r,h=>by simp only[mem]at h;split at h;rename_i a;rw[nS a];grind;exact ii _ (mem_iff h)
def Vh{l0:L}(aF:∀t v,lk l0 t=some v->a0.eval (.tmp t)=v)(hT:mO P T)(au:∀c a w,a.tmps.size=N->a.defers=a0.defers->pn c w->Q (.panic c) a w)(hE:gJ E)(ad:∀a b,E a b->E' a b)(hB:nD ops N m=true)(hK:∀l a w,px a0.defers N l a->K l w->Q .normal a w):∀(r:List Oper) (i:Nat) (y:List Nat) (l:L) (F H:List (Nat×io)) (D:List B1) (lt:List Nat) (S:Nat->Bool->io),(∀j,r[j]? =ops[i+j]?)->i+uQ r=m->Cons ops a0 i S l F H D->(∀j,Told E E' (S j))->Pn ops i S lt->DW P T N pn E E' sp ops.toList w0 l0 K i r y l F H D lt->
  ∃f:Nat->Bool->io,(∀j,j<i->f j=S j)/\(∀j,Told E E' (f j))/\(∀j o,i<=j->j<m->ops[j]? =some o->ou E E' (λb w=>(b=true\/E w0 w)/\E' w0 w) sp P ops Q a0 N (λb j=>f j b) j o)/\tv (λb w=>(b=true\/E w0 w)/\E' w0 w) P ops Q a0 N m (λb j=>f j b):=by
 have av:∀(b:Bool) (i:Nat) (S:Nat->Bool->io) (l:L) (F H:List (Nat×io)) (D:List B1),i=m->Cons ops a0 i S l F H D->∀a w,a.tmps.size=N->a.defers=a0.defers->(∀j,wrote ops j=false->a.eval (.tmp j)=a0.eval (.tmp j))->
  (∀i d,i<m->((ops[i]?).bind (·.dst))=some d->S i b (a.eval (.tmp d)) w)->(∀i o,i<m->ops[i]? =some o->o.dst=none->S i b (jd ops o a) w)->∀X:L->Prop,(zd F w λI=>Az D I w (X I))->∃I,X I/\px a0.defers N (I++l) a:=by
  rintro b i S l F H D rfl z a w Z Y hk hv ai X hf;have⟨I,h1,h2⟩:=AB (a:=a) hf λp hp=>by have⟨j,o,hj,J,Y,h⟩:=z.r p hp;grind
  refine⟨I,xw h2 h1 (λp hp=>?_),⟨Z,λt v ht=>?_⟩,Y⟩;have⟨j,o,hj,J,Y,h⟩:=z.j p hp;grind;obtain h|h:=Eh ht;grind;obtain⟨hw,h⟩|⟨j,o,hj,J,Y,h⟩:=z.l t v h;grind;grind
 intro r;induction r with
 |nil=>
  intro i y l F H D lt S hr hi z ao A h;have aj:i=m:=by grind [uQ]
  refine⟨S,λ_ _=>rfl,ao,λj o h1 h2=>cL,λb a w Z Y hk hv ai he=>?_⟩;have aR:ops.size<=m:=by have:=hr 0;grind
  refine⟨λ_=>?_,λh=>cL⟩;have⟨I,h1,hF⟩:=av b i S l F H D aj z a w Z Y hk hv ai _ (h w he.2);grind
 |cons o r ih=>
  intro i y l F H D lt S hr hi z ao A h;have J:ops[i]? =some o:=(hr 0).symm;have aS:i<ops.size:=(iS.1 J).1;have aG:∀j,r[j]? =ops[i+1+j]? :=λj=>by have:=hr (j+1);grind
  unfold DW at h;split at h;rename_i ht;have aj:i=m:=by grind [uQ]
  refine⟨S,λ_ _=>rfl,ao,λj o h1 h2=>cL,λb a w Z Y hk hv ai he=>⟨λh=>cL,λ_=>?_⟩⟩;have⟨I,h1,hF⟩:=av b i S l F H D aj z a w Z Y hk hv ai _ (h w he.2);have aw:o.dst=none/\o.guard=none:=by grind [I9]
  unfold wpOp;rw[<-aj,J];simp only[Region.wanted,aw.2,ej];refine .inl (ji hT hF.b h1 (λ_ _ h=>h.elim) (λw' h'=>?_) λ_ _ h=>h.elim);rw[aw.1];exact hK _ a w' hF h';rename_i ht;have aH:i+1+uQ r=m:=by grind [uQ]
  have M:∀(R:Bool->io) (ap:List Nat) (I:L) (O U:List (Nat×io)) (ak:List B1) (al:List Nat),Told E E' R->(∀f:Nat->Bool->io,(∀j,j<i->f j=S j)->f i=R->Cons ops a0 (i+1) f I O U ak)->(∀f:Nat->Bool->io,(∀j,j<i->f j=S j)->f i=R->Pn ops (i+1) f al)->DW P T N pn E E' sp ops.toList w0 l0 K (i+1) r ap I O U ak al->
   (∀f:Nat->Bool->io,(∀j,j<i->f j=S j)->f i=R->ou E E' (λb w=>(b=true\/E w0 w)/\E' w0 w) sp P ops Q a0 N (λb j=>f j b) i o)->
   ∃f:Nat->Bool->io,(∀j,j<i->f j=S j)/\(∀j,Told E E' (f j))/\(∀j o,i<=j->j<m->ops[j]? =some o->ou E E' (λb w=>(b=true\/E w0 w)/\E' w0 w) sp P ops Q a0 N (λb j=>f j b) j o)/\tv (λb w=>(b=true\/E w0 w)/\E' w0 w) P ops Q a0 N m (λb j=>f j b):=by
   intro R ap I O U ak al hR aa ax h' n;let S1:Nat->Bool->io:=λj=>if j=i then R else S j
   have aq:∀j,j<i->S1 j=S j:=λj hj=>cK;have af:S1 i=R:=cK;have⟨f,h1,h2,h3,h4⟩:=ih (i+1) ap I O U ak al S1 aG aH (aa S1 aq af) (λj=>by grind) (ax S1 aq af) h';have s:∀j,j<i->f j=S j:=λj hj=>(h1 j cL).trans (aq j hj);refine⟨f,s,h2,λj o' hj aT ay=>?_,h4⟩;obtain rfl|hj:=Nat.eq_or_lt_of_le hj;rw[J]at ay;obtain rfl:=dQ ay;exact n f s ((h1 i dt).trans af);grind
  split at h;rename_i aP;have am:o.dst=none/\o.guard=none:=by grind [KJ]
  split at h;rename_i B;have B:=nS B;unfold runT at h;have⟨R,hR,n,p,h',aa⟩:=CI (E:=E) (Q:=Q) (go:=λp=>DW P T N pn E E' sp ops.toList w0 l0 K (i+1) r y l (AA H F) [] (p::D) lt) hT hB ad true (λ_ _ h=>h) (λh=>cK) (λp hp=>(jy.1 hp).elim (λh=>⟨.inr ⟨rfl,(gq h).1⟩,(gq h).2⟩) λh=>⟨.inl (gq h).1,(gq h).2⟩) z J am.1 h;refine M R y l (AA H F) [] (p::D) lt hR (λf q hi=>(aa f q hi).YX) (λf q _=>A.next q) h' λf s ab b a w hb Z G hk hv he=>?_;obtain rfl:=hb (.inl B);have hs:=n f false true (λ_=>⟨rfl,rfl⟩) s a w ⟨Z,G,hk,hv⟩ (he.1.resolve_left dt);unfold wpOp;rw[J];simp only[Region.wanted,am.2,ej];grind;rename_i B;have B:=Iq B;unfold WF at h;have⟨R,hR,n,p,h',aa⟩:=CI (E:=E) (Q:=Q) (go:=λp=>DW P T N pn E E' sp ops.toList w0 l0 K (i+1) r y l F H (p::D) lt) hT hB ad false ad (λ_ _ _ h=>h) (λp hp=>⟨.inl (gq hp).1,(gq hp).2⟩) z J am.1 h;refine M R y l F H (p::D) lt hR aa (λf q _=>A.next q) h' λf s ab b a w hb Z G hk hv he=>?_;have hs:=n f b b (λh=>cK) s a w ⟨Z,G,hk,hv⟩ he.2;unfold wpOp;rw[J];simp only[Region.wanted,am.2,ej];grind;rename_i aQ;have⟨h,Y⟩:=wm h
  have ag:∀(y:List Nat) (l:L),Cons ops a0 i S l F H D->(∀(f:Nat->Bool->io) (b:Bool),(∀j,j<i->f j=S j)->∀a w,At ops a0 N i f b (qm o) a w->Region.wanted o (yielded ops a.tmps)=true)->GJ P T N pn E E' ops.toList w0 i l0 o y l F H (wn lt o) (tx ops.toList sp i) (λI O U lb=>DW P T N pn E E' sp ops.toList w0 l0 K (i+1) r y I O U D (Ja lb i lt))->
   ∃f:Nat->Bool->io,(∀j,j<i->f j=S j)/\(∀j,Told E E' (f j))/\(∀j o,i<=j->j<m->ops[j]? =some o->ou E E' (λb w=>(b=true\/E w0 w)/\E' w0 w) sp P ops Q a0 N (λb j=>f j b) j o)/\tv (λb w=>(b=true\/E w0 w)/\E' w0 w) P ops Q a0 N m (λb j=>f j b):=by
   intro y l z hw h;have⟨R,hR,n,I,O,U,az,h',aA,aa⟩:=Pk (Q:=Q) hT au hE ad hB aF z J h;let R1:Bool->io:=λb v w=>o.dst=none\/R b v w;have aI:∀d,o.dst=some d->R1=R:=λd Y=>by grind
   refine M R1 y I O U D (Ja az i lt) ⟨λb v w w' h e=>h.imp id λh=>hR.e b v w w' h e,λv w w' h e=>h.imp id λh=>hR.x v w w' h e⟩ (λf q hi=>aa f q λd Y=>hi.trans (aI d Y)) (λf q hi=>by
    cases az with
    |false=>exact A.next q
    |true=>
     have⟨h1,h2⟩:=aA rfl;intro j hj;obtain rfl|hj:=eW.1 hj;cases Y:o.dst with
     |none=>grind [wn]
     |some d=>exact⟨o,d,Nat.lt_succ_self _,J,Y,cK⟩
     exact A.next q j hj) h' λf s ab b a w hb Z G hk hv he=>?_
   have V:At ops a0 N i f b (qm o) a w:=⟨Z,G,hk,hv⟩
   have aJ:wn lt o=true->b=true:=λar=>by
    unfold wn at ar;split at ar;have⟨e,aB,ac⟩:=nE ar;split at ac;rename_i aK;have⟨o2,d2,g1,g2,g3,g4⟩:=A _ (mem_iff ac);have aC:=hv e.on d2 (Fp.2 ⟨e,cK,cK⟩) cK;cases b with
    |true=>rfl
    |false=>
     simp only[s _ g1]at aC;grind
    grind;grind
   have aL:tx ops.toList sp i=true->b=false/\E w0 w:=λC=>by
    skip;have aM:∀{k j:Nat},Pi ops.toList k j=true->waits ops k j=true:=λ{k j} C=>by unfold Pi at C;unfold waits;rw[zu]at C;have hg:ops.toList[k]? =ops[k]? :=dt;rw[hg]at C;split at C;rename_i o2 aN;have⟨e,aB,ac⟩:=nE C;grind [Array.any_eq_true',Nat.eq_of_beq_eq_true];grind
    have hw:Uo ops sp i:=by
     unfold tx at C;rw[zu]at C;have hg:ops.toList[sp]? =ops[sp]? :=dt;rw[hg]at C;split at C;rename_i o2 aN;have⟨e,aB,ac⟩:=nE C;split at ac;rename_i aK;have aD:waits ops sp e.on=true:=by grind [Array.any_eq_true',waits]
     split at ac;rename_i hx;rw[<-nS hx];exact .inl aD;exact .inr ⟨e.on,aD,aM ac⟩;grind;grind
    grind
   have hs:=n f b aJ s a w V aL he.2;unfold wpOp;rw[J];simp only[hw f b s a w V,ej];refine .inl ?_;rw[ab];refine Oper.wp_mono (λa' w' hx=>?_) hs;have⟨v,q1,q2,q3⟩:=hx;have q5:if i=sp then E' w w' else E w w':=by grind
   have q6:R1 (b||decide (i=sp)) v w':=by by_cases e:i=sp;rw[hb (.inl e)]at q3;have:=hR.x v w' w' q3 (ad _ _ (hE.refl w'));grind;grind
   cases ae:o.dst with
   |none=>exact⟨jd ops o a,by rw[q1,ae];rfl,q5,.inl ae,λ_=>rfl⟩
   |some d=>grind
  have skip:∀(y:List Nat) (l:L),Cons ops a0 i S l F H D->(∀(f:Nat->Bool->io) (b:Bool),(∀j,j<i->f j=S j)->∀a w,At ops a0 N i f b (qm o) a w->Region.wanted o (yielded ops a.tmps)=false)->DW P T N pn E E' sp ops.toList w0 l0 K (i+1) r y (Proofs.W.ins N o.dst undef l) F H D lt->
   ∃f:Nat->Bool->io,(∀j,j<i->f j=S j)/\(∀j,Told E E' (f j))/\(∀j o,i<=j->j<m->ops[j]? =some o->ou E E' (λb w=>(b=true\/E w0 w)/\E' w0 w) sp P ops Q a0 N (λb j=>f j b) j o)/\tv (λb w=>(b=true\/E w0 w)/\E' w0 w) P ops Q a0 N m (λb j=>f j b):=by
   intro y l z hw h';let R1:Bool->io:=λ_ u _=>o.dst=none\/u=undef;refine M R1 y _ F H D lt ⟨λ_ _ _ _ h _=>h,λ_ _ _ h _=>h⟩ (λf q hi=>z.ins q J λd Y b u w hu=>by grind) (λf q _=>A.next q) h' λf s ab b a w hb Z G hk hv he=>?_;have V:At ops a0 N i f b (qm o) a w:=⟨Z,G,hk,hv⟩;unfold wpOp;rw[J];simp only[hw f b s a w V,iH,fj];rw[ab];have q5:if i=sp then E' w w else E w w:=by split;exact ad _ _ (hE.refl w);exact hE.refl w
   cases ae:o.dst with
   |none=>exact⟨jd ops o a,rfl,q5,.inl ae,λ_=>rfl⟩
   |some d=>grind
  split at h;rename_i hg;split at h;rename_i B;have B:=nS B;have⟨R,hR,h',n⟩:=Pm (Q:=Q) hT au hB z J h
  refine M (λb v w=>o.dst=none\/(b=true/\R v w)) y l _ [] D _ ⟨λb v w w' h e=>h.imp (λh=>h) λh=>⟨h.1,hR _ _ _ h.2 e⟩,λv w w' h _=>h.imp (λh=>h) λh=>cK⟩ (λf q hi=>z.YX.B2 q J λd Y b u w hu=>by
   grind) (λf q hi=>by
   intro j hj;grind) h' λf s ab b a w hb Z G hk hv he=>?_
  obtain rfl:=hb (.inl B);have hs:=n f s a w ⟨Z,G,hk,hv⟩ (he.1.resolve_left dt);unfold wpOp;rw[J];simp only[Region.wanted,hg,ej];refine .inl ?_;simp only[cT B];rw[ab];refine Oper.wp_mono (λa' w' hx=>?_) hs;have⟨v,q1,q2,q3⟩:=hx;cases ae:o.dst with
  |none=>exact⟨jd ops o a,by rw[q1,ae];rfl,q2,.inl rfl,λ_=>rfl⟩
  |some d=>grind
  exact ag y l z (λ_ _ _ _ _ _=>by simp[Region.wanted,hg]) h;rename_i g ah hg;split at h;grind;rename_i d aO;rw[mW]at aO;have aE:(ops[g]?).bind (·.dst)=some d:=cK;split at h;grind;rename_i an;split at h;rename_i b hb;have hw:∀(f:Nat->Bool->io) (b':Bool),(∀j,j<i->f j=S j)->∀a w,At ops a0 N i f b' (qm o) a w->Region.wanted o (yielded ops a.tmps)=(b==ah):=λf b' q a w V=>by have:=(oS hB z q V an).1 _ hb;simp[Region.wanted,hg,Jb aE this]
  split at h;cases b<;>cases ah<;>simp only at h;exact ag y l z (λf b' q a w V=>cK) h;exact skip y l z (λf b' q a w V=>cK) h;exact skip y l z (λf b' q a w V=>cK) h;exact ag y l z (λf b' q a w V=>cK) h;cases ah<;>simp only at h<;>cases b;exact ag (d::y) ((d,.bool false)::l) (z.vi hb) (λf b' q a w V=>cK) (h.2 rfl);exact skip (d::y) ((d,.bool true)::l) (z.vi hb) (λf b' q a w V=>cK) (h.1 rfl);exact skip (d::y) ((d,.bool false)::l) (z.vi hb) (λf b' q a w V=>cK) (h.2 rfl);exact ag (d::y) ((d,.bool true)::l) (z.vi hb) (λf b' q a w V=>by rw[hw f b' q a w V];rfl) (h.1 rfl);rename_i vs hb;exact skip y l z (λf b' q a w V=>by have:=pJ aE ((oS hB z q V an).1 _ hb);simp[Region.wanted,hg,this]) h;exact h.elim
def GO(A:mO P T)(n:∀c a w,a.tmps.size=N->a.defers=a0.defers->pn c w->Q (.panic c) a w)(q:gJ E)(d:gJ E')(f:∀a b,E a b->E' a b)(B:P.follows .mixedOrders=true){l:L}{id:Nat}(y:nD ops N m=true)(C:uQ ops.toList=m)(s:wY N l a0)(D:∀l a w,px a0.defers N l a->K l w->Q .normal a w) (h:DW P T N pn E E' sp ops.toList w0 l K 0 ops.toList [] (yp ops.toList l) [] [] [] []):(Code.region id ops true).wp P Q a0 w0:=by
 have drop:∀(l:L),∀t v,lk (yp ops.toList l) t=some v->wrote ops t=false/\lk l t=some v:=by
  intro l;induction l with
  |nil=>intro t v h;cases h
  |cons p r F=>
   intro t v h;simp only[yp]at h;split at h;rename_i k;have⟨G,u⟩:=F t v h;refine⟨G,?_⟩;simp only[lk];grind [Nat.eq_of_beq_eq_true,un];rename_i k;simp only[lk]at h⊢;grind [Nat.eq_of_beq_eq_true,un]
 have⟨O,_,u,H,I⟩:=Vh (Q:=Q) (a0:=a0) (sp:=sp) s.at_ A n q f y D ops.toList 0 [] _ [] [] [] [] (λ_ _ _ _=>True) (λj=>dt) cK
  ⟨λt v z=>.inl ⟨(drop l t v z).1,s.at_ t v (drop l t v z).2⟩,(λp k=>cK),(λp k=>cK),λp k=>cK⟩ (λ_=>⟨λ_ _ _ _ _ _=>trivial,λ_ _ _ _ _=>trivial⟩) (λj R=>cK) h
 refine za (E:=E) (E':=E') (sp:=sp) (Rch:=λb w=>(b=true\/E w0 w)/\E' w0 w) B y ⟨λb i v w g=>(u i).e b v w g,λi v w g=>(u i).x v w g,λb w g h e=>⟨h.1.imp (λh=>h) λh=>q.trans _ _ _ h e,d.trans _ _ _ h.2 (f _ _ e)⟩,λw g h e=>⟨.inl rfl,d.trans _ _ _ h.2 e⟩⟩ ⟨.inr (q.drew _),d.drew _⟩ s.size (λi o J M=>H i o (gi _) J M) I
end
def WI:List (Nat×cM):=[(24,[0,1,2,3,4,5,6]),(29,[0,1]),(56,[0,1]),(81,[0,1,2]),(84,[0,1,2]),(101,[0,1,2,3]),(121,[0,1,2]),(125,[0,1,2,3,4]),(141,[0,1,2]),(166,[0,1,2,3,4,7]),(173,[0,1,2,3,4]),(184,[0,1]),(186,[0,7,43,44,45]),(199,[0,1,2,3]),(207,[0,1,2,3]),(220,[0,1]),(245,[0,1,2,8]),(247,[0,1])]
def SG:List (Nat×cM)->Nat->Nat->Option Nat
 |[],_,_=>none
 |p::r,S,i=>match Nat.beq p.1 S with
  |true=>nth p.2 i
  |false=>SG r S i
def Fj:y9:=⟨SG WI⟩
noncomputable def KQ(p:Nat×cM):Bool:=match Tryz.prog.underlying p.1 with
 |some (.struct a)=>(List.range p.2.length).all λi=>match nth p.2 i,a[i]? with
  |some d,some f=>f.offset==d&&(match Tryz.prog.info? f.type with
   |some x=>x.size !=0
   |none=>false)
  |_,_=>false
 |_=>false
def XW:WI.all KQ=true:=eE
theorem GP:∀(l:List (Nat×cM)) (S i d:Nat),SG l S i=some d->∃p∈l,p.1=S/\nth p.2 i=some d
 |p::r,S,i,d,h=>by simp only[SG]at h;split at h;rename_i a;exact⟨p,fF,nS a,h⟩;have⟨q,b,c⟩:=GP r S i d h;grind
theorem Po{a:Type}:∀{l:List a} {i:Nat} {d:a},nth l i=some d->i<l.length
 |_::_,0,_,_=>Nat.succ_pos _
 |_::r,n+1,_,h=>Nat.succ_lt_succ (Po (l:=r) h)
def iz{t:cQ}{d:TypeDesc}(h:Tryz.prog.underlying t=some d)(w:cI):Sem.run V.prog (underlying t) w=.ok d w:=by rw[V.xg];unfold underlying;rw[Sem.run_bind,run_program,Result.andThen_ok,h,Sem.run_pure]
def GQ{t:cQ}{x:TypeInfo}(h:Tryz.prog.info? t=some x)(w:cI):Sem.run V.prog (typeInfo t) w=.ok x w:=by rw[V.Fz];unfold typeInfo;rw[Sem.run_bind,run_program,Result.andThen_ok,h,Sem.run_pure]
def Jc{t:cQ}{x:TypeInfo}(h:Tryz.prog.info? t=some x)(w:cI):Sem.run V.prog (sizeOf t) w=.ok x.size w:=by unfold sizeOf;rw[Sem.run_bind,GQ h,Result.andThen_ok,Sem.run_pure]
def Pp{t:cQ}{x:TypeInfo}{z:cJ}(h:Tryz.prog.info? t=some x)(a:x.zero=some z)(w:cI):Sem.run V.prog (zeroValue t) w=.ok z w:=by unfold zeroValue;rw[Sem.run_bind,GQ h,Result.andThen_ok,a,Sem.run_pure]
def dr:mO V.prog Fj:=⟨λS i d h b o w=>by obtain⟨p,k,rfl,j⟩:=GP _ _ _ _ h;have c:=nz.1 XW p k;unfold KQ at c;split at c;rename_i r l;have a:=nz.1 c i (fP.2 (Po j));rw[j]at a;split at a;rename_i s f e m;obtain rfl:=dQ e;simp only[eU,sP]at a;obtain⟨rfl,n⟩:=a;split at n;rename_i x q;have g:x.size≠0:=cK;unfold Instr.fieldAt;rw[Sem.run_bind,iz l,Result.andThen_ok];simp only[m,Instr.sureAddr,pure_bind,fieldPlace,Sem.run_bind,Jc q,Result.andThen_ok,cR g,Sem.run_pure];simp[Addr.add];grind;grind;grind⟩
structure TI where
 kd:Nat
 sz:Nat
 es:Nat
 ln:Nat
def YY:List (Nat×TI):=[(3,⟨0,1,0,0⟩),(4,⟨0,1,0,0⟩),(22,⟨3,1,3,0⟩),(24,⟨1,7,0,0⟩),(25,⟨3,1,3,0⟩),(26,⟨3,1,2,0⟩),(27,⟨3,1,1,0⟩),(29,⟨1,2,0,0⟩),(31,⟨0,1,0,0⟩),(38,⟨0,1,0,0⟩),(43,⟨3,1,7,0⟩),(44,⟨3,1,1,0⟩),(45,⟨3,1,1,0⟩),(56,⟨1,2,0,0⟩),(60,⟨0,1,0,0⟩),(64,⟨3,1,1,0⟩),(66,⟨3,1,1,0⟩),(81,⟨1,3,0,0⟩),(84,⟨1,3,0,0⟩),(95,⟨3,1,4,0⟩),(101,⟨1,4,0,0⟩),(112,⟨0,1,0,0⟩),(117,⟨3,1,1,0⟩),(119,⟨0,1,0,0⟩),(121,⟨1,3,0,0⟩),(125,⟨1,5,0,0⟩),(133,⟨0,1,0,0⟩),(138,⟨0,1,0,0⟩),(139,⟨3,1,8,0⟩),(141,⟨1,3,0,0⟩),(154,⟨0,1,0,0⟩),(164,⟨2,3,1,3⟩),(166,⟨1,8,0,0⟩),(173,⟨1,5,0,0⟩),(178,⟨2,6,1,6⟩),(179,⟨2,36,6,6⟩),(180,⟨0,1,0,0⟩),(181,⟨0,1,0,0⟩),(182,⟨0,1,0,0⟩),(184,⟨1,2,0,0⟩),(186,⟨1,47,0,0⟩),(199,⟨1,4,0,0⟩),(200,⟨0,1,0,0⟩),(204,⟨2,6,1,6⟩),(205,⟨2,32,1,32⟩),(207,⟨1,35,0,0⟩),(209,⟨0,1,0,0⟩),(217,⟨2,5,1,5⟩),(220,⟨1,2,0,0⟩),(222,⟨3,1,1,0⟩),(225,⟨3,1,1,0⟩),(243,⟨0,1,0,0⟩),(245,⟨1,12,0,0⟩),(247,⟨1,5,0,0⟩),(248,⟨3,1,4,0⟩)]
def Xr:List (Nat×TI)->Nat->Option TI
 |[],_=>none
 |p::r,S=>match Nat.beq p.1 S with
  |true=>some p.2
  |false=>Xr r S
def ty(t:Nat):Option TI:=Xr YY t
noncomputable def AC(t n:Nat):Bool:=match Tryz.prog.info? t with
 |some x=>x.size==n
 |none=>false
noncomputable def V3(p:Nat×TI):Bool:=AC p.1 p.2.sz&&(match Tryz.prog.underlying p.1 with
 |some (.struct _)=>p.2.kd==1
 |some (.array n e)=>p.2.kd==2&&p.2.ln==n&&AC e p.2.es
 |some (.slice e)=>p.2.kd==3&&AC e p.2.es
 |some _=>p.2.kd==0
 |none=>false)
def XX:YY.all V3=true:=eE
theorem KT:∀(l:List (Nat×TI)) (S:Nat) (d:TI),Xr l S=some d->(S,d)∈l
 |p::r,S,d,h=>by simp only[Xr]at h;split at h;rename_i a;obtain rfl:=nS a;grind;exact ii _ (KT r S d h)
def KU{t:Nat}{x:TI}(h:ty t=some x):V3 (t,x)=true:=nz.1 XX _ (KT _ _ _ h)
def mX{t n:Nat}(h:AC t n=true)(w:cI):Sem.run V.prog (sizeOf t) w=.ok n w:=by unfold AC at h;split at h;rename_i x a;rw[Jc a,sP.1 h];grind
theorem SH{t:Nat}{x:TI}(h:ty t=some x)(w:cI):Sem.run V.prog (sizeOf t) w=.ok x.sz w:=by have:=KU h;simp only[V3,eU]at this;exact mX this.1 w
def Vi{t:Nat}{x:TI}(h:ty t=some x)(w:cI):Sem.run V.prog (isAgg t) w=.ok (x.kd==1||x.kd==2) w:=by
 have:=KU h;simp only[V3,eU]at this;have a:=this.2;unfold isAgg;cases b:Tryz.prog.underlying t with
 |none=>grind
 |some d=>
  rw[b]at a;rw[Sem.run_bind,iz b,Result.andThen_ok];cases d<;>simp only[eU,sP]at a<;>simp[a]
def tA{t:Nat}{x:TI}(h:ty t=some x)(a:x.kd=3):∃e,Tryz.prog.underlying t=some (.slice e)/\AC e x.es=true:=by have:=KU h;simp only[V3,eU]at this;grind
def GR{t:Nat}{x:TI}(h:ty t=some x)(a:x.kd=2):∃e,Tryz.prog.underlying t=some (.array x.ln e)/\AC e x.es=true:=by have:=KU h;simp only[V3,eU]at this;grind
def zL:List (Nat×dN):=[(3,[.int .i64 0]),(24,[.int .i64 0,.int .i64 0,.int .i64 0,.int .i64 0,.int .i64 0,.int .i64 0,.slice none 0 0]),(27,[.slice none 0 0]),(29,[.int .i64 0,.slice none 0 0]),(31,[.nilFunc]),(56,[.int .i64 0,.int .i64 0]),(66,[.slice none 0 0]),(81,[.int .i64 0,.int .i64 0,.int .i64 0]),(84,[.int .i64 0,.int .i64 0,.bool false]),(101,[.int .i64 0,.int .i64 0,.bool false,.bool false]),(125,[.bool false,.int .i64 0,.int .i64 0,.slice none 0 0,.slice none 0 0]),(141,[.pointer none,.slice none 0 0,.int .i64 0]),(166,[.int .i64 0,.int .i64 0,.int .i64 0,.bool false,.bool false,.bool false,.bool false,.bool false]),(173,[.bool false,.int .i64 0,.int .i64 0,.int .i64 0,.int .i64 0]),(178,[.int .i64 0,.int .i64 0,.int .i64 0,.int .i64 0,.int .i64 0,.int .i64 0]),(186,[.int .i64 0,.int .i64 0,.int .i64 0,.int .i64 0,.int .i64 0,.int .i64 0,.slice none 0 0,.int .i64 0,.int .i64 0,.int .i64 0,.int .i64 0,.int .i64 0,.int .i64 0,.int .i64 0,.int .i64 0,.int .i64 0,.int .i64 0,.int .i64 0,.int .i64 0,.int .i64 0,.int .i64 0,.int .i64 0,.int .i64 0,.int .i64 0,.int .i64 0,.int .i64 0,.int .i64 0,.int .i64 0,.int .i64 0,.int .i64 0,.int .i64 0,.int .i64 0,.int .i64 0,.int .i64 0,.int .i64 0,.int .i64 0,.int .i64 0,.int .i64 0,.int .i64 0,.int .i64 0,.int .i64 0,.int .i64 0,.int .i64 0,.map none,.map none,.nilFunc,.nilFunc]),(199,[.slice none 0 0,.int .i64 0,.int .i64 0,.bool false]),(204,[.int .u8 0,.int .u8 0,.int .u8 0,.int .u8 0,.int .u8 0,.int .u8 0]),(209,[.nilFunc]),(217,[.bool false,.bool false,.bool false,.bool false,.bool false]),(220,[.slice none 0 0,.bool false]),(225,[.slice none 0 0]),(247,[.int .i64 0,.slice none 0 0,.int .i64 0,.int .i64 0,.bool false])]
def zG:List (Nat×dN)->Nat->Option dN
 |[],_=>none
 |p::r,S=>match Nat.beq p.1 S with
  |true=>some p.2
  |false=>zG r S
def zc(t:Nat):Option dN:=zG zL t
noncomputable def Xs(t:Nat):Option cJ:=(Tryz.prog.info? t).bind (·.zero)
def ZC:(zL.map λp=>(Xs p.1).map (·.cells.toList))=zL.map λp=>some p.2:=eE
theorem Ur:∀(l:List (Nat×dN)),(l.map λp=>(Xs p.1).map (·.cells.toList))=(l.map λp=>some p.2)->∀t a,zG l t=some a->(Xs t).map (·.cells.toList)=some a
 |p::r,h,t,a,b=>by simp only[kY,Ce]at h;simp only[zG]at b;split at b;grind [Nat.eq_of_beq_eq_true,Option.some.inj];exact Ur r h.2 t a b
def Vj{t:Nat}{b:dN}(h:zc t=some b):∃z,z.cells=b.toArray/\∀w,Sem.run V.prog (zeroValue t) w=.ok z w:=by
 have a:=Ur _ ZC t b h;unfold Xs at a;cases c:Tryz.prog.info? t with
 |none=>grind
 |some x=>
  rw[c]at a;simp only[xe]at a;cases d:x.zero with
  |none=>grind
  |some z=>
   rw[d]at a;refine⟨z,?_,λw=>Pp c d w⟩;grind
section
variable{w:cI}{k:cJ->cI->Prop}{s:cI->Prop}
def SI(a b:Nat):(a==b)=Nat.beq a b:=by grind [Nat.eq_of_beq_eq_true,Nat.ne_of_beq_eq_false]
def GS(t:Nat):Option Bool:=match ty t with
 |some x=>match Nat.beq x.kd 1 with
  |true=>some true
  |false=>some (Nat.beq x.kd 2)
 |none=>none
def AD{t:Nat}{b:Bool}(h:GS t=some b)(w:cI):Sem.run V.prog (isAgg t) w=.ok b w:=by unfold GS at h;split at h;rename_i x a;rw[Vi a];split at h;grind [Option.some.inj,Nat.eq_of_beq_eq_true];rename_i c;obtain rfl:=dQ h;have:x.kd≠1:=Iq c;have e:(x.kd==1)=false:=cK;rw[e,Bool.false_or,SI];grind
def Pq(t:Nat):Option Nat:=match ty t with
 |some x=>some x.sz
 |none=>none
def Ei{t n:Nat}(h:Pq t=some n)(w:cI):Sem.run V.prog (sizeOf t) w=.ok n w:=by unfold Pq at h;grind [Option.some.inj,SH]
def cO{t:cQ}{v:cJ}(c:w.cell? h=some v)(a:k v w)(b:GS t=some false:=by rfl):jL V.prog (Instr.loadAt t (.pointer (some h))) w k:=by refine⟨v,w,?_,a⟩;simp only[Instr.loadAt,Instr.sureAddr,pure_bind,loadVar,Sem.run_bind,AD b,Result.andThen_ok,iH,fj];go_simp
theorem iq(b o j:Nat):(⟨b,o,none⟩:Addr).add j=⟨b,o+j,none⟩:=by grind [Addr.add]
def ew{t:cQ}{vs:dN}(d:∀j v,vs[j]? =some v->w.cell? ⟨i,o+j,none⟩=some v)(h:k (.agg vs.toArray) w)(a:GS t=some true:=by rfl)(b:Pq t=some vs.length:=by rfl):
 jL V.prog (Instr.loadAt t (.pointer (some ⟨i,o,none⟩))) w k:=by
 refine⟨_,w,?_,h⟩;have c:=run_loadCells_list (P:=jS) w (dq i o) vs λj v e=>by grind [iq]
 simp only[Instr.loadAt,Instr.sureAddr,pure_bind,loadVar,Sem.run_bind,AD a,Ei b,Result.andThen_ok,ej,c,Sem.run_pure]
def ir(a:eF)(o:Nat):dN->eF
 |[]=>a
 |v::r=>ir (a.setIfInBounds o v) (o+1) r
theorem tB:∀(d:dN) (w:cI) (b o:Nat) (a:eF) (t:cQ) (c:Nat×Nat),w.heap[b]? =some (.cells a t c)->(w.setCells b o d).heap[b]? =some (.cells (ir a o d) t c)
 |[],w,b,o,a,t,c,h=>h
 |v::r,w,b,o,a,t,c,h=>tB r (w.setCell (dq b o) v) b (o+1) (a.setIfInBounds o v) t c (by simp[World.setCell,nO,h])
theorem qn:∀(c:dN) (w a:cI) (b o:Nat),dA (λx=>x=b) a w->dA (λx=>x=b) a (w.setCells b o c)
 |[],_,_,_,_,h=>h
 |v::r,w,a,b,o,h=>qn r _ a b (o+1) (h.setCell _ _ λ_=>rfl)
def jp{t:cQ}{v:cJ}{a:eF}{d:cQ}(b:w.heap[i]? =some (.cells a d))(l:o+v.cells.size<=a.size)(h:∀c,dA (λx=>x=i) w c->c.heap[i]? =some (.cells (ir a o v.cells.toList) d)->s c)
 (e:∀u∈v.cells.toList,u.oneCell'=true:=by simp[Value.cells])(f:Pq t=some v.cells.size:=by rfl):Ed V.prog (Instr.storeAt t (.pointer (some ⟨i,o,none⟩)) v) w s:=by
 have m:=run_storeCells_cells (P:=jS) i o v.cells.toList 0 w (λj g=>by
  have k:o+0+j<a.size:=by grind
  simp only[World.cell?,b];grind) (λj g=>by simp[World.frozen?,b]) e
 refine⟨_,?_,h (w.setCells i o v.cells.toList) (qn _ _ _ _ _ (dA.refl _ w)) (tB _ _ _ _ _ _ _ b)⟩;simp only[Instr.storeAt,Instr.sureAddr,pure_bind,storeVar,Sem.run_bind,Ei f,Result.andThen_ok,ne_eq,not_true_eq_false,fj];grind
def sD:dN->Bool
 |[]=>true
 |v::r=>match v.oneCell' with
  |true=>sD r
  |false=>false
theorem gK:∀{l:dN},sD l=true->∀u∈l,u.oneCell'=true
 |v::r,h,u,a=>by simp only[sD]at h;split at h;rename_i b;obtain rfl|a:=eW.1 a;grind;exact gK h u a;grind
def dI{t:cQ}{v:cJ}{a:eF}{c:cQ}(d:w.heap[i]? =some (.cells a c))(h:∀b,dA (λx=>x=i) w b->b.heap[i]? =some (.cells (ir a o v.cells.toList) c)->s b)
 (e:Nat.ble (o+v.cells.size) a.size=true:=by rfl)(f:sD v.cells.toList=true:=by rfl)(g:Pq t=some v.cells.size:=by rfl):Ed V.prog (Instr.storeAt t (.pointer (some ⟨i,o,none⟩)) v) w s:=
 jp d (qH e) h (gK f) g
def pK(t:Nat):dN:=match zc t with
 |some a=>a
 |none=>[]
def XY(t:Nat):Bool:=match zc t with
 |some _=>true
 |none=>false
def eS{t:cQ}(h:∀a b,Ext w a->w.heap.size<=b->a.heap[b]? =some (.cells (pK t).toArray t)->k (.pointer (some ⟨b,0,none⟩)) a)(c:XY t=true:=by rfl):jL V.prog (Instr.alloc t true (.tuple #[])) w k:=by
 unfold XY at c;cases d:zc t with
 |none=>rw[d]at c;cases c
 |some f=>
  have e:pK t=f:=by simp[pK,d]
  have⟨z,g,i⟩:=Vj d;rw[e]at h;refine⟨_,w.alloc (.cells f.toArray t),?_,h _ w.lH (Ext.alloc _ _) (dg _) (fX _ _)⟩;simp only[Instr.alloc,Sem.run_bind,i,Result.andThen_ok,newVar,newRow,g];simp
def eH{t:cQ}{v:cJ}(h:∀a b,Ext w a->w.heap.size<=b->a.heap[b]? =some (.cells v.cells t)->k (.pointer (some ⟨b,0,none⟩)) a):jL V.prog (Instr.box t v) w k:=by refine⟨_,w.alloc (.cells v.cells t),?_,h _ w.lH (Ext.alloc _ _) (dg _) (fX _ _)⟩;simp only[Instr.box,newVar,newRow];simp
def fE{t b o l c:Nat}(a g:Nat){i:Int}(q:a<l)(h:k (.pointer (some ⟨b,o+a*g,none⟩)) w)(j:i=(a:Nat):=by rfl)(m:ty t=some ⟨3,1,g,0⟩:=by rfl):jL V.prog (Instr.indexAt t (.slice (some ⟨b,o,none⟩) l c) (.int .i64 i)) w k:=by subst j;have⟨e,n,p⟩:=tA m rfl;refine⟨_,w,?_,h⟩;have d:(a:Int)<(l:Int):=cL;have f:(0:Int)<=(a:Int):=dt;unfold Instr.indexAt;simp only[asIntOf,pure_bind,Sem.run_bind,iz n,Result.andThen_ok,Sem.run_pure,f,d,and_self,ej,mX p,ny,iq]
def zw{t b o:Nat}(a f n:Nat){g:Int}(q:a<n)(h:k (.pointer (some ⟨b,o+a*f,none⟩)) w)(j:g=(a:Nat):=by rfl)(l:ty t=some ⟨2,i,f,n⟩:=by rfl):jL V.prog (Instr.indexAt t (.pointer (some ⟨b,o,none⟩)) (.int .i64 g)) w k:=by subst j;have⟨e,m,p⟩:=GR l rfl;refine⟨_,w,?_,h⟩;have c:(a:Int)<(n:Int):=cL;have d:(0:Int)<=(a:Int):=dt;unfold Instr.indexAt;simp only[asIntOf,Instr.sureAddr,pure_bind,Sem.run_bind,iz m,Result.andThen_ok,Sem.run_pure,d,c,and_self,ej,mX p,ny,iq]
def eX{t b o l c:Nat}(a:Nat){i:Int}(d:a<l)(h:k (.pointer (some ⟨b,o+a,none⟩)) w)(e:i=(a:Nat):=by rfl)(f:ty t=some ⟨3,1,1,0⟩:=by rfl):jL V.prog (Instr.indexAt t (.slice (some ⟨b,o,none⟩) l c) (.int .i64 i)) w k:=
 fE a 1 d cK e f
def vm{t b o:Nat}(a n:Nat){i:Int}(c:a<n)(h:k (.pointer (some ⟨b,o+a,none⟩)) w)(d:i=(a:Nat):=by rfl)(e:ty t=some ⟨2,n,1,n⟩:=by rfl):jL V.prog (Instr.indexAt t (.pointer (some ⟨b,o,none⟩)) (.int .i64 i)) w k:=
 zw a 1 n c cK d e
def dm{t b:cQ}{c:Array Bool}(h:k (.int .i64 i) w)(d:ty b=some ⟨3,1,o,0⟩:=by rfl):y8 V.prog (builtin .len #[b] t c #[.slice a i j]) w k:=by
 have⟨e,f,_⟩:=tA d rfl;refine⟨_,w,?_,h⟩;have g:Sem.run jS (Builtin.len_ #[b] t #[.slice a i j]) w=.ok (i64 i) w:=by unfold Builtin.len_;simp only[Fs,Kc,Sem.run_bind,iz f,Result.andThen_ok,Sem.run_pure];rfl
 unfold builtin;simp only[Sem.run_bind,g,Result.andThen_ok,Sem.run_pure]
def eC{b:Bool}(h:k (.bool (!b)) w):jL V.prog (Op.unary .not (.bool b)) w k:=⟨_,w,by go_simp,h⟩
section
variable{t:cQ}{x y:dW}{m n:Int}{κ:IntKind}
def cW(h:k (.int .i64 (m+n)) w)(a: -9223372036854775808<=m+n/\m+n<=9223372036854775807:=by omega):jL V.prog (do eqGuard .add t x y (.int .i64 m) (.int .i64 n);binOp .add t (.int .i64 m) (.int .i64 n)) w k:=
 ⟨_,w,by go_simp;exact IntWalk.i64_in _ a,h⟩
def gC(h:k (.int .i64 (m-n)) w)(a: -9223372036854775808<=m-n/\m-n<=9223372036854775807:=by omega):jL V.prog (do eqGuard .sub t x y (.int .i64 m) (.int .i64 n);binOp .sub t (.int .i64 m) (.int .i64 n)) w k:=
 ⟨_,w,by go_simp;exact IntWalk.i64_in _ a,h⟩
def oT(h:k (.int .i64 (m*n)) w)(a: -9223372036854775808<=m*n/\m*n<=9223372036854775807:=by omega):jL V.prog (do eqGuard .mul t x y (.int .i64 m) (.int .i64 n);binOp .mul t (.int .i64 m) (.int .i64 n)) w k:=
 ⟨_,w,by go_simp;exact IntWalk.i64_in _ a,h⟩
def dK(h:k (.bool (decide (m<n))) w):jL V.prog (do eqGuard .lss t x y (.int κ m) (.int κ n);binOp .lss t (.int κ m) (.int κ n)) w k:=⟨_,w,by go_simp,h⟩
def sv(h:k (.bool (decide (m<=n))) w):jL V.prog (do eqGuard .leq t x y (.int κ m) (.int κ n);binOp .leq t (.int κ m) (.int κ n)) w k:=⟨_,w,by go_simp,h⟩
def mP(h:k (.bool (decide (n<m))) w):jL V.prog (do eqGuard .gtr t x y (.int κ m) (.int κ n);binOp .gtr t (.int κ m) (.int κ n)) w k:=⟨_,w,by go_simp,h⟩
def wo(h:k (.bool (decide (n<=m))) w):jL V.prog (do eqGuard .geq t x y (.int κ m) (.int κ n);binOp .geq t (.int κ m) (.int κ n)) w k:=⟨_,w,by go_simp,h⟩
def fc(h:k (.bool (decide (m=n))) w):jL V.prog (do eqGuard .eql t x y (.int κ m) (.int κ n);binOp .eql t (.int κ m) (.int κ n)) w k:=⟨_,w,by go_simp;grind,h⟩
def gQ(h:k (.bool (decide (m≠n))) w):jL V.prog (do eqGuard .neq t x y (.int κ m) (.int κ n);binOp .neq t (.int κ m) (.int κ n)) w k:=⟨_,w,by go_simp;grind,h⟩
end
@[simp] def ZD (v:cJ):one [v]=v:=rfl
@[simp] def ZF (u v:cJ):one [u,v]=.tuple #[u,v]:=rfl
def rI{a:Array cQ}{t:cQ}{b:Array Bool}{m n:Int}(h:k (.int .i64 (max m n)) w):y8 V.prog (builtin .max a t b #[.int .i64 m,.int .i64 n]) w k:=by
 refine⟨_,w,?_,h⟩;have c:Sem.run jS (Builtin.max_ a t #[i64 m,i64 n]) w=.ok (i64 (max m n)) w:=by unfold Builtin.max_;grind [Sem.run_pure,Builtin.max2]
 unfold builtin;simp only[Sem.run_bind,c,Result.andThen_ok,Sem.run_pure]
def pM{t:cQ}(b:Nat){x:Int}(n:b<=j)(h:k (.slice a b j) w)(f:x=(b:Nat):=by rfl)(g:ty t=some ⟨3,1,o,0⟩:=by rfl):jL V.prog (Instr.sliceAt t (.slice a i j) none (some (.int .i64 x)) none) w k:=by subst f;have⟨e,l,m⟩:=tA g rfl;refine⟨_,w,?_,h⟩;have c:(b:Int)<=(j:Int):=cL;have d:(0:Int)<=(b:Int):=dt;unfold Instr.sliceAt Instr.slice;simp only[Sem.run_bind,iz l,Result.andThen_ok,Instr.sliceBounds,Instr.sliceBound,asIntOf,pure_bind,d,c,and_self,ej,Sem.run_pure,mX m,ny,Nat.sub_zero];cases a<;>simp[Addr.add]
def fM(R:nB):Ending->dB:=λe w=>∃v,e=.returned v/\R v w
def cX{a:dN}{R:nB}{b:List PanicEntry->dB}(g:Calls V.prog K a.toArray w (fM R))(h:∀v c,R v c->k v c)(d:∀f w,Sem.run V.prog (callFunc K f) w=.ok (.enter K f) w:=by intro _ _;kernel_rfl):SA V.prog K a w k b:=by refine⟨d,g.mono ?_⟩;rintro e c ⟨v,rfl,i⟩;grind
end
def dH{a:dN}{d:cJ}{w:cI}{k:nB}{b:List PanicEntry->dB}(g:Calls V.prog K a.toArray w (fM λv e=>v=d/\e=w))(h:k d w)(c:∀f w,Sem.run V.prog (callFunc K f) w=.ok (.enter K f) w:=by intro _ _;kernel_rfl):SA V.prog K a w k b:=
 cX g (λv e i=>cK) c
def ek{a:dN}{v0:cJ}{w:cI}{k:nB}{c:List PanicEntry->dB}(f:Calls V.prog K a.toArray w (fM λv b=>v=v0/\Ext w b))(h:∀b,Ext w b->k v0 b)(d:∀e w,Sem.run V.prog (callFunc K e) w=.ok (.enter K e) w:=by intro _ _;kernel_rfl):SA V.prog K a w k c:=
 cX f (λv b g=>cK) d
def jX{b:Bool}{A B:Prop}(h:b=true)(k:A):(b=true->A)/\(b=false->B):=⟨λ_=>k,λa=>cK⟩
def lh{b:Bool}{A B:Prop}(h:b=false)(k:B):(b=true->A)/\(b=false->B):=⟨λa=>cK,λ_=>k⟩
def ft{N b z c n:Nat}{A f B:Code}{l:L}{w:cI}{Q:QW}(h:Nat->L)(J:Nat->dB)(C:Sub (h 0) l/\J 0 w)
 (q:∀k w,k<=n->J k w->WC V.prog Fj N A (λe p g=>e=.normal/\lk p c=some (.bool (decide ((k:Int)<(n:Int))))/\Sub (h k) p/\J k g) (h k) w)
 (i:∀k w,k<n->J k w->WC V.prog Fj N (.seq (.block z f) B) (λe p g=>match e with
  | .normal=>Sub (h (k+1)) p/\J (k+1) g
  |e=>jT b Q e p g) (h k) w)
 (r:∀w,J n w->Q .normal (h n) w):dP V.prog N (Code.block b (Code.loop (A.seq ((Code.cond (.tmp c) Code.skip (Code.exit b)).seq ((Code.block z f).seq B))))) l w Q:=by
 refine⟨λa u=>?_⟩;refine wp_block<|n6 (λj a w=>∃k,k<=n/\j=n-k/\Fr N (h k) a/\J k w) n ⟨0,gi _,dt,u.sub C.1,C.2⟩ ?_;rintro j a w ⟨k,E,rfl,u,F⟩;refine lf (lM (jo dr _ _ _ a w u (q k w E F)) ?_);rintro e G g ⟨p,m,rfl,H,D,s⟩;refine lf (wp_cond_split (m.at_ c _ H) (λI=>?_) λK=>?_);have v:k<n:=cK;refine wp_skip<|lM (jo dr _ _ _ G g (m.sub D) (i k g v s)) ?_;rintro e M O ⟨x,d,o⟩;cases e with
 |normal=>exact⟨n-(k+1),cL,k+1,cL,rfl,d.sub o.1,o.2⟩
 |exit j=>
  simp only[Exit.then,Exit.inBlock];by_cases t:j=b;subst t;rw[cT rfl];simp only[jT,Cg]at o;exact⟨x,d,o⟩;rw[cR t];have:Nat.beq j b=false:=by grind [Nat.eq_of_beq_eq_true]
  simp only[jT,this]at o;exact⟨x,d,o⟩
 |_=>exact⟨x,d,o⟩
 have y:k=n:=by grind
 subst y;refine wp_exit ?_;simp only[Exit.then,Exit.inBlock,ej];exact⟨_,m.sub D,r g s⟩
def jG{x:Type}{N b D c n:Nat}{E f F:Code}{l:L}{w:cI}{Q:QW}(h:Nat->x->L)(J:Nat->x->dB)(y:x)(G:Sub (h 0 y) l/\J 0 y w)
 (q:∀k s w,k<=n->J k s w->WC V.prog Fj N E (λe o g=>e=.normal/\lk o c=some (.bool (decide ((k:Int)<(n:Int))))/\Sub (h k s) o/\J k s g) (h k s) w)
 (i:∀k s w,k<n->J k s w->WC V.prog Fj N (.seq (.block D f) F) (λe o g=>match e with
  | .normal=>∃v,Sub (h (k+1) v) o/\J (k+1) v g
  |e=>jT b Q e o g) (h k s) w)
 (r:∀s w,J n s w->Q .normal (h n s) w):dP V.prog N (Code.block b (Code.loop (E.seq ((Code.cond (Operand.tmp c) Code.skip (Code.exit b)).seq ((Code.block D f).seq F))))) l w Q:=by
 refine⟨λa z=>?_⟩;refine wp_block<|n6 (λj a w=>∃k s,k<=n/\j=n-k/\Fr N (h k s) a/\J k s w) n ⟨0,y,gi _,dt,z.sub G.1,G.2⟩ ?_;rintro j a w ⟨k,s,I,rfl,z,K⟩;refine lf (lM (jo dr _ _ _ a w z (q k s w I K)) ?_);rintro e M g ⟨o,m,rfl,O,H,t⟩;refine lf (wp_cond_split (m.at_ c _ O) (λS=>?_) λT=>?_);have A:k<n:=cK;refine wp_skip<|lM (jo dr _ _ _ M g (m.sub H) (i k s g A t)) ?_;rintro e U W ⟨B,d,p⟩;cases e with
 |normal=>
  have⟨v,P,R⟩:=p;exact⟨n-(k+1),cL,k+1,v,cL,rfl,d.sub P,R⟩
 |exit j=>
  simp only[Exit.then,Exit.inBlock];by_cases u:j=b;subst u;rw[cT rfl];simp only[jT,Cg]at p;exact⟨B,d,p⟩;rw[cR u];have:Nat.beq j b=false:=by grind [Nat.eq_of_beq_eq_true]
  simp only[jT,this]at p;exact⟨B,d,p⟩
 |_=>exact⟨B,d,p⟩
 have C:k=n:=by grind
 subst C;refine wp_exit ?_;simp only[Exit.then,Exit.inBlock,ej];exact⟨_,m.sub H,r s g t⟩
theorem go{a:Func}{c:Code}{b:eF}{w:cI}{R:Ending->dB}(e:V.prog.funcs[K]? =some a)(f:a.ntmps=i)(h:WC V.prog Fj i c (QR V.prog a.results.toList R) (b.toList.zipIdx.map λp=>(p.2,p.1)) w)
 (g:a.body=some c:=by rfl)(d:Nat.ble b.toList.length i=true:=by rfl):Calls V.prog K b w R:=by
 have:=WE dr (args:=b.toList) i e g f (qH d) h;simpa using this
def Vk{a:Type}{b c:Array a}{v f:a}{n k:Nat}(h:c=b.setIfInBounds n v)(d:k≠n)(e:b[k]? =some f):c[k]? =some f:=by grind
def V.Pr:V.prog.funcs=Tryz.prog.funcs.setIfInBounds 163 V.f163:=eE
def V.fn{k:Nat}{f:Func}(h:Tryz.prog.funcs[k]? =some f)(a:k≠163):V.prog.funcs[k]? =some f:=Vk V.Pr a h
def jb{a:Func}{c:Code}{b:eF}{w:cI}{R:Ending->dB}(e:Tryz.prog.funcs[K]? =some a)(f:a.ntmps=i)(h:WC V.prog Fj i c (QR V.prog a.results.toList R) (b.toList.zipIdx.map λp=>(p.2,p.1)) w)
 (g:a.body=some c:=by rfl)(d:Nat.ble b.toList.length i=true:=by rfl)(j:K≠163:=by decide):Calls V.prog K b w R:=go (V.fn e j) f h g d
def Jd{b:eF}{w:cI}{v:cJ}{S:dB}(h:Calls V.prog K b w λe a=>e=.returned v/\S a):Calls V.prog K b w (fM λu a=>u=v/\S a):=h.mono λe a h=>⟨v,h.1,rfl,h.2⟩
def fM.same{a:eF}{w:cI}{v:cJ}(h:Calls V.prog K a w (fM λu w'=>u=v/\w'=w)):Calls V.prog K a w (fM λu w'=>u=v/\Ext w w'):=h.mono λe w' ⟨v,h,b,c⟩=>⟨v,h,b,c▸Ext.refl _⟩
def gZ{N id:Nat}{e:Array Oper}{l:L}{w:cI}{Q:QW}{E g:cI->dB}(n:Nat)(o:gJ E)(i:gJ g)(j:∀a b,E a b->g a b)(h:DW V.prog Fj N (λc k=>Q (.panic c) [] k) E g n e.toList w l (λl k=>Q .normal l k) 0 e.toList [] (yp e.toList l) [] [] [] [])(p:nD e N (uQ e.toList)=true:=by kernel_rfl):
 dP V.prog N (.region id e true) l w Q:=
 ⟨λa m=>GO dr (λc a w q r s=>⟨[],⟨q,r.trans m.defers,λt v u=>by cases u⟩,s⟩) o i j eE p rfl m.b (λl y w f x=>⟨l,⟨f.b.size,f.d.trans m.defers,f.b.at_⟩,x⟩) h⟩
def dD{N id:Nat}{a:Array Oper}{l:L}{w:cI}{Q:QW}{E:cI->dB}(d:gJ E)(h:DW V.prog Fj N (λc b=>Q (.panic c) [] b) E E 1000 a.toList w l (λl b=>Q .normal l b) 0 a.toList [] (yp a.toList l) [] [] [] [])(e:nD a N (uQ a.toList)=true:=by kernel_rfl):
 dP V.prog N (.region id a true) l w Q:=gZ 1000 d d (λ_ _ h=>h) h e
section
variable{E:cI->cI->Prop}{w:cI}{kx:cJ->Prop}{kr kp kl:io->Prop}{lb ea:Bool}
def dx{s:Sem cJ}(v:cJ)(h:∀a,E w a->jL V.prog s a λu b=>u=v/\E a b)(k:kx v):xv E E w (λa κ=>jL V.prog s a κ) kx kr kp lb kl ea:=.exact v h k
def Xt{s:Sem Next}(v:cJ)(h:∀a,E w a->y8 V.prog s a λu b=>u=v/\E a b)(k:kx v):xv E E w (λa κ=>y8 V.prog s a κ) kx kr kp lb kl ea:=.exact v h k
def ik{a:dN}{c:List PanicEntry->dB}(v:cJ)(g:∀b,E w b->Calls V.prog K a.toArray b (fM λu i=>u=v/\E b i))(k:kx v)(d:∀f w,Sem.run V.prog (callFunc K f) w=.ok (.enter K f) w:=by intro _ _;kernel_rfl):xv E E w (λb κ=>SA V.prog K a b κ c) kx kr kp lb kl ea:=
 .exact v (λb e=>cX (g b e) (λ_ _ h=>h) d) k
def iW{a:dN}{c:List PanicEntry->dB}(i:gJ E)(v:cJ)(j:∀b,E w b->Calls V.prog K a.toArray b (fM λu f=>u=v/\f=b))(k:kx v)(d:∀g w,Sem.run V.prog (callFunc K g) w=.ok (.enter K g) w:=by intro _ _;kernel_rfl):xv E E w (λb κ=>SA V.prog K a b κ c) kx kr kp lb kl ea:=
 .exact v (λb e=>cX (j b e) (λu f h=>⟨h.1,by rw[h.2];exact i.refl _⟩) d) k
def dl{t:cQ}{v:cJ}(b:w.cell? h=some v)(k:kx v)(c:GS t=some false:=by rfl):xv Ext Ext w (λa κ=>jL V.prog (Instr.loadAt t (.pointer (some h))) a κ) kx kr kp lb kl ea:=
 dx v (λa e=>cO (e.cell b) gd c) k
variable{t:cQ}{x y:dW}{m n:Int}{κ:IntKind}
def mY{b:Bool}(h:kx (.bool (!b)))(c:gJ E:=by first|exact dC|exact im _):xv E E w (λa f=>jL V.prog (Op.unary .not (.bool b)) a f) kx kr kp lb kl ea:=
 dx _ (λa _=>eC ⟨rfl,c.refl _⟩) h
def vn(h:kx (.int .i64 (m+n)))(b: -9223372036854775808<=m+n/\m+n<=9223372036854775807:=by omega)(c:gJ E:=by first|exact dC|exact im _):xv E E w (λa f=>jL V.prog (do eqGuard .add t x y (.int .i64 m) (.int .i64 n);binOp .add t (.int .i64 m) (.int .i64 n)) a f) kx kr kp lb kl ea:=
 dx _ (λa _=>cW ⟨rfl,c.refl _⟩ b) h
def vo(h:kx (.int .i64 (m-n)))(b: -9223372036854775808<=m-n/\m-n<=9223372036854775807:=by omega)(c:gJ E:=by first|exact dC|exact im _):xv E E w (λa f=>jL V.prog (do eqGuard .sub t x y (.int .i64 m) (.int .i64 n);binOp .sub t (.int .i64 m) (.int .i64 n)) a f) kx kr kp lb kl ea:=
 dx _ (λa _=>gC ⟨rfl,c.refl _⟩ b) h
def Je(h:kx (.int .i64 (m*n)))(b: -9223372036854775808<=m*n/\m*n<=9223372036854775807:=by omega)(c:gJ E:=by first|exact dC|exact im _):xv E E w (λa f=>jL V.prog (do eqGuard .mul t x y (.int .i64 m) (.int .i64 n);binOp .mul t (.int .i64 m) (.int .i64 n)) a f) kx kr kp lb kl ea:=
 dx _ (λa _=>oT ⟨rfl,c.refl _⟩ b) h
def GT(h:kx (.bool (decide (m<n))))(b:gJ E:=by first|exact dC|exact im _):xv E E w (λa f=>jL V.prog (do eqGuard .lss t x y (.int κ m) (.int κ n);binOp .lss t (.int κ m) (.int κ n)) a f) kx kr kp lb kl ea:=
 dx _ (λa _=>dK ⟨rfl,b.refl _⟩) h
def Us(h:kx (.bool (decide (m<=n))))(b:gJ E:=by first|exact dC|exact im _):xv E E w (λa f=>jL V.prog (do eqGuard .leq t x y (.int κ m) (.int κ n);binOp .leq t (.int κ m) (.int κ n)) a f) kx kr kp lb kl ea:=
 dx _ (λa _=>sv ⟨rfl,b.refl _⟩) h
def AE(h:kx (.bool (decide (n<m))))(b:gJ E:=by first|exact dC|exact im _):xv E E w (λa f=>jL V.prog (do eqGuard .gtr t x y (.int κ m) (.int κ n);binOp .gtr t (.int κ m) (.int κ n)) a f) kx kr kp lb kl ea:=
 dx _ (λa _=>mP ⟨rfl,b.refl _⟩) h
def WJ(h:kx (.bool (decide (n<=m))))(b:gJ E:=by first|exact dC|exact im _):xv E E w (λa f=>jL V.prog (do eqGuard .geq t x y (.int κ m) (.int κ n);binOp .geq t (.int κ m) (.int κ n)) a f) kx kr kp lb kl ea:=
 dx _ (λa _=>wo ⟨rfl,b.refl _⟩) h
def KV(h:kx (.bool (decide (m=n))))(b:gJ E:=by first|exact dC|exact im _):xv E E w (λa f=>jL V.prog (do eqGuard .eql t x y (.int κ m) (.int κ n);binOp .eql t (.int κ m) (.int κ n)) a f) kx kr kp lb kl ea:=
 dx _ (λa _=>fc ⟨rfl,b.refl _⟩) h
def Ut(h:kx (.bool (decide (m≠n))))(b:gJ E:=by first|exact dC|exact im _):xv E E w (λa f=>jL V.prog (do eqGuard .neq t x y (.int κ m) (.int κ n);binOp .neq t (.int κ m) (.int κ n)) a f) kx kr kp lb kl ea:=
 dx _ (λa _=>gQ ⟨rfl,b.refl _⟩) h
def jq{t b o l c:Nat}(a d:Nat){i:Int}(g:a<l)(h:kx (.pointer (some ⟨b,o+a*d,none⟩)))(j:i=(a:Nat):=by rfl)(k:ty t=some ⟨3,1,d,0⟩:=by rfl)(m:gJ E:=by first|exact dC|exact im _):xv E E w (λe f=>jL V.prog (Instr.indexAt t (.slice (some ⟨b,o,none⟩) l c) (.int .i64 i)) e f) kx kr kp lb kl ea:=
 dx _ (λe _=>fE a d g ⟨rfl,m.refl _⟩ j k) h
def KX{t b o:Nat}(a c n:Nat){d:Int}(g:a<n)(h:kx (.pointer (some ⟨b,o+a*c,none⟩)))(j:d=(a:Nat):=by rfl)(k:ty t=some ⟨2,i,c,n⟩:=by rfl)(l:gJ E:=by first|exact dC|exact im _):xv E E w (λe f=>jL V.prog (Instr.indexAt t (.pointer (some ⟨b,o,none⟩)) (.int .i64 d)) e f) kx kr kp lb kl ea:=
 dx _ (λe _=>zw a c n g ⟨rfl,l.refl _⟩ j k) h
def gB{t b o l c:Nat}(a:Nat){i:Int}(e:a<l)(h:kx (.pointer (some ⟨b,o+a,none⟩)))(g:i=(a:Nat):=by rfl)(j:ty t=some ⟨3,1,1,0⟩:=by rfl)(k:gJ E:=by first|exact dC|exact im _):xv E E w (λd f=>jL V.prog (Instr.indexAt t (.slice (some ⟨b,o,none⟩) l c) (.int .i64 i)) d f) kx kr kp lb kl ea:=
 dx _ (λd _=>eX a e ⟨rfl,k.refl _⟩ g j) h
def rJ{t b o:Nat}(a n:Nat){i:Int}(d:a<n)(h:kx (.pointer (some ⟨b,o+a,none⟩)))(e:i=(a:Nat):=by rfl)(g:ty t=some ⟨2,n,1,n⟩:=by rfl)(j:gJ E:=by first|exact dC|exact im _):xv E E w (λc f=>jL V.prog (Instr.indexAt t (.pointer (some ⟨b,o,none⟩)) (.int .i64 i)) c f) kx kr kp lb kl ea:=
 dx _ (λc _=>vm a n d ⟨rfl,j.refl _⟩ e g) h
def mz{t b:cQ}{d:Array Bool}(h:kx (.int .i64 i))(e:ty b=some ⟨3,1,o,0⟩:=by rfl)(g:gJ E:=by first|exact dC|exact im _):xv E E w (λc f=>y8 V.prog (builtin .len #[b] t d #[.slice a i j]) c f) kx kr kp lb kl ea:=
 Xt _ (λc _=>dm ⟨rfl,g.refl _⟩ e) h
end
def l5(n a b:Int):Bool:=decide (a<=n)&&decide (n<=b)
def fT(n a b:Int)(w:cI):Calls V.prog 106 #[.int .i64 n,.int .i64 a,.int .i64 b] w (fM λv c=>v=.bool (l5 n a b)/\c=w):=by refine jb Tryz.func106 Tryz.ntmps106 ?_;refine sv ⟨λh=>sv ⟨_,rfl,?_,rfl⟩,λh=>⟨_,rfl,?_,rfl⟩⟩<;>simp[l5,h]
def wZ(l:cM)(k:Nat):Nat:=if k=0 then 0 else l.getD (k-1) 0+1
def vp(W:Nat->Nat->Int)(l:cM):Nat->Int
 |0=>0
 |k+1=>vp W l k+W (wZ l k) (l.getD k 0+1)
def pN(W:Nat->Nat->Int)(l:cM):Int:=vp W l l.length+W (wZ l l.length) 0
def Ps(h:∀d∈l,d<5)(k:Nat)(b:k<=l.length):wZ l k<6:=by unfold wZ;split;omega;have a:k-1<l.length:=cL;have:=h _ (eB a);rw[gD,eZ a];simp only[kG];omega
theorem zx{W:Nat->Nat->Int}(a:∀i j,0<=W i j/\W i j<=1000)(l:cM):∀k,0<=vp W l k/\vp W l k<=1000*k
 |0=>by simp[vp]
 |k+1=>by have b:=zx a l k;have c:=a (wZ l k) (l.getD k 0+1);simp only[vp];omega
def rK{W:Nat->Nat->Int}(a:∀i j,0<=W i j/\W i j<=1000)(l:cM):0<=pN W l/\pN W l<=1000*l.length+1000:=by have b:=zx a l l.length;have c:=a (wZ l l.length) 0;unfold pN;omega
def xy(W:Nat->Nat->Int)(a:Int)(l:cM):Int:=pN W l+(l.length:Int)*a
theorem getD_eq{a:Type}{l:List a}{d:a}(h:k<l.length):l.getD k d=l[k]:=by rw[gD,eZ h];rfl
def AF(m:Nat)(W:Nat->Nat->Int)(l:cM)(p:dV)(s:Nat)(w:cI)(a:∀i j,i<6->j<6->w.cell? ⟨m,7+i*6+j,none⟩=some (.int .i64 (W i j)))(q:∀i j,0<=W i j/\W i j<=1000) (r:∀d∈l,d<5)(t:l.length<=100000)(f:∀k (h:k<l.length),∃b o,p=some ⟨b,o,none⟩/\w.cell? ⟨b,o+k,none⟩=some (.int .i64 l[k])):
 Calls V.prog 161 #[.pointer (some ⟨m,0,none⟩),.slice p l.length s] w (fM λv e=>v=.int .i64 (pN W l)/\e=w):=by
 have u:=zx q l;refine jb Tryz.func161 Tryz.ntmps161 ?_;refine dm (ft (n:=l.length) (λk=>[(0,dR m),(9,.slice p l.length s),(10,i64 l.length),(11,i64 k),(5,i64 (vp W l k)),(6,i64 (wZ l k))]) (λ_ e=>e=w) ?_ ?_ ?_ ?_);exact⟨by trivial,rfl⟩;rintro k e g rfl;exact dK ⟨rfl,rfl,by trivial,rfl⟩;rintro k e g rfl;obtain⟨b,o,rfl,y⟩:=f k g;have B:=r _ (eB g);have c:=Ps r k cL;have z:=u k;have A:=q (wZ l k) (l[k]+1);refine eX k g (cO y (cW (zw (wZ l k) 6 6 c (vm (l[k]+1) 6 cL (cO (a _ (l[k]+1) c cL) (cW (cW (cW ?_))))))));have x:l.getD k 0=l[k]:=getD_eq g;refine⟨⟨rfl,rfl,rfl,rfl,?_,?_,trivial⟩,rfl⟩;show _=some (Value.int .i64 (vp W l k+W (wZ l k) (l.getD k 0+1)));rw[x];rfl;show _=some (Value.int .i64 ((l.getD k 0+1:Nat):Int));rw[x];rfl;rintro e rfl;have c:=Ps r l.length (dg _);have z:=u l.length;have A:=q (wZ l l.length) 0;exact zw (wZ l l.length) 6 6 c (vm 0 6 cL (cO (a _ 0 c cL) (cW ⟨_,rfl,rfl,rfl⟩)))
def Mw(m:Nat)(W:Nat->Nat->Int)(n:Int)(l:cM)(p:dV)(r:Nat)(w:cI)(q:w.cell? ⟨m,2,none⟩=some (.int .i64 n))(a:∀i j,i<6->j<6->w.cell? ⟨m,7+i*6+j,none⟩=some (.int .i64 (W i j)))(s:∀i j,0<=W i j/\W i j<=1000) (y:∀d∈l,d<5)(c:l.length<=100000)(f:∀k (h:k<l.length),∃b o,p=some ⟨b,o,none⟩/\w.cell? ⟨b,o+k,none⟩=some (.int .i64 l[k]))(g:0<=n/\n<=1000):
 Calls V.prog 114 #[.pointer (some ⟨m,0,none⟩),.slice p l.length r] w (fM λv z=>v=.int .i64 (xy W n l)/\Ext w z):=by
 have t:=rK s l;have u:=Int.mul_le_mul_of_nonneg_left g.2 (Int.natCast_nonneg l.length);have C:=zK (Int.natCast_nonneg l.length) g.1;refine jb Tryz.func114 Tryz.ntmps114 ?_;refine dD dC ?_;refine iW dC _ (λx e=>AF m W l p r x (λi j A B=>e.cell (a i j A B)) s y c λk h=>by have⟨b,o,t,u⟩:=f k h;exact⟨b,o,t,e.cell u⟩) (mz (dl q (Je (vn λx e=>⟨_,rfl,rfl,e⟩))))
def mZ(a b:Int):Int:=max (a-b) (b-a)
def KY(a b:Int)(w:cI)(d:0<=a/\a<=1000000)(e:0<=b/\b<=1000000):Calls V.prog 178 #[.int .i64 a,.int .i64 b] w (fM λv c=>v=.int .i64 (mZ a b)/\c=w):=by refine jb Tryz.func178 Tryz.ntmps178 ?_;exact gC (gC (rI ⟨_,rfl,rfl,rfl⟩))
def Jf(b:Nat)(n T:Int)(w:cI)(a:w.cell? ⟨b,5,none⟩=some (.int .i64 T)):Calls V.prog 179 #[.int .i64 n,.pointer (some ⟨b,0,none⟩)] w (fM λv c=>v=.bool (decide (T<=n))/\c=w):=by refine jb Tryz.func179 Tryz.ntmps179 ?_;exact cO a (wo ⟨_,rfl,rfl,rfl⟩)
def Jg(b:Nat)(m n T:Int)(w:cI)(c:w.cell? ⟨b,5,none⟩=some (.int .i64 T)):Calls V.prog 180 #[.int .i64 m,.int .i64 n,.pointer (some ⟨b,0,none⟩)] w (fM λv d=>v=.bool (decide (T<2)||(decide (0<m)&&decide (0<n)))/\d=w):=by refine jb Tryz.func180 Tryz.ntmps180 ?_;refine cO c (dK ⟨λh=>?_,λh=>?_⟩);exact⟨_,rfl,by simp[h],rfl⟩;refine mP ⟨λa=>mP ⟨_,rfl,by simp[h,a],rfl⟩,λa=>⟨_,rfl,by simp[h,a],rfl⟩⟩
def Pt(a:Nat)(D:Int)(w:cI)(b:w.cell? ⟨a,4,none⟩=some (.int .i64 D))(d:0<=D/\D<=1000):Calls V.prog 107 #[.pointer (some ⟨a,0,none⟩)] w (fM λv c=>v=.int .i64 (2*D-1)/\c=w):=by refine jb Tryz.func107 Tryz.ntmps107 ?_;exact cO b (oT (gC ⟨_,rfl,rfl,rfl⟩))
def kD(w:cI)(a:dV)(l:eY):Prop:=∀k (h:k<l.length),∃b o,a=some ⟨b,o,none⟩/\w.cell? ⟨b,o+k,none⟩=some (.int .i64 l[k])
def kD.ext{l:eY}(h:kD w a l)(e:Ext w t):kD t a l:=λk c=>by have⟨b,o,d,f⟩:=h k c;exact⟨b,o,d,e.cell f⟩
theorem kD.take{l:eY}(h:kD w a l)(i:Nat):kD w a (l.take i):=λk d=>by
 have c:k<l.length:=by simp at d;omega
 have⟨b,o,e,f⟩:=h k c;exact⟨b,o,e,by rw[f];simp⟩
def sE(x:Int):eY->Nat->Int
 |[],_=> -1
 |y::r,i=>if x=y then i else sE x r (i+1)
def CJ(x:Int)(l:eY)(k:Nat)(a:k<l.length):sE x (l.drop k) k=if x=l[k]then(k:Int)else sE x (l.drop (k+1)) (k+1):=by rw[pz a];rfl
def Mx(l:eY)(x:Int)(e:dV)(f:Nat)(w:cI)(i:kD w e l)(g:l.length<=100000):Calls V.prog 176 #[.slice e l.length f,.int .i64 x] w (fM λv c=>v=.int .i64 (sE x l 0)/\c=w):=by refine jb Tryz.func176 Tryz.ntmps176 ?_;refine dm (ft (n:=l.length) (λk=>[(0,.slice e l.length f),(1,i64 x),(7,i64 l.length),(8,i64 k)]) (λk c=>c=w/\sE x l 0=sE x (l.drop k) k) ⟨by trivial,rfl,rfl⟩ ?_ ?_ ?_);rintro k c d ⟨rfl,a⟩;exact dK ⟨rfl,rfl,by trivial,rfl,a⟩;rintro k c d ⟨rfl,a⟩;obtain⟨b,o,rfl,j⟩:=i k d;rw[CJ x l k d]at a;refine eX k d (cO j (fc ⟨λh=>?_,λh=>?_⟩));have h:x=l[k]:=eV h;exact⟨_,rfl,by rw[a,cT h];rfl,rfl⟩;have h:¬x=l[k]:=eV h;rw[cR h]at a;exact cW ⟨by trivial,rfl,a⟩;rintro c ⟨rfl,a⟩;exact⟨_,rfl,by rw[a];simp[sE],rfl⟩
structure Dr where
 st:Int
 at_:Int
 talk:Int
structure Gd where
 streets:Int
 corner:Int
 knock:Int
 minutes:Int
 days:Int
 tries:Int
 doors:List Dr
def dL(d:Dr):dN:=[.int .i64 d.st,.int .i64 d.at_,.int .i64 d.talk]
def gX(w:cI)(a:dV)(l:List Dr):Prop:=∀k (h:k<l.length),∃b o,a=some ⟨b,o,none⟩/\w.cell? ⟨b,o+k*3,none⟩=some (.int .i64 l[k].st)/\w.cell? ⟨b,o+k*3+1,none⟩=some (.int .i64 l[k].at_)/\w.cell? ⟨b,o+k*3+2,none⟩=some (.int .i64 l[k].talk)
def gX.ext{l:List Dr}(h:gX w a l)(e:Ext w t):gX t a l:=λk c=>by have⟨b,o,d,f,g,i⟩:=h k c;exact⟨b,o,d,e.cell f,e.cell g,e.cell i⟩
def gL(G:Gd)(a:dV)(b:Nat):dN:=[.int .i64 G.streets,.int .i64 G.corner,.int .i64 G.knock,.int .i64 G.minutes,.int .i64 G.days,.int .i64 G.tries,.slice a G.doors.length b]
def gV(G:Gd)(a:dV)(b:Nat):cJ:=.agg (gL G a b).toArray
def kZ(G:Gd):Bool:=l5 G.streets 1 3&&(l5 G.corner 1 9&&(l5 G.knock 1 5&&(l5 G.minutes 1 90&&(l5 G.days 1 3&&l5 G.tries 1 G.days))))
def oU(n:Int)(d:Dr):Int:=if l5 d.st 0 (n-1)then(if l5 d.at_ 0 20&&l5 d.talk 1 9 then 0 else 1)else 3
def nd(n:Int):List Dr->Int
 |[]=>0
 |d::r=>if oU n d=0 then nd n r else oU n d
def em(G:Gd):Int:=if kZ G then(if(5:Int)<G.doors.length then 6 else nd G.streets G.doors)else 1
def yq(n:Int)(l:List Dr)(k:Nat)(a:k<l.length):nd n (l.drop k)=if oU n l[k]=0 then nd n (l.drop (k+1))else oU n l[k]:=by rw[pz a];rfl
def My(G:Gd)(t:dV)(D:Nat)(w:cI)(H:gX w t G.doors)(E:G.doors.length<=100000):Calls V.prog 146 #[gV G t D] w (fM λv m=>v=.int .i64 (em G)/\Ext w m):=by
 refine jb Tryz.func146 Tryz.ntmps146 ?_;refine eH λu I f J c=>?_;have a:∀{b:Bool},kZ G=false->∃v,Ending.returned (one [Value.int .i64 1])=.returned v/\v=Value.int .i64 (em G)/\Ext w u:=λh=>⟨_,rfl,by simp[em,h],f⟩;refine cO (cN c rfl) (dH (fT _ _ _ _) (eC ⟨λh=>jX h (a (b:=true) (by simp at h;simp[kZ,h])),λg=>?_⟩));refine cO (cN c rfl) (dH (fT _ _ _ _) (eC ⟨λh=>jX h (a (b:=true) (by simp at h;simp[kZ,h])),λq=>?_⟩));refine cO (cN c rfl) (dH (fT _ _ _ _) (eC ⟨λh=>jX h (a (b:=true) (by simp at h;simp[kZ,h])),λr=>?_⟩));refine cO (cN c rfl) (dH (fT _ _ _ _) (eC ⟨λh=>jX h (a (b:=true) (by simp at h;simp[kZ,h])),λK=>?_⟩));refine cO (cN c rfl) (dH (fT _ _ _ _) (eC ⟨λh=>jX h (a (b:=true) (by simp at h;simp[kZ,h])),λL=>?_⟩));refine cO (cN c rfl) (cO (cN c rfl) (dH (fT _ _ _ _) (eC ⟨λh=>(a (b:=true) (by simp at h;simp[kZ,h])),λM=>?_⟩)));have S: -1000000<=G.streets/\G.streets<=1000000:=by simp[l5]at g;omega
 have F:kZ G=true:=by simp at g q r K L M;simp[kZ, *]
 refine cO (cN c rfl) (dm (mP ⟨λh=>⟨_,rfl,by simp at h;simp[em,F,h],f⟩,λx=>?_⟩));have x:¬(5:Int)<G.doors.iN:=eV x;have y:em G=nd G.streets G.doors:=by simp[em,F,x]
 refine cO (cN c rfl) (dm (ft (n:=G.doors.iN) (λk=>[(1,dR I),(38,.slice t G.doors.iN D),(39,i64 G.doors.iN),(40,i64 k)]) (λk m=>Ext u m/\em G=nd G.streets (G.doors.drop k)) ⟨by trivial,Ext.refl _,by rw[y];rfl⟩ ?_ ?_ ?_));rintro k m s ⟨e,d⟩;exact dK ⟨rfl,rfl,by trivial,e,d⟩;rintro k m s ⟨e,d⟩;obtain⟨b,o,rfl,N,z,O⟩:=(H.ext (f.trans e)) k s;rw[yq _ _ k s]at d;refine fE k 3 s (ew (vs:=dL G.doors[k]) (λj v i=>?_) (eS λT U P A B=>dI B λQ R l=>?_));match j,i with
 |0,i=>cases i;exact N
 |1,i=>cases i;exact z
 |2,i=>cases i;exact O
 have p:Ext u Q:=(e.trans P).cS R (dw e.size A);have C:=p.at_ c;refine cO (cN l rfl) (cO (cN C rfl) (gC (dH (fT _ _ _ _) (eC ⟨λh=>?_,λg=>?_⟩))));exact⟨_,rfl,by simp at h;rw[d];simp[oU,h],f.trans p⟩;simp at g;refine cO (cN l rfl) (dH (fT _ _ _ _) (eC ⟨λh=>jX h ?_,λq=>?_⟩));exact⟨_,rfl,by simp at h;rw[d];simp[oU,g,h],f.trans p⟩;simp at q;refine cO (cN l rfl) (dH (fT _ _ _ _) (eC ⟨λh=>?_,λr=>?_⟩));exact⟨_,rfl,by simp at h;rw[d];simp[oU,g,h],f.trans p⟩;simp at r;exact cW ⟨by trivial,p,by rw[d];simp[oU,g,q,r]⟩;rintro m ⟨e,d⟩;exact⟨_,rfl,by rw[d];simp[nd],f.trans e⟩
section
variable{w:cI}{k:cJ->cI->Prop}
def Uu(h:∀a b,Ext w a->w.heap.size<=b->a.heap[b]? =some (.map #[] 0)->k (.map (some b)) a):jL V.prog (Instr.makeMap T none) w k:=
 ⟨_,_,run_makeMap T w,h _ w.lH (Ext.alloc _ _) (dg _) (fX _ _)⟩
def ez{s:Sem cJ}(v:cJ)(h:k v w)(a:∀w,Sem.run V.prog s w=.ok v w:=by intro _;kernel_rfl):jL V.prog s w k:=⟨v,w,a w,h⟩
def er{a:Array (Nat×cJ)}(d:dN)(e:cQ)(h:∀b c,Ext w b->w.heap.size<=c->b.heap[c]? =some (.cells d.toArray e)->k (.slice (some ⟨c,0,none⟩) m m) b)
 (f:∀w,Sem.run V.prog (Instr.buildSlice T m a) w=.ok (.slice (some ⟨w.heap.size,0,none⟩) m m) (w.alloc (.cells d.toArray e)):=by intro _;kernel_rfl):jL V.prog (Instr.buildSlice T m a) w k:=
 ⟨_,_,f w,h _ w.lH (Ext.alloc _ _) (dg _) (fX _ _)⟩
def Ij(b e:cQ)(a:dN):Prop:=V.prog.underlying b=some (.slice e)/\∃i z,V.prog.info? e=some i/\i.zero=some z/\z.cells=a.toArray/\i.size=a.length/\i.bytes<=256/\0<a.length
def SJ:Ij 22 81 [.int .i64 0,.int .i64 0,.int .i64 0]:=⟨eE,Tryz.t81,_,eE,rfl,eE,eE,by decide+kernel,kA⟩
def n8:Ij 27 3 [.int .i64 0]:=⟨eE,Tryz.t3,_,eE,rfl,eE,eE,by decide+kernel,kA⟩
def Jh:Ij 66 27 [.slice none 0 0]:=⟨eE,Tryz.t27,_,eE,rfl,eE,eE,by decide+kernel,kA⟩
def Ej{e:cQ}{l:dN}{q:Array Bool}(r:Ij T e l){v:cJ}{o:dN}(s:cZ i e l w v j o)(n:i<=w.heap.size){m c:Nat}{news:dN}(t:news.length=m*l.length)(x:0<m) (a:∀p u,news[p]? =some u->w.cell? (h.add p)=some u)(y:∀u∈news,u.oneCell'=true)(g:j+m<=1000000) (A:∀d f,cZ i e l f d (j+m) (o++news)->dA (cV v) w f->(∀b,cV d b->cV v b\/w.heap.size<=b)->k d f):y8 V.prog (builtin .append #[T,T] U q #[v,.slice (some h) m c]) w k:=by have⟨B,M,z,C,D,E,F,G,H⟩:=r;have⟨d,f,I,J,K,L⟩:=I7 (ty:=U) B C D E F G H s n (c:=c) t x a y g;refine⟨d,f,?_,A d f J K L⟩;unfold builtin;simp only[Sem.run_bind,I,Result.andThen_ok,Sem.run_pure]
def gR{e:cQ}{c:dN}{n:Array Bool}(p:Ij T e c){v:cJ}{l:dN}(h:cZ m e c w v i l)(d:m<=w.heap.size){a:dN}{q:cQ}(r:w.heap[j]? =some (.cells a.toArray q))(b:i+1<=1000000)
 (s:∀f g,cZ m e c g f (i+1) (l++a)->dA (cV v) w g->(∀j,cV f j->cV v j\/w.heap.size<=j)->k f g)(t:Nat.beq a.length c.length=true:=by rfl)(x:sD a=true:=by rfl):y8 V.prog (builtin .append #[T,T] U n #[v,.slice (some ⟨j,0,none⟩) 1 o]) w k:=
 Ej p h d (by rw[Nat.one_mul];exact nS t) cL (λz u y=>by rw[iq,dj];exact cN r (eV y)) (gK x) b s
def wq{e:cQ}{f:dN}{g:Array Bool}(l:Ij T e f){b:dV}(n:m<=i)(h:k (.slice a m i) w):y8 V.prog (builtin .append #[T,T] U g #[.slice a m i,.slice b 0 j]) w k:=by
 have⟨c,o,z,d,r,s,t,u,v⟩:=l;refine⟨_,w,?_,h⟩;rw[V.uP]at c;rw[V.Kh]at d;have p:Sem.run jS (sizeOf e) w=.ok o.size w:=Jc d w;have q:Sem.run jS (Builtin.append_ #[T,T] U #[.slice a m i,.slice b 0 j]) w=.ok (.slice a m i) w:=by unfold Builtin.append_;simp only[Fs,Kc,T5,Sem.run_bind,iz c,Result.andThen_ok,p,Sem.run_pure];simp only[iH,fj,Builtin.lenOf,Sem.run_pure,Result.andThen_ok,pC,n,ej,Bool.not_false];cases b<;>cases a<;>simp[Builtin.firstCells,loadCells,loadCellsFrom,storeCells,Sem.run_bind,Sem.run_pure]<;>(intro h;omega)
 unfold builtin;simp only[Sem.run_bind,q,Result.andThen_ok,Sem.run_pure]
end
end Go.Proofs.W
variable{H N:Go.Proofs.W.Gd}
namespace Go.Proofs.W
open Go.RowKit
def eA(G:Gd):List Dr:=⟨0,0,0⟩::G.doors
def xz(c:Int)(a b:Dr):Int:=if a.st=b.st then mZ a.at_ b.at_ else a.at_+b.at_+c*mZ a.st b.st
def lz(G:Gd)(i j:Nat):Int:=match(eA G)[i]?,(eA G)[j]? with
 |some a,some b=>xz G.corner a b
 |_,_=>0
def Uv(f a:Nat):cJ:=.func (.func f) #[] #[.pointer (some ⟨a,0,none⟩)]
def GU(G:Gd)(a:dV)(dc mk ms:Nat)(b c:cJ)(f:Nat->Nat->Int)(j:Nat):cJ:=
 if j<7 then(gL G a dc).getD j undef else if j<43 then .int .i64 (f ((j-7)/6) ((j-7)%6))else if j=43 then .map (some mk)else if j=44 then .map (some ms)else if j=45 then b else c
structure oV(gp:Nat)(C:Nat->cJ)(w:cI):Prop where
 out:∃cs,w.heap[gp]? =some (.cells cs 186)/\cs.size=47/\∀j,j<47->cs[j]? =some (C j)
def oV.cell{C:Nat->cJ}(h:oV m C w)(j:Nat)(a:j<47:=by omega):w.cell? ⟨m,j,none⟩=some (C j):=by have⟨d,b,e,c⟩:=h.out;exact cN b (c j a)
def oV.ext{C:Nat->cJ}(h:oV m C w)(e:Ext w t):oV m C t:=by have⟨a,b,c,d⟩:=h.out;exact⟨a,e.at_ b,c,d⟩
def oV.mono{C a:Nat->cJ}(h:oV m C w)(e:∀j,j<47->C j=a j):oV m a w:=by have⟨c,d,f,g⟩:=h.out;exact⟨c,d,f,λj b=>by rw[g j b,e j b]⟩
theorem oW:∀(b:dN) (a:eF) (o j:Nat),o+b.length<=a.size->(ir a o b)[j]? =if o<=j/\j<o+b.length then b[j-o]? else a[j]?
 |[],a,o,j,_=>by simp[ir];omega
 |v::r,a,o,j,h=>by simp only[fi]at h;have e:=oW r (a.setIfInBounds o v) (o+1) j pY;simp only[ir,e,fi];by_cases c:o+1<=j/\j<o+1+r.length;rw[cT c,cT cL];rw[show j-o=(j-(o+1))+1 by omega];simp;rw[cR c];by_cases d:o=j;subst d;rw[cT cL,oz cL];simp;rw[cR cL,fZ d]
theorem pO:∀(b:dN) (a:eF) (o:Nat),(ir a o b).size=a.size
 |[],_,_=>rfl
 |v::r,a,o=>by rw[ir,pO r];simp
def Pu{C:Nat->cJ}(h:oV m C w)(p:o+x.cells.size<=47)(b:∀a,dA (λc=>c=m) w a->oV m (λj=>if o<=j/\j<o+x.cells.size then x.cells.toList.getD (j-o) undef else C j) a->S a)
 (d:sD x.cells.toList=true:=by rfl)(e:Pq T=some x.cells.size:=by rfl):Ed V.prog (Instr.storeAt T (.pointer (some ⟨m,o,none⟩)) x) w S:=by
 have⟨q,f,g,i⟩:=h.out;refine jp f cL (λa k l=>b a k ⟨_,l,by rw[pO];exact g,λj n=>?_⟩) (gK d) e;rw[oW _ _ _ _ pY];simp only[Array.length_toList];split;rename_i r;have:j-o<x.cells.toList.iN:=pY;rw[gD,eZ this];rfl;exact i j n
structure qE(gp mk ms:Nat)(G:Gd)(w:cI):Prop where
 at_:∃da dc gb,oV gp (GU G da dc mk ms (Uv 179 gb) (Uv 180 gb) (lz G)) w/\gX w da G.doors/\w.cell? ⟨gb,5,none⟩=some (.int .i64 G.tries)
 ok:em G=0
 mlt:mk<w.heap.size
 slt:ms<w.heap.size
 ne:mk≠ms
 gk:gp≠mk/\gp≠ms
theorem qE.ext{gp mk ms:Nat}(h:qE gp mk ms H w)(e:Ext w t):qE gp mk ms H t:=by have⟨a,b,c,d,f,g⟩:=h.at_;exact⟨⟨a,b,c,d.ext e,f.ext e,e.cell g⟩,h.ok,ep h.mlt e.size,ep h.slt e.size,h.ne,h.gk⟩
structure Gd.Ok(G:Gd):Prop where
 streets:1<=G.streets/\G.streets<=3
 corner:1<=G.corner/\G.corner<=9
 knock:1<=G.knock/\G.knock<=5
 minutes:1<=G.minutes/\G.minutes<=90
 days:1<=G.days/\G.days<=3
 tries:1<=G.tries/\G.tries<=G.days
 many:G.doors.length<=5
 door:∀d∈G.doors,(0<=d.st/\d.st<=2)/\(0<=d.at_/\d.at_<=20)/\1<=d.talk/\d.talk<=9
theorem CK(c:I<=3):∀{l:List Dr},nd I l=0->∀d∈l,(0<=d.st/\d.st<=2)/\(0<=d.at_/\d.at_<=20)/\1<=d.talk/\d.talk<=9
 |x::r,h,d,b=>by simp only[nd]at h;split at h;rename_i a;obtain rfl|b:=eW.1 b;simp only[oU]at a;split at a;split at a;rename_i e f;simp[l5]at e f;omega;omega;omega;exact CK c h d b;rename_i a;exact absurd h a
def eD(h:em H=0):H.Ok:=by simp only[em]at h;split at h;rename_i a;split at h;omega;rename_i b;simp[kZ,l5]at a;refine⟨cL,cL,cL,cL,cL,cL,cL,CK cL h⟩;omega
def n9(h:H.Ok)(i j:Nat):0<=lz H i j/\lz H i j<=1000:=by
 have f:∀d∈eA H,(0<=d.st/\d.st<=2)/\(0<=d.at_/\d.at_<=20):=λd c=>by obtain rfl|c:=eW.1 c;simp;exact⟨(h.door d c).1,(h.door d c).2.1⟩
 unfold lz;split;rename_i a b g k;have m:=f a (pA g);have n:=f b (pA k);have l:=h.corner;unfold xz;split;unfold mZ;omega;have e:0<=mZ a.st b.st/\mZ a.st b.st<=2:=by unfold mZ;omega
 have:=Int.mul_le_mul l.2 e.2 e.1 cL;have:=zK (show 0<=H.corner by omega) e.1;omega;omega
def qS(G:Gd)(i k a b:Nat):Int:=if a<i\/(a=i/\b<k)then lz G a b else 0
theorem GV(G:Gd)(h:(eA G).length<=m\/(eA G).length<=k):lz G m k=0:=by grind [List.getElem?_eq_none,lz]
def SK(G:Gd)(a:m<(eA G).length)(b:k<(eA G).length):lz G m k=xz G.corner (eA G)[m] (eA G)[k]:=by unfold lz;grind
def Pw(G:Gd)(a:dV)(dc mk ms:Nat)(b c:cJ)(i k:Nat)(d:i<6)(e:k<6)(n:Int)(f:n=lz G i k)(j:Nat)(g:j<47):
 (if 7+i*6+k<=j/\j<7+i*6+k+1 then([Value.int .i64 n]:dN).getD (j-(7+i*6+k)) undef else GU G a dc mk ms b c (qS G i k) j)=GU G a dc mk ms b c (qS G i (k+1)) j:=by
 split;rename_i h;obtain rfl:j=7+i*6+k:=cL;simp only[lK,List.getD_cons_zero,GU];rw[cR cL,cT cL];grind [qS];rename_i h;simp only[GU];grind [qS]
def SL{ds:List Dr}(h:cZ m 81 [.int .i64 0,.int .i64 0,.int .i64 0] w x k (ds.flatMap dL))(l:k=ds.length):∃a c,x=.slice a k c/\gX w a ds/\∀b o,a=some ⟨b,o,none⟩->m<=b:=by
 subst l;have g:∀(ds:List Dr) (e:Nat) (f:e<ds.length),(ds.flatMap dL)[e*3]? =some (i64 ds[e].st)/\(ds.flatMap dL)[e*3+1]? =some (i64 ds[e].at_)/\(ds.flatMap dL)[e*3+2]? =some (i64 ds[e].talk):=by
  intro ds;induction ds with
  |nil=>grind
  |cons d r n=>
   intro e f;cases e with
   |zero=>simp[dL]
   |succ e=>
    grind [dL]
 obtain⟨p,⟨q,rfl⟩|⟨b,c,s,t,rfl,i,u,v,y,z,A⟩⟩:=h;exact⟨none,0,cK,λe f=>cL,λ_ _ h=>cK⟩;refine⟨_,c,rfl,λe f=>⟨b,0,rfl,?_⟩,λ_ _ h=>cK⟩;have j:(ds.flatMap dL).length=ds.length*3:=cK;have⟨B,C,D⟩:=g ds e f;refine⟨cN i ?_,cN i ?_,cN i ?_⟩;grind;grind;grind
theorem wu:∀(a:List Dr) (k:Nat) (b:k<a.length),(a.flatMap dL)[k*3]? =some (.int .i64 a[k].st)/\(a.flatMap dL)[k*3+1]? =some (.int .i64 a[k].at_)/\(a.flatMap dL)[k*3+2]? =some (.int .i64 a[k].talk)
 |d::r,0,_=>by simp[dL]
 |d::r,k+1,b=>by have:=wu r k cK;grind [dL]
theorem AG:∀a:List Dr,(a.flatMap dL).length=a.length*3
 |[]=>rfl
 |d::r=>by have:=AG r;simp[dL,this];omega
def Ji{a:List Dr}(h:gX w (some ⟨m,o,none⟩) a)(j:Nat)(u:cJ)(f:(a.flatMap dL)[j]? =some u):w.cell? ⟨m,o+j,none⟩=some u:=by
 have g:j<a.iN*3:=by rw[<-AG];grind
 have b:j/3<a.iN:=cL;have⟨c,d,e,i,k,l⟩:=h (j/3) b;obtain⟨rfl,rfl⟩:m=c/\o=d:=cK;have⟨n,p,q⟩:=wu a (j/3) b;have r:j%3=0\/j%3=1\/j%3=2:=cL;grind
def SM{s:nB}{z:Array Bool}{f e:List Dr}(h:cZ m 81 [.int .i64 0,.int .i64 0,.int .i64 0] w x k (f.flatMap dL))(q:m<=w.heap.size)(t:gX w a e)(g:k+e.length<=1000000) (v:∀n l,cZ m 81 [.int .i64 0,.int .i64 0,.int .i64 0] l n (k+e.length) ((f++e).flatMap dL)->dA (cV x) w l->s n l):y8 V.prog (builtin .append #[22,22] T z #[x,.slice a e.length i]) w s:=by
 obtain _|⟨d,r⟩:=e;have A:∃y c,x=.slice y k c/\k<=c:=by obtain⟨_,⟨rfl,rfl⟩|⟨b,c,E,_,rfl,_,_,F,_⟩⟩:=h;grind;grind
 obtain⟨y,c,rfl,B⟩:=A;exact wq SJ B (v _ _ cK (dA.refl _ w));obtain⟨b,o,rfl,_⟩:=t 0 dt;refine Ej SJ h q (news:=(d::r).flatMap dL) (AG _) dt (λj u C=>by rw[iq];exact Ji t j u C) (λu p=>?_) g λn l G D _=>v n l cK D;have⟨H,_,p⟩:=lq.1 p;simp[dL]at p;obtain rfl|rfl|rfl:=p<;>rfl
def gX.keep{c:List Dr}(h:gX w a c)(k:dA A w t)(d:∀b o,a=some ⟨b,o,none⟩->¬A b):gX t a c:=λi e=>by obtain⟨b,o,rfl,f,g,j⟩:=h i e;have:=d b o rfl;exact⟨b,o,rfl,k.fq f this,k.fq g this,k.fq j this⟩
def oV.keep{C:Nat->cJ}(h:oV m C w)(k:dA A w t)(a:¬A m):oV m C t:=by have⟨b,c,d,e⟩:=h.out;exact⟨b,k.fL c a,d,e⟩
def GW(h:H.Ok)(d:Dr)(a:d∈eA H):(0<=d.st/\d.st<=2)/\(0<=d.at_/\d.at_<=20):=by obtain rfl|a:=eW.1 a;simp;exact⟨(h.door d a).1,(h.door d a).2.1⟩
def Px(h:dA (cV (.slice (some ⟨m,o,none⟩) k i)) w t):dA (λx=>x=m) w t:=
 ⟨h.os,h.tape,h.output,h.size,h.drawn,λx a b=>h.block x a λ⟨c,d,e⟩=>b cK⟩
def Xu(G:Gd)(a:dV)(dc mk ms:Nat):dN:=gL G a dc++(List.replicate 36 (Value.int .i64 0)++[Value.map (some mk),Value.map (some ms),Value.nilFunc,Value.nilFunc])
def Mz(G:Gd)(g:dV)(m:Nat)(w:cI)(hd:gX w g G.doors)(S:G.doors.length<=100000):
 Calls V.prog 144 #[gV G g m] w (fM λv t=>Ext w t/\((em G≠0/\v=.tuple #[.pointer none,.int .i64 (em G)])\/(em G=0/\∃c mk l,v=.tuple #[.pointer (some ⟨c,0,none⟩),.int .i64 0]/\qE c mk l G t/\
  w.heap.size<=c/\w.heap.size<=mk/\w.heap.size<=l/\t.heap[mk]? =some (.map #[] 0)/\t.heap[l]? =some (.map #[] 0)))):=by
 refine jb Tryz.func144 Tryz.ntmps144 ?_;refine eH λT D U aG hb=>?_;refine ew (vs:=gL G g m) (λj v d=>by rw[dj];grind [cN,gV,Value.cells]) ?_;refine ek (My G g m T (hd.ext U) S) λw2 W=>gQ ⟨λh=>⟨_,rfl,U.trans W,.inl ⟨cK,rfl⟩⟩,λh=>?_⟩;have L:em G=0:=cK;have ok:=eD L;have E:=W.at_ hb;refine ew (vs:=gL G g m) (λj v d=>by rw[dj];grind [cN,gV,Value.cells]) ?_;refine Uu λw3 mk M aH hm=>Uu λw4 l J aI X=>ez (.agg (Xu G g m mk l).toArray)<|eH λw5 c e5 al hg=>?_;have E5:Ext w w5:=(((U.trans W).trans M).trans J).trans e5;refine ez (.agg #[i64 0,i64 0,i64 0])<|er (dL ⟨0,0,0⟩) 81 λw6 pb e6 am hp=>?_;have an:gX w6 g G.doors:=hd.ext (E5.trans e6);refine cO (cN ((M.trans (J.trans (e5.trans e6))).at_ E) rfl) ?_;have ao:oV c (GU G g m mk l .nilFunc .nilFunc (qS G 0 0)) w5:=by
  refine⟨_,hg,by simp[Value.cells,Xu,gL],λj d=>?_⟩;show(Xu G g m mk l).toArray[j]? =_;have h0:∀a b,qS G 0 0 a b=0:=λa b=>by simp[qS]
  rw[Fs];unfold Xu GU;split;rename_i h7;rw[uJ (by simpa[gL]using h7),gD,eZ (by simpa[gL]using h7)];rfl;rename_i h7;rw[uK (by simp[gL];omega)];have hl:(gL G g m).length=7:=rfl;rw[hl];split;grind
  ·rename_i aJ;rw[uK cK,List.length_replicate];obtain rfl|rfl|rfl|rfl:j=43\/j=44\/j=45\/j=46:=cL;all_goals rfl
 have ap:cZ pb 81 [i64 0,i64 0,i64 0] w6 (fa pb 1 1) 1 (([⟨0,0,0⟩]:List Dr).flatMap dL):=
  ⟨rfl,.inr ⟨pb,1,_,dg _,rfl,hp,rfl,dg _,cK,λj d=>cK,λj h1 h2=>cK⟩⟩
 have aF:=dz.lt_of_heap hp;refine SM ap cL an cL λv w7 aq k7=>?_;have e7:Ext w5 w7:=e6.cS (Px k7) am;have Y:(eA G).length=1+G.doors.length:=by simp[eA];omega
 obtain⟨pa,Z,rfl,ar,aK⟩:=SL (ds:=eA G) aq Y.symm;rw[<-Y];have au:=ao.ext e7;have av:=(M.trans (J.trans (e5.trans e7))).at_ E;have h6:(eA G).length<=6:=iD ok.many;have lb:D<w2.heap.size:=dz.lt_of_heap E;have lm:mk<w3.heap.size:=dz.lt_of_heap hm;have ls:l<w4.heap.size:=dz.lt_of_heap X;have lg:c<w5.heap.size:=dz.lt_of_heap hg;have s3:=M.size;have s4:=J.size;have z:c≠mk/\c≠l/\D≠c/\mk≠l:=cL
 refine dm (ft (n:=(eA G).length) (λk=>[(1,dR D),(5,dR c),(6,.slice pa (eA G).length Z),(26,.slice pa (eA G).length Z),(27,i64 (eA G).length),(28,i64 k)])
  (λi t=>dA (λx=>x=c) w7 t/\oV c (GU G g m mk l .nilFunc .nilFunc (qS G i 0)) t) ⟨by trivial,dA.refl _ _,au⟩ ?_ ?_ ?_)
 rintro k t P ⟨k',Q⟩;exact dK ⟨rfl,rfl,by trivial,k',Q⟩;rintro i t Q ⟨R,N⟩;have aa:∀b o,pa=some (dq b o)->¬(b=c):=λb o h=>cK;have ac:gX t pa (eA G):=ar.keep R aa;have⟨b,o,ad,h1,h2,h3⟩:=ac i Q;subst ad;have aL:=GW ok _ (eB Q)
 refine fE i 3 Q (ew (vs:=dL (eA G)[i]) (λj u d=>by
  match j,d with
  |0,d=>cases d;grind
  |1,d=>cases d;grind
  |2,d=>cases d;grind) (eS λw8 ab e8 aw ax=>dI ax λw9 k9 ae=>?_))
 have kw:=R.size;have s7:=e7.size;have af:i<6:=cL;have ay:=(N.ext e8).keep k9 (show¬(c=ab) by omega);have aM:=dz.lt_of_heap ae;have e9:Ext t w9:=e8.cS k9 aw
 refine dm (ft (n:=(eA G).length) (λk=>[(1,dR D),(5,dR c),(6,Fu b o (eA G).length Z),(7,i64 i),(8,dR ab),(26,Fu b o (eA G).length Z),(27,i64 (eA G).length),(28,i64 i),
  (33,Fu b o (eA G).length Z),(34,i64 (eA G).length),(35,i64 k)]) (λk O=>dA (λx=>x=c) w9 O/\oV c (GU G g m mk l .nilFunc .nilFunc (qS G i k)) O) ⟨by trivial,dA.refl _ _,ay⟩ ?_ ?_ ?_)
 rintro k O P ⟨F,A⟩;exact dK ⟨rfl,rfl,by trivial,F,A⟩;rintro k O P ⟨F,A⟩;have aN:=GW ok _ (eB P);have ag:k<6:=cL;have az:gX O (pt b o) (eA G):=(ac.ext e9).keep F aa;have⟨b2,o2,ad,g1,g2,g3⟩:=az k P;obtain⟨rfl,rfl⟩:b=b2/\o=o2:=cK
 refine fE k 3 P (ew (vs:=dL (eA G)[k]) (λj u d=>by
  match j,d with
  |0,d=>cases d;grind
  |1,d=>cases d;grind
  |2,d=>cases d;grind) (eS λaO bb aA aB ah=>dI ah λH aC r=>?_))
 have I:Ext O H:=aA.cS aC aB;have sk:=F.size;have s:fC H ab (ir (pK 81).toArray 0 (dL (eA G)[i])) 81:=I.at_ (F.fL ae (show¬(ab=c) by omega));have K:=A.ext I;have ai:H.cell? (dq D 1)=some (i64 G.corner):=I.cell (F.fq (e9.cell (R.fq (cN av rfl) z.2.2.1)) z.2.2.1)
 have aj:∀p f,Ext H p->∀n:Int,n=lz G i k->dA (λx=>x=c) p f->oV c (λj=>if 7+i*6+k<=j/\j<7+i*6+k+1 then([Value.int .i64 n]:dN).getD (j-(7+i*6+k)) undef else GU G g m mk l .nilFunc .nilFunc (qS G i k) j) f->
  dA (λx=>x=c) w9 f/\oV c (GU G g m mk l .nilFunc .nilFunc (qS G i (k+1))) f:=λp f e n hn B hg=>by
  refine⟨(F.trans ((I.trans e).keep λx=>x=c) (λ_ _ h=>h) λ_ _ h=>h).trans B (λ_ _ h=>h) λ_ _ h=>h,hg.mono λj d=>Pw G g m mk l _ _ i k cL cL n hn j d⟩
 have aP:lz G i k=xz G.corner (eA G)[i] (eA G)[k]:=SK G Q P;refine cO (cN s rfl) (cO (cN r rfl) (fc ⟨λh=>?_,λh=>?_⟩));refine dD dC (dl (cN s rfl) (dl (cN r rfl) (iW dC _ (λT e=>KY _ _ T cL cL) (KX i 6 6 af (rJ k 6 ag λp e=>Pu (K.ext e) (by simp[Value.cells];omega) λf B C=>?_)))));have h:(eA G)[i].st=(eA G)[k].st:=fH h;exact cW ⟨by trivial,aj p f e _ (by grind [xz]) B C⟩;have h:¬(eA G)[i].st=(eA G)[k].st:=iP h;have hf:0<=mZ (eA G)[i].st (eA G)[k].st/\mZ (eA G)[i].st (eA G)[k].st<=2:=by unfold mZ;omega
 have hc:=ok.corner;have m1:=Int.mul_le_mul hc.2 hf.2 hf.1 dt;have m2:=zK (show 0<=G.corner by omega) hf.1
 refine dD dC (dl (cN s rfl) (dl (cN r rfl) (vn (dl ai (dl (cN s rfl) (dl (cN r rfl) (iW dC _ (λT e=>KY _ _ T cL cL) (Je (vn (KX i 6 6 af (rJ k 6 ag λp e=>
  Pu (K.ext e) (by simp[Value.cells];omega) λf B C=>?_)))))))))))
 exact cW ⟨by trivial,aj p f e _ (by grind [xz]) B C⟩;rintro O ⟨F,A⟩;refine cW ⟨by trivial,R.trans (((e9.keep λx=>x=c).trans F (λ_ _ h=>h) λ_ _ h=>h)) (λ_ _ h=>h) λ_ _ h=>h,A.mono λj d=>?_⟩;simp only[GU];split;rfl;split;congr 1;simp only[qS];generalize (j-7)/6=x;generalize hy:(j-7)%6=y;by_cases hx:x<i\/x=i/\y<(eA G).length;grind;rw[cR hx];grind [GV];rfl;rintro t ⟨R,N⟩;have ak:oV c (GU G g m mk l .nilFunc .nilFunc (lz G)) t:=N.mono λj d=>by grind [GV,GU,qS]
 refine ez (.agg #[Uv 179 D,Uv 180 D]) (Pu ak (qH rfl) λw8 k8 aD=>?_);have aE:dA (λx=>x=c) w7 w8:=R.trans k8 (λ_ _ h=>h) λ_ _ h=>h;have q:Ext w4 w8:=(e5.trans e7).cS aE al;refine⟨_,rfl,((U.trans W).trans (M.trans J)).trans q,.inr ⟨L,c,mk,l,rfl,⟨⟨g,m,D,aD.mono λj d=>?_,hd.ext (((U.trans W).trans (M.trans J)).trans q),?_⟩,L,?_,?_,z.2.2.2,z.1,z.2.1⟩,?_,?_,?_,?_,?_⟩⟩;show(if 45<=j/\j<45+2 then([Uv 179 D,Uv 180 D]:dN).getD (j-45) undef else _)=_;split
 ·obtain rfl|rfl:j=45\/j=46:=cL;all_goals simp[GU]
 grind [GU];exact(q.trans (Ext.refl _)).cell ((M.trans J).cell (cN E rfl));have:=q.size;omega;have:=q.size;omega;grind;grind;grind;exact q.at_ (J.at_ hm);exact q.at_ X
def fN(w:cI)(a:dV)(l:cM):Prop:=∀k (h:k<l.length),∃b o,a=some ⟨b,o,none⟩/\w.cell? ⟨b,o+k,none⟩=some (.int .i64 l[k])
def fN.ext{w c:cI}{a:dV}{l:cM}(h:fN w a l)(e:Ext w c):fN c a l:=λk d=>by have⟨b,o,f,g⟩:=h k d;exact⟨b,o,f,e.cell g⟩
def qo(l:cM):eY:=l.map λn:Nat=>(n:Int)
def fN.ints{w:cI}{a:dV}{l:cM}(h:fN w a l):kD w a (qo l):=λk d=>by
 have c:k<l.iN:=by simpa[qo]using d
 have⟨b,o,e,f⟩:=h k c;exact⟨b,o,e,by rw[f];simp[qo]⟩
section
variable{gp mk ms:Nat}{G:Gd}{w:cI}
def qE.vN(h:qE gp mk ms G w):G.Ok:=eD h.ok
def qE.ways(h:qE gp mk ms G w)(i j:Nat)(d:i<6)(e:j<6):w.cell? ⟨gp,7+i*6+j,none⟩=some (.int .i64 (lz G i j)):=by have⟨f,g,k,a,_⟩:=h.at_;rw[a.cell (7+i*6+j)];simp only[GU];rw[cR cL,cT cL];have b:(7+i*6+j-7)/6=i:=cL;have c:(7+i*6+j-7)%6=j:=cL;rw[b,c]
def qE.c2(h:qE gp mk ms G w):w.cell? ⟨gp,2,none⟩=some (.int .i64 G.knock):=by have⟨b,c,d,a,_⟩:=h.at_;exact a.cell 2
def qE.c3(h:qE gp mk ms G w):w.cell? ⟨gp,3,none⟩=some (.int .i64 G.minutes):=by have⟨b,c,d,a,_⟩:=h.at_;exact a.cell 3
def qE.c4(h:qE gp mk ms G w):w.cell? ⟨gp,4,none⟩=some (.int .i64 G.days):=by have⟨b,c,d,a,_⟩:=h.at_;exact a.cell 4
def qE.c5(h:qE gp mk ms G w):w.cell? ⟨gp,5,none⟩=some (.int .i64 G.tries):=by have⟨b,c,d,a,_⟩:=h.at_;exact a.cell 5
def qE.c6(h:qE gp mk ms G w):∃a b,w.cell? ⟨gp,6,none⟩=some (.slice a G.doors.length b)/\gX w a G.doors:=by have⟨a,b,e,c,d,_⟩:=h.at_;exact⟨a,b,c.cell 6,d⟩
def qE.YZ(h:qE gp mk ms G w):w.cell? ⟨gp,43,none⟩=some (.map (some mk)):=by have⟨b,c,d,a,_⟩:=h.at_;exact a.cell 43
def qE.Y0(h:qE gp mk ms G w):w.cell? ⟨gp,44,none⟩=some (.map (some ms)):=by have⟨b,c,d,a,_⟩:=h.at_;exact a.cell 44
def qE.fn(h:qE gp mk ms G w):∃a,w.cell? ⟨gp,45,none⟩=some (Uv 179 a)/\w.cell? ⟨gp,46,none⟩=some (Uv 180 a)/\w.cell? ⟨a,5,none⟩=some (.int .i64 G.tries):=by have⟨d,e,a,b,_,c⟩:=h.at_;exact⟨a,b.cell 45,b.cell 46,c⟩
def mJ(G:Gd)(l:cM):Int:=pN (lz G) l
def je(G:Gd)(l:cM):Int:=xy (lz G) G.knock l
def jP(G:Gd)(l:cM):Int:=(l.map λd=>((G.doors[d]?).map (·.talk)).getD 0).sum
def iA(G:Gd)(l:cM):Int:=je G l+jP G l
variable{l:List Nat}{la:Option Addr}{lc:Nat}
def MB(h:qE gp mk ms G w)(b:∀d∈l,d<G.doors.length)(a:l.length<=100000)(c:fN w la l):Calls V.prog 161 #[.pointer (some ⟨gp,0,none⟩),.slice la l.length lc] w (fM λv e=>v=.int .i64 (mJ G l)/\e=w):=by have:=h.vN.many;exact AF gp (lz G) l la lc w h.ways (n9 h.vN) (λd f=>iD (b d f)) a c
def GX(h:qE gp mk ms G w)(b:∀d∈l,d<G.doors.length)(a:l.length<=100000)(c:fN w la l):Calls V.prog 114 #[.pointer (some ⟨gp,0,none⟩),.slice la l.length lc] w (fM λv e=>v=.int .i64 (je G l)/\Ext w e):=by have:=h.vN.many;have:=h.vN.knock;exact Mw gp (lz G) G.knock l la lc w h.c2 h.ways (n9 h.vN) (λd f=>iD (b d f)) a c cL
def CL(a:G.Ok)(l:cM)(b:l.length<=100000):0<=je G l/\je G l<=1000000000:=by have d:=rK (n9 a) l;have c:=a.knock;have e:=Int.mul_le_mul_of_nonneg_left c.2 (Int.natCast_nonneg l.length);have f:=zK (Int.natCast_nonneg l.length) (show 0<=G.knock by omega);unfold je xy;omega
def AH(G:Gd)(l:cM)(k:Nat)(a:k<l.length)(b:l[k]<G.doors.length):jP G (l.take (k+1))=jP G (l.take k)+G.doors[l[k]].talk:=by unfold jP;rw[iw a,oC,List.sum_append];simp[eZ b]
theorem AI(a:G.Ok):∀(l:cM),0<=jP G l/\jP G l<=9*l.length
 |[]=>by simp[jP]
 |d::r=>by
  have:=AI a r
  have b:0<=((G.doors[d]?).map (·.talk)).getD 0/\((G.doors[d]?).map (·.talk)).getD 0<=9:=by
   cases h:G.doors[d]? with
   |none=>simp
   |some x=>have:=a.door x (pA h);simp;omega
  have e:jP G (d::r)=((G.doors[d]?).map (·.talk)).getD 0+jP G r:=by simp[jP]
  simp only[e,fi];omega
def Em(h:qE gp mk ms G w)(j:∀d∈l,d<G.doors.length)(a:l.length<=100000)(m:fN w la l):Calls V.prog 115 #[.pointer (some ⟨gp,0,none⟩),.slice la l.length lc] w (fM λv c=>v=.int .i64 (iA G l)/\Ext w c):=by refine jb Tryz.func115 Tryz.ntmps115 ?_;have u:=CL h.vN l a;have x:=h.vN.many;refine ek (GX h j a m) λp g=>?_;refine dm (ft (n:=l.length) (λk=>[(0,dR gp),(11,.slice la l.length lc),(12,i64 l.length),(13,i64 k),(5,i64 (je G l+jP G (l.take k)))]) (λ_ c=>c=p) ⟨⟨rfl,rfl,rfl,rfl,by show some _=some _;simp[jP],trivial⟩,rfl⟩ ?_ ?_ ?_);rintro k c e rfl;exact dK ⟨rfl,rfl,by trivial,rfl⟩;rintro k c e rfl;obtain⟨b,o,rfl,q⟩:=(m.ext g) k e;have f:=j _ (eB e);have⟨y,z,r,i⟩:=(h.ext g).c6;obtain⟨A,B,rfl,_,_,s⟩:=i _ f;have C:=AI h.vN (l.take k);have D:=h.vN.door _ (eB f);have t:(l.take k).length<=100000:=pY;refine eX k e (cO q (cO r (fE l[k] 3 f (cO s (cW (cW ⟨⟨rfl,rfl,rfl,rfl,?_,trivial⟩,rfl⟩))))));show some _=some _;rw[AH G l k e f,Int.add_assoc];rintro c rfl;exact⟨_,rfl,by simp[iA],g⟩
def last_at(h:qE gp mk ms G w):Calls V.prog 107 #[.pointer (some ⟨gp,0,none⟩)] w (fM λv a=>v=.int .i64 (2*G.days-1)/\a=w):=Pt gp G.days w h.c4 (iD h.vN.days)
end
def b8(c:BinOp)(a b:Int):Int:=match c with
 | .and=>IntKind.u8.wrap (BitVec.ofInt 8 a&&&BitVec.ofInt 8 b).toNat
 | .or=>IntKind.u8.wrap (BitVec.ofInt 8 a|||BitVec.ofInt 8 b).toNat
 |_=>IntKind.u8.wrap (BitVec.ofInt 8 a&&& ~~~BitVec.ofInt 8 b).toNat
section
variable{w:cI}{k:cJ->cI->Prop}{t:cQ}{x y:dW}
def Vl(r:Int)(a:b8 .and I J=r)(h:k (.int .u8 r) w):jL V.prog (do eqGuard .and t x y (.int .u8 I) (.int .u8 J);binOp .and t (.int .u8 I) (.int .u8 J)) w k:=⟨_,w,rfl,by subst a;exact h⟩
def SO(r:Int)(a:b8 .andNot I J=r)(h:k (.int .u8 r) w):jL V.prog (do eqGuard .andNot t x y (.int .u8 I) (.int .u8 J);binOp .andNot t (.int .u8 I) (.int .u8 J)) w k:=⟨_,w,rfl,by subst a;exact h⟩
def Vm(a:m<=8)(h:k (.int .u8 (I.fdiv (2^m))) w):jL V.prog (do eqGuard .shr t x y (.int .u8 I) (.int .i64 m);binOp .shr t (.int .u8 I) (.int .i64 m)) w k:=by
 refine⟨_,w,?_,h⟩;show Sem.run jS (Op.shift .shr .u8 I .i64 m) w=_;unfold Op.shift;rw[cR cL];have:min (m:Int).toNat IntKind.u8.bits=m:=by simp[IntKind.bits];omega
 rw[this];rfl
def Vn(a:m<=8)(h:k (.int .u8 (IntKind.u8.wrap (I*2^m))) w):jL V.prog (do eqGuard .shl t x y (.int .u8 I) (.int .i64 m);binOp .shl t (.int .u8 I) (.int .i64 m)) w k:=by
 refine⟨_,w,?_,h⟩;show Sem.run jS (Op.shift .shl .u8 I .i64 m) w=_;unfold Op.shift;rw[cR cL];have:min (m:Int).toNat IntKind.u8.bits=m:=by simp[IntKind.bits];omega
 rw[this];rfl
end
def Py:∀s:Nat,s<32->∀d:Nat,d<5->b8 .and ((s:Int).fdiv (2^d)) 1=if s.testBit d then 1 else 0:=by decide+kernel
def SP(s d:Nat)(w:cI)(a:s<32)(b:d<5):Calls V.prog 198 #[.int .u8 s,.int .i64 d] w (fM λv c=>v=.bool (s.testBit d)/\c=w):=by refine jb Tryz.func198 Tryz.ntmps198 ?_;refine Vm cL (Vl _ (Py s a d b) (fc ⟨_,rfl,?_,rfl⟩));cases s.testBit d<;>rfl
def zy(s d:Nat)(w:cI)(a:s<32)(b:d<5):Calls V.prog 164 #[.int .u8 s,.int .i64 d] w (fM λv c=>v=.int .u8 (ot s d)/\c=w):=Jd (Gi s d w a b)
def AJ(x:Int)(l:eY):Bool:=decide (0<=sE x l 0)
def En(l:eY)(x:Int)(b:dV)(c:Nat)(w:cI)(d:kD w b l)(a:l.length<=100000):Calls V.prog 135 #[.slice b l.length c,.int .i64 x] w (fM λv e=>v=.bool (AJ x l)/\e=w):=by refine jb Tryz.func135 Tryz.ntmps135 ?_;exact dH (Mx l x b c w d a) (wo ⟨_,rfl,rfl,rfl⟩)
def pP(n:Int):eY->eY->Int
 |_,[]=>0
 |a,d::r=>if l5 d 0 (n-1)then(if AJ d a then 4 else pP n (a++[d]) r)else 3
def iZ(n:Int)(l:eY):Int:=pP n [] l
def Eo(n:Int)(l:eY)(k:Nat)(a:k<l.length):pP n (l.take k) (l.drop k)=if l5 l[k] 0 (n-1)then(if AJ l[k] (l.take k)then 4 else pP n (l.take (k+1)) (l.drop (k+1)))else 3:=by rw[pz a,iw a];rfl
def CM{gp mk ms:Nat}{w:cI}(h:qE gp mk ms H w){l:eY}{lc:Nat}(p:kD w a l)(q:l.length<=100000)(u:l.length<=lc):
 Calls V.prog 108 #[.pointer (some ⟨gp,0,none⟩),.slice a l.length lc] w (fM λv e=>v=.int .i64 (iZ H.doors.length l)/\e=w):=by
 have x:=h.vN.many;have⟨y,z,r,s⟩:=h.c6;refine jb Tryz.func108 Tryz.ntmps108 ?_;refine dm (ft (n:=l.length) (λk=>[(0,dR gp),(1,.slice a l.length lc),(7,.slice a l.length lc),(8,i64 l.length),(9,i64 k)]) (λk e=>e=w/\iZ H.doors.length l=pP H.doors.length (l.take k) (l.drop k)) ⟨by trivial,rfl,rfl⟩ ?_ ?_ ?_);rintro k e g ⟨rfl,c⟩;exact dK ⟨rfl,rfl,by trivial,rfl,c⟩;rintro k e g ⟨rfl,c⟩;have⟨b,o,i,f⟩:=p k g;rw[Eo _ l k g]at c;have j:(l.take k).length=k:=pY;have d:=En (l.take k) l[k] a lc e (p.take k) cL;rw[j]at d;subst i;refine eX k g (cO f (cO r (dm (gC (dH (fT _ _ _ _) (eC ⟨λh=>?_,λm=>?_⟩))))));simp at h;exact⟨_,rfl,by rw[c];simp[h],rfl⟩;simp at m;refine pM k cL (dH d ⟨λh=>?_,λt=>?_⟩);exact⟨_,rfl,by rw[c];simp[h,m],rfl⟩;rw[m,t]at c;exact cW ⟨by trivial,rfl,eV c⟩;rintro e ⟨rfl,c⟩;exact⟨_,rfl,by rw[c];simp[pP],rfl⟩
def nt(s k:Nat):cM:=(List.range k).filter (s.testBit ·)
def eh(s:Nat):cM:=nt s 5
def gm(l:cM):dN:=l.map λn:Nat=>Value.int .i64 n
def eK(a:Nat)(w:cI)(v:cJ)(l:cM):Prop:=cZ a 3 [.int .i64 0] w v l.length (gm l)
def eK.row(h:eK m w x l):∃a c,x=.slice a l.length c/\fN w a l/\l.length<=c:=by obtain⟨j,⟨e,rfl⟩|⟨b,c,n,o,rfl,f,p,g,q,i,r⟩⟩:=h;exact⟨none,0,by rw[e],λk d=>cL,cL⟩;refine⟨_,c,rfl,λk d=>⟨b,0,rfl,?_⟩,g⟩;refine cN f ?_;rw[dj,i k (by simp[gm];omega)];simp[gm,eZ d]
def wv(s k:Nat):nt s (k+1)=if s.testBit k then nt s k++[k]else nt s k:=by unfold nt;rw[mL,List.filter_append];cases h:s.testBit k<;>simp[h]
theorem l7(s k:Nat):(nt s k).length<=k:=by have:=List.length_filter_le (s.testBit ·) (List.range k);simpa[nt]using this
def Ext.iI(h:Ext w t)(a:dA (cV x) t e)(d:cZ m T M t x k Y)(g:w.heap.size<=m):Ext w e:=
 ⟨a.os.trans h.os,a.tape.trans h.tape,a.output.trans h.output,dw h.size a.size,dw h.drawn a.drawn,λb c=>(a.block b (ep c h.size) λf=>iD ((d.blk f).1)).trans (h.block b c)⟩
def ww(s:Nat)(w:cI)(i:s<32):Calls V.prog 173 #[.int .u8 s] w (fM λv a=>Ext w a/\eK w.heap.size a v (eh s)):=by refine jb Tryz.func173 Tryz.ntmps173 ?_;refine jG (n:=5) (λk v=>[(0,.int .u8 s),(3,v),(5,i64 k)]) (λk v a=>Ext w a/\eK w.lH a v (nt s k)) (fl) ⟨by trivial,Ext.refl _,cZ.nil _ _ _ _⟩ ?_ ?_ ?_;rintro k v a f ⟨e,b⟩;exact dK ⟨rfl,rfl,by trivial,e,b⟩;rintro k v a f ⟨e,b⟩;have g:=l7 s k;refine dH (SP s k a i f) ⟨λh=>?_,λh=>?_⟩;refine er [Value.int .i64 k] 3 λp q c j l=>gR n8 (b.ext c) (dw e.size c.size) l cL λm r d o _=>cW ⟨m,by trivial,(e.trans c).iI o (b.ext c) (dg _),?_⟩;rw[wv,cT h];simpa[eK,gm]using d;refine cW ⟨v,by trivial,e,?_⟩;rw[wv,cR (by rw[h];simp)];exact b;rintro v a ⟨e,b⟩;exact⟨_,rfl,e,b⟩
def setFrom(s:Nat)(l:cM):Nat:=l.foldl ot s
def eo(l:cM):Nat:=setFrom 0 l
theorem nf:∀(l:cM) (s:Nat),s<32->(∀d∈l,d<5)->setFrom s l<32
 |[],s,a,_=>a
 |d::r,s,a,h=>nf r (ot s d) (D8 s a d (h d fF)) λx b=>h x (ii _ b)
def uo(l:cM)(e:dV)(g:Nat)(w:cI)(j:fN w e l)(h:∀d∈l,d<5)(i:l.length<=100000):Calls V.prog 122 #[.slice e l.length g] w (fM λv a=>v=.int .u8 (eo l)/\a=w):=by refine jb Tryz.func122 Tryz.ntmps122 ?_;refine dm (ft (n:=l.length) (λk=>[(3,.int .u8 (eo (l.take k))),(6,.slice e l.length g),(7,i64 l.length),(8,i64 k)]) (λ_ a=>a=w) ⟨by trivial,rfl⟩ ?_ ?_ ?_);rintro k a c rfl;exact dK ⟨rfl,rfl,by trivial,rfl⟩;rintro k a c rfl;obtain⟨b,o,rfl,m⟩:=j k c;have f:=h _ (eB c);have p:eo (l.take k)<32:=nf _ 0 cL λd f=>h d (List.mem_of_mem_take f);refine eX k c (cO m (dH (zy _ _ _ p f) (cW ⟨⟨?_,rfl,rfl,rfl,trivial⟩,rfl⟩)));show some _=some _;rw[iw c];simp only[eo,setFrom,si,mj,List.foldl_nil];rintro a rfl;exact⟨_,rfl,dt,rfl⟩
structure Sx where
 tries:Int
 mornings:Int
 evenings:Int
 opened:Bool
 d0:Bool
 d1:Bool
 d2:Bool
 left:Bool
def nL(x:Sx):dN:=[.int .i64 x.tries,.int .i64 x.mornings,.int .i64 x.evenings,.bool x.opened,.bool x.d0,.bool x.d1,.bool x.d2,.bool x.left]
def ij(T:Int)(x:Sx):Bool:=(x.left||x.opened)||(decide (T<=x.tries)&&(decide (T<2)||(decide (0<x.mornings)&&decide (0<x.evenings))))
def zz{gp mk ms:Nat}(h:qE gp mk ms H w)(x:Sx):Calls V.prog 134 #[.pointer (some ⟨gp,0,none⟩),.agg (nL x).toArray] w (fM λv k=>v=.bool (ij H.tries x)/\Ext w k):=by refine jb Tryz.func134 Tryz.ntmps134 ?_;refine eH λo p c l d=>?_;have⟨i,m,n,j⟩:=(h.ext c).fn;refine dD dC (dl (cN d rfl) ⟨λf=>?_,λf=>?_⟩);exact jX rfl λa e=>⟨_,rfl,by simp[ij,f],c.trans e⟩;refine dl (cN d rfl) ⟨λg=>?_,λg=>?_⟩;exactλa e=>⟨_,rfl,by simp[ij,f,g],c.trans e⟩;refine dl m (dl (cN d rfl) (iW dC _ (λa e=>Jf i _ _ a (e.cell j)) ⟨λb=>?_,λb=>?_⟩));refine dl n (dl (cN d rfl) (dl (cN d rfl) (iW dC _ (λa e=>Jg i _ _ _ a (e.cell j)) λa e=>⟨_,rfl,?_,c.trans e⟩)));have b:H.tries<=x.tries:=fH b;simp[ij,f,g,b];refineλa e=>⟨_,rfl,?_,c.trans e⟩;have b:¬H.tries<=x.tries:=iP b;simp[ij,f,g,b]
section
variable{w:cI}{k:cJ->cI->Prop}{t:cQ}{x y:dW}
def li{n:Nat}(b:0<n)(c:m<=1000000000)(h:k (.int .i64 ((m/n:Nat):Int)) w):jL V.prog (do eqGuard .quo t x y (.int .i64 m) (.int .i64 n);binOp .quo t (.int .i64 m) (.int .i64 n)) w k:=by
 refine⟨_,w,?_,h⟩;show Sem.run jS (Op.intDiv .quo .i64 m n) w=_;unfold Op.intDiv;rw[cR cL];have a:(m:Int).tdiv n=((m/n:Nat):Int):=by rw[Int.tdiv_eq_ediv_of_nonneg cL];simp
 have d:m/n<=m:=Nat.div_le_self _ _;rw[a];simp only[Sem.run_pure];generalize m/n=q at*;rw[IntWalk.i64_in _ cL]
def tC{n:Nat}(b:0<n)(h:k (.int .i64 ((m%n:Nat):Int)) w):jL V.prog (do eqGuard .rem t x y (.int .i64 m) (.int .i64 n);binOp .rem t (.int .i64 m) (.int .i64 n)) w k:=by
 refine⟨_,w,?_,h⟩;show Sem.run jS (Op.intDiv .rem .i64 m n) w=_;unfold Op.intDiv;rw[cR cL];have a:(m:Int).tmod n=((m%n:Nat):Int):=by rw[Int.tmod_eq_emod_of_nonneg cL];simp
 simp only[a,Sem.run_pure]
def zA{t:cQ}(n:Nat)(a:i<n)(h:k (.pointer (some ⟨m,o+i,none⟩)) w)(b:ty t=some ⟨2,n,1,n⟩:=by rfl):jL V.prog (Instr.indexAt t (.pointer (some ⟨m,o,none⟩)) (.int .i64 (i:Nat))) w k:=vm i n a h rfl b
def jr{t:cQ}{b:eF}{c:cQ}(a:dN)(d:w.heap[m]? =some (.cells b c))(e:∀j v,a[j]? =some v->b[o+j]? =some v)(f:GS t=some true:=by rfl)(g:Pq t=some a.length:=by rfl):Sem.run V.prog (loadVar t ⟨m,o,none⟩) w=.ok (.agg a.toArray) w:=by
 have h:=run_loadCells_list (P:=jS) w (dq m o) a λj v i=>by rw[iq];exact cN d (e j v i)
 simp only[loadVar,Sem.run_bind,AD f,Ei g,Result.andThen_ok,ej,h,Sem.run_pure]
end
def ee(c:eF)(a:dN)(h:c.size=a.length):ir c 0 a=a.toArray:=by apply Ob;intro j;rw[oW a c 0 j cL,dj,Nat.sub_zero];have e:a.toArray[j]? =a[j]? :=dt;rw[e];split;rfl;rename_i b;have b:a.iN<=j:=Nat.le_of_not_lt λd=>b ⟨gi _,d⟩;rw[T6 b];exact uI (by rw[h];exact b)
def py(x:Sx)(d:Nat):Bool:=if d=0 then x.d0 else if d=1 then x.d1 else x.d2
def ig(x:Sx)(a:Nat)(b:Bool):Sx:=⟨x.tries+1,if a%2=0 then x.mornings+1 else x.mornings,if a%2=0 then x.evenings else x.evenings+1,x.opened||b,if a/2=0 then true else x.d0,if a/2=1 then true else x.d1,if a/2=2 then true else x.d2,x.left⟩
def CN(x:Sx)(b:Nat)(u:Bool)(w:cI)(W:b<6)(Y:(0<=x.tries/\x.tries<=1000000)/\(0<=x.mornings/\x.mornings<=1000000)/\0<=x.evenings/\x.evenings<=1000000):
 Calls V.prog 158 #[.agg (nL x).toArray,.int .i64 b,.bool u] w (fM λv N=>v=.agg (nL (ig x b u)).toArray/\Ext w N):=by
 refine jb Tryz.func158 Tryz.ntmps158 ?_;refine eH λZ E F d f=>eS λw2 y G z h=>?_;have g:=G.at_ f;have s:¬(y=E):=iD (dz.lt_of_heap f);refine cO (cN g rfl) (cW (dI g λw3 H c=>?_));have i:=H.fL h s;refine tC (m:=b) (n:=2) cL (fc ?_);have⟨X,I⟩:=jQ (ig x b u);rw[<-I];obtain rfl|rfl|rfl|rfl|rfl|rfl:b=0\/b=1\/b=2\/b=3\/b=4\/b=5:=cL;all_goals
  first
  |refine jX rfl (cO (cN c rfl) (cW (dI c λJ A e=>?_)))
  |refine lh rfl (cO (cN c rfl) (cW (dI c λJ A e=>?_)))
  have k:=A.fL i s;have O:Ext w J:=((F.trans G).cS H d).cS A d;refine cO (cN e rfl) ⟨λK=>?_,λK=>?_⟩;all_goals
   refine dI e λw5 L l=>?_;have o:=L.fL k s;have P:=O.cS L d;refine li (n:=2) cL cL (zA 3 kA (dI l λQ M p=>?_));have q:=M.fL o s;have R:=P.cS M d;have B:Q.heap[E]? =some (.cells (nL X).toArray 166):=p.trans (by rw[I];simp[ir,nL,ig,K,Value.cells]);refine ew (vs:=nL X) (λj v C=>by rw[dj];exact cN B (eV C)) (dI q λt S r=>?_);have D:t.heap[y]? =some (.cells (nL X).toArray 166):=r.trans (dE (λa=>some (Obj.cells a 166)) (ee (pK 166).toArray (nL X) rfl));have T:Sem.run V.prog (loadVar 166 (dq y 0)) t=.ok (.agg (nL X).toArray) t:=jr (nL X) D λj v C=>by rw[dj];simpa using C
   have U:Ext w t:=R.cS S (dw F.size z);clear f g c e l p h i k o q r;refine⟨.agg (nL X).toArray,T,?_⟩;exact⟨_,rfl,rfl,U⟩
def vq(w:cI)(a:dV)(xs:List Sx):Prop:=∀k (h:k<xs.length),∃b o,a=some ⟨b,o,none⟩/\∀j v,(nL xs[k])[j]? =some v->w.cell? ⟨b,o+k*8+j,none⟩=some v
def vq.ext{w c:cI}{xs:List Sx}(h:vq w a xs)(e:Ext w c):vq c a xs:=λk d=>by have⟨b,o,f,g⟩:=h k d;exact⟨b,o,f,λj v i=>e.cell (g j v i)⟩
structure mK(wp gp mk ms:Nat)(G:Gd)(xs:List Sx)(before:Int)(w:cI):Prop where
 g:qE gp mk ms G w
 len:xs.length=G.doors.length
 bf:0<=before/\before<=5
 at_:∃sa sc,w.cell? ⟨wp,0,none⟩=some (.pointer (some ⟨gp,0,none⟩))/\w.cell? ⟨wp,1,none⟩=some (.slice sa xs.length sc)/\w.cell? ⟨wp,2,none⟩=some (.int .i64 before)/\vq w sa xs
section
variable{wp gp mk ms:Nat}{G:Gd}{xs:List Sx}{before:Int}{w:cI}
theorem mK.ext{a:cI}(h:mK wp gp mk ms G xs before w)(e:Ext w a):mK wp gp mk ms G xs before a:=by have⟨b,c,d,f,i,j⟩:=h.at_;exact⟨h.g.ext e,h.len,h.bf,b,c,e.cell d,e.cell f,e.cell i,j.ext e⟩
def qT(G:Gd)(before a:Int):Int:=if l5 a 0 (2*G.days-1)then(if a<before then 5 else 0)else 3
def SQ(h:mK wp gp mk ms G xs before w)(a:Int):Calls V.prog 153 #[.pointer (some ⟨wp,0,none⟩),.int .i64 a] w (fM λv d=>v=.int .i64 (qT G before a)/\d=w):=by have⟨i,j,e,k,f,l⟩:=h.at_;refine jb Tryz.func153 Tryz.ntmps153 ?_;refine cO e (dH (last_at h.g) (dH (fT _ _ _ _) (eC ⟨λb=>?_,λb=>?_⟩)));exact⟨_,rfl,by simp at b;simp[qT,b],rfl⟩;simp at b;refine cO f (dK ⟨λc=>?_,λc=>?_⟩);exact⟨_,rfl,by simp[qT,b,fH c],rfl⟩;exact⟨_,rfl,by simp[qT,b,iP c],rfl⟩
def rL(T:Int)(xs:List Sx)(k:Nat):cM:=(List.range k).filter λd=>match xs[d]? with
 |some x=>!ij T x
 |none=>false
def dU(T:Int)(xs:List Sx):cM:=rL T xs xs.length
def yr(T:Int)(xs:List Sx)(k:Nat)(a:k<xs.length):rL T xs (k+1)=if ij T xs[k]then rL T xs k else rL T xs k++[k]:=by unfold rL;rw[mL,List.filter_append];cases h:ij T xs[k]<;>simp[h,eZ a]
def AK(T:Int)(xs:List Sx)(k:Nat):(rL T xs k).length<=k:=by
 have:=List.length_filter_le (λd=>match xs[d]? with
  |some x=>!ij T x
  |none=>false) (List.range k)
 simpa[rL]using this
def Ep(h:mK wp gp mk ms G xs before w):Calls V.prog 119 #[.pointer (some ⟨wp,0,none⟩)] w (fM λv c=>Ext w c/\eK w.heap.size c v (dU G.tries xs)):=by have⟨C,D,E,F,S,H⟩:=h.at_;have T:=h.g.vN.many;have U:=h.len;refine jb Tryz.func119 Tryz.ntmps119 ?_;refine cO F (dm (jG (n:=xs.length) (λk v=>[(0,dR wp),(3,v),(9,.slice C xs.length D),(10,i64 xs.length),(11,i64 k)]) (λk v c=>Ext w c/\eK w.heap.size c v (rL G.tries xs k)) (fl) ⟨by trivial,Ext.refl _,cZ.nil _ _ _ _⟩ ?_ ?_ ?_));rintro k v c m ⟨e,f⟩;exact dK ⟨rfl,rfl,by trivial,e,f⟩;rintro k v c m ⟨e,f⟩;obtain⟨b,o,rfl,I⟩:=(H.ext e) k m;have x:=AK G.tries xs k;refine fE k 8 m (ew (vs:=nL xs[k]) I (eS λW J K r L=>dI L λy M p=>?_));have i:Ext c y:=K.cS M r;have s:y.heap[J]? =some (.cells (nL xs[k]).toArray 166):=p.trans (dE (λa=>some (Obj.cells a 166)) (ee (pK 166).toArray (nL xs[k]) rfl));have N:=(h.g.ext e).ext i;clear p;refine dD dC (dl (i.cell (e.cell E)) (dx (.agg (nL xs[k]).toArray) (λz d=>ew (vs:=nL xs[k]) (λj v O=>by rw[dj];exact cN (d.at_ s) (eV O)) gd) (ik (.bool (ij G.tries xs[k])) (λz d=>zz (N.ext d) xs[k]) (mY λz d=>⟨λl=>?_,λl=>?_⟩))));have l:ij G.tries xs[k]=false:=eV l;have A:=(e.trans i).trans d;refine er [Value.int .i64 k] 3 λX P q B t=>gR n8 (((f.ext i).ext d).ext q) (dw A.size q.size) t cL λQ Y u R _=>cW ⟨Q,by trivial,(A.trans q).iI R (((f.ext i).ext d).ext q) (dg _),?_⟩;rw[yr _ _ _ m,l];simpa[eK,gm]using u;have l:ij G.tries xs[k]=true:=eV l;refine cW ⟨v,by trivial,(e.trans i).trans d,?_⟩;rw[yr _ _ _ m,l];exact(f.ext i).ext d;rintro v c ⟨e,f⟩;exact⟨_,rfl,e,f⟩
end
def rM(s:Nat):dN:=[.bool (s.testBit 0),.bool (s.testBit 1),.bool (s.testBit 2),.bool (s.testBit 3),.bool (s.testBit 4)]
def Er(l:cM)(d:Nat):Bool:=l.contains d
def Pz(l:cM):dN:=[.bool (Er l 0),.bool (Er l 1),.bool (Er l 2),.bool (Er l 3),.bool (Er l 4)]
def MC:∀s:Nat,s<32->∀d:Nat,d<5->Er (eh s) d=s.testBit d:=by decide+kernel
def PC(s:Nat)(d:Nat)(h:d∈eh s):d<5:=by have:=(nA.1 h).1;simpa using this
def MD(s:Nat)(w:cI)(L:s<32):Calls V.prog 174 #[.int .u8 s] w (fM λv e=>v=.agg (rM s).toArray/\Ext w e):=by
 refine jb Tryz.func174 Tryz.ntmps174 ?_;refine eS λw1 y M A N=>eS λO g P S i=>cX (ww s O L) λv T z=>?_;have⟨B,z⟩:=z;obtain⟨a,c,rfl,m,_⟩:=z.row;have C:=B.at_ (P.at_ N);have U:¬(y=g):=iD (dz.lt_of_heap N);have Q:(eh s).length<=5:=l7 s 5;have D:∀b o,a=some (dq b o)->O.heap.size<=b:=λb o h=>by obtain⟨_,⟨_,f⟩|⟨b',c',cs,h1,f,_⟩⟩:=z;injection f with f;rw[f]at h;cases h;injection f with f;rw[f]at h;have:=dE Addr.block (dQ h);simp at this;omega
 have W:=dz.lt_of_heap i;refine dm (ft (n:=(eh s).length) (λk=>[(2,dR y),(3,dR g),(7,.slice a (eh s).length c),(8,i64 (eh s).length),(9,i64 k)]) (λk e=>dA (λx=>x=g) T e/\e.heap[g]? =some (.cells (Pz ((eh s).take k)).toArray 217)) ⟨by trivial,dA.refl _ _,B.at_ i⟩ ?_ ?_ ?_);rintro k e p X;exact dK ⟨rfl,rfl,by trivial,X⟩
 ·rintro k e p ⟨q,r⟩;obtain⟨b,o,rfl,Y⟩:=m k p;have R:(eh s)[k]<5:=PC s _ (eB p);have E:¬(b=g):=iD (D b o rfl);refine eX k p (cO (q.fq Y E) (vm (eh s)[k] 5 R (jp r (by simp[Value.cells,Pz];omega) (λt F G=>cW ⟨by trivial,q.trans F (λ_ _ h=>h) λ_ _ h=>h,?_⟩) (by simp[Value.cells,Value.oneCell']))));refine G.trans (dE (λa=>some (Obj.cells a 217)) ?_);rw[iw p];generalize (eh s)[k]=d at R;generalize (eh s).take k=l;have Z:∀j,Er (l++[d]) j=(Er l j||decide (j=d)):=λj=>by simp[Er,List.contains_eq_mem,jy,Bool.decide_or]
  obtain rfl|rfl|rfl|rfl|rfl:d=0\/d=1\/d=2\/d=3\/d=4:=cL;all_goals simp[Pz,Z,ir,Value.cells]
 rintro e ⟨q,r⟩;have H:=q.fL C U;rw[jN]at r;have I:Pz (eh s)=rM s:=by simp[Pz,rM,MC s L]
 rw[I]at r;refine ew (vs:=rM s) (λj v J=>by rw[dj];exact cN r (eV J)) (dI H λt F u=>?_);have K:t.heap[y]? =some (.cells (rM s).toArray 217):=u.trans (dE (λa=>some (Obj.cells a 217)) (ee (pK 217).toArray (rM s) rfl));have hl:Sem.run V.prog (loadVar 217 (dq y 0)) t=.ok (.agg (rM s).toArray) t:=jr (rM s) K λj v J=>by rw[dj];simpa using J
 have e5:Ext w t:=(((M.trans P).trans B).cS q (iD M.size)).cS F A;clear u;refine⟨.agg (rM s).toArray,hl,?_⟩;exact⟨_,rfl,rfl,e5⟩
section
variable{w:cI}{k:cJ->cI->Prop}
def iR(w:cI)(a:dV)(c:dN):Prop:=c=[]\/∃b o,a=some ⟨b,o,none⟩/\∀j u,c[j]? =some u->w.cell? ⟨b,o+j,none⟩=some u
def iR.ext{w c:cI}{d:dN}(h:iR w a d)(e:Ext w c):iR c a d:=by obtain h|⟨b,o,f,g⟩:=h;exact .inl h;exact .inr ⟨b,o,f,λj u i=>e.cell (g j u i)⟩
def wx{b:dN}(c:Ij T U b){x y:dW}(h:k (.bool a.isNone) w):jL V.prog (do eqGuard .eql T x y (.slice a m i) (.slice none 0 0);binOp .eql T (.slice a m i) (.slice none 0 0)) w k:=by have d:=Go.Lib.run_eql_slice_nil (P:=jS) w T U a m i 0 0 c.1;refine⟨_,w,?_,h⟩;go_simp
def ME{zs:dN}{w:cI}(b:m<=i)(c:w.heap[i]? =some (.cells #[] T)):cZ m T zs w (.slice (some ⟨i,0,none⟩) 0 0) 0 []:=
 ⟨dt,.inr ⟨i,0,_,b,rfl,c,dt,dg _,kA,λj a=>by simp at a,λj _ a=>by simp at a⟩⟩
def od{e:cQ}{zs:dN}{x:Array Bool}(g:Ij T e zs){n0 n:Nat}{w:cI}{us:dN}(t:w.heap[n]? =some (.cells #[] e))(y:n0<=n)(p:us.length=m*zs.length)(q:iR w a us)(A:∀u∈us,u.oneCell'=true)(v:m<=1000000) (r:∀l d,cZ n0 e zs d l m us->(∀W,Ext W w->W.heap.size<=n0->Ext W d)->k l d):y8 V.prog (builtin .append #[T,T] U x #[.slice (some ⟨n,0,none⟩) 0 0,.slice a m i]) w k:=by
 have c:=ME (zs:=zs) y t;have f:0<zs.length:=by have⟨_,G,z,_,_,_,_,_,h⟩:=g;exact h
 have B:=dz.lt_of_heap t;obtain rfl|⟨b,o,rfl,q⟩:=q;obtain rfl:m=0:=by obtain h|h:=mM m;exact h;have:=Nat.mul_pos h f;simp at p;omega
 exact wq g (dg _) (r _ _ c λW h _=>h);obtain rfl|s:=mM m;obtain rfl:us=[]:=eV p;exact wq g (dg _) (r _ _ c λW h _=>h);exact Ej g c cL p s (λj u C=>by rw[iq];exact q j u C) A cL λl d D E _=>r l d (eV D) λW h F=>h.iI E c F
end
def PD:Ij 139 166 (pK 166):=⟨eE,Tryz.t166,_,eE,rfl,eE,eE,by decide+kernel,kA⟩
def zB(f:dY)(e:cQ)(d:dN):Prop:=∀(a:dV) (l c:Nat) (b:dN) (w:cI),b.length=l*d.length->(a=none->l=0)->iR w a b->(∀u∈b,u.oneCell'=true)->l<=1000000->Calls V.prog f #[.slice a l c] w (fM λv g=>Ext w g/\cZ w.heap.size e d g v l b)
def PF:zB 128 3 [.int .i64 0]:=by intro a l c g w e i j k b;refine jb Tryz.func128 Tryz.ntmps128 ?_;refine wx n8 ⟨λh=>?_,λh=>er [] 3 λp q f d m=>od n8 m d e (j.ext f) k b λr s n o=>⟨_,rfl,o w f (dg _),n⟩⟩;obtain rfl:=i (eV h);obtain rfl:g=[]:=eV e;exact⟨_,rfl,Ext.refl _,cZ.nil _ _ _ _⟩
def Vo:Ij 26 29 [.int .i64 0,.slice none 0 0]:=⟨eE,Tryz.t29,_,eE,rfl,eE,eE,by decide+kernel,kA⟩
def PG:Ij 222 154 [.int .u8 0]:=⟨eE,Tryz.t154,_,eE,rfl,eE,eE,by decide+kernel,kA⟩
def PH:zB 154 166 (pK 166):=by intro a l c g w e i j k b;refine jb Tryz.func154 Tryz.ntmps154 ?_;refine wx PD ⟨λh=>?_,λh=>er [] 166 λp q f d m=>od PD m d e (j.ext f) k b λr s n o=>⟨_,rfl,o w f (dg _),n⟩⟩;obtain rfl:=i (eV h);obtain rfl:g=[]:=eV e;exact⟨_,rfl,Ext.refl _,cZ.nil _ _ _ _⟩
def PI:zB 155 29 [.int .i64 0,.slice none 0 0]:=by intro a l c g w e i j k b;refine jb Tryz.func155 Tryz.ntmps155 ?_;refine wx Vo ⟨λh=>?_,λh=>er [] 29 λp q f d m=>od Vo m d e (j.ext f) k b λr s n o=>⟨_,rfl,o w f (dg _),n⟩⟩;obtain rfl:=i (eV h);obtain rfl:g=[]:=eV e;exact⟨_,rfl,Ext.refl _,cZ.nil _ _ _ _⟩
def PK:zB 199 154 [.int .u8 0]:=by intro a l c g w e i j k b;refine jb Tryz.func199 Tryz.ntmps199 ?_;refine wx PG ⟨λh=>?_,λh=>er [] 154 λp q f d m=>od PG m d e (j.ext f) k b λr s n o=>⟨_,rfl,o w f (dg _),n⟩⟩;obtain rfl:=i (eV h);obtain rfl:g=[]:=eV e;exact⟨_,rfl,Ext.refl _,cZ.nil _ _ _ _⟩
theorem fN.cells{w:cI}{a:dV}{l:cM}(h:fN w a l):iR w a (gm l):=by
 obtain _|⟨x,r⟩:=l;exact .inl rfl;obtain⟨b,o,rfl,_⟩:=h 0 dt;refine .inr ⟨b,o,rfl,λj u d=>?_⟩;have c:j<(x::r).iN:=by simpa[gm]using(kX.1 d).1
 have⟨f,g,e,i⟩:=h j c;obtain⟨rfl,rfl⟩:b=f/\o=g:=by injection e with e;injection e with k m;exact⟨k,m⟩
 rw[i];have:(gm (x::r))[j]? =some (i64 ((x::r)[j]:Nat)):=by simp only[gm,sN,eZ c];rfl
 rw[this]at d;exact d
def fN.tD(h:fN w none l):l.length=0:=by obtain _|⟨x,r⟩:=l;rfl;have⟨b,o,e,_⟩:=h 0 dt;cases e
def wz(l:cM):∀u∈gm l,u.oneCell'=true:=λu a=>by obtain⟨n,_,rfl⟩:=kF.1 a;rfl
def ng(h:fN w a l)(b:l.length<=1000000):Calls V.prog 128 #[.slice a l.length m] w (fM λv c=>Ext w c/\eK w.heap.size c v l):=
 PF a l.iN m (gm l) w (by simp[gm]) (λe=>by subst e;exact h.tD) h.cells (wz l) b
def wA(w:cI)(a:dV)(c:List cM):Prop:=∀k (h:k<c.length),∃b o d e,a=some ⟨b,o,none⟩/\w.cell? ⟨b,o+k,none⟩=some (.slice d c[k].length e)/\fN w d c[k]/\c[k].length<=e
theorem wA.ext{c:List cM}(h:wA w a c)(e:Ext w t):wA t a c:=λk d=>by have⟨b,o,f,g,i,j,l,m⟩:=h k d;exact⟨b,o,f,g,i,e.cell j,l.ext e,m⟩
def fe(c:Nat)(w:cI)(v:cJ)(a:List cM):Prop:=∃b:dN,cZ c 27 [.slice none 0 0] w v a.length b/\b.length=a.length/\∀k (h:k<a.length),∃u,b[k]? =some u/\eK c w u a[k]
theorem fe.ext{a:List cM}(h:fe m w x a)(e:Ext w t):fe m t x a:=by have⟨b,c,d,f⟩:=h;refine⟨b,c.ext e,d,λk g=>?_⟩;have⟨u,i,j⟩:=f k g;exact⟨u,i,j.ext e⟩
theorem fe.row{d:List cM}(h:fe m w x d):∃a c,x=.slice a d.length c/\wA w a d/\d.length<=c:=by obtain⟨t,⟨v,⟨g,rfl⟩|⟨b,c,y,z,rfl,i,A,j,B,l,C⟩⟩,D,e⟩:=h;exact⟨none,0,by rw[g],λk f=>cL,cL⟩;refine⟨_,c,rfl,λk f=>?_,j⟩;have⟨u,n,o⟩:=e k f;obtain⟨p,q,rfl,r,s⟩:=o.row;exact⟨b,0,p,q,rfl,cN i (by rw[dj,l k cL];exact n),r,s⟩
def gU{g d:dN}(h:cZ m i M w x o g)(l:cZ k j Y w y p d)(n:i≠j)(b:Nat)(q:cV x b):¬cV y b:=λf=>by obtain⟨_,_,rfl⟩:=q;obtain⟨_,_,rfl⟩:=f;obtain⟨_,⟨_,e⟩|⟨t,_,u,_,e,r,_⟩⟩:=h;cases e;obtain⟨_,⟨_,c⟩|⟨v,_,s,_,c,a,_⟩⟩:=l;cases c;injection e with e;injection c with c;have e:=dE Addr.block (dQ e);have c:=dE Addr.block (dQ c);simp only at e c;subst e;subst c;rw[r]at a;injection a with a;injection a with _ a;exact n a
def SS{r:nB}{u:Array Bool}{b:List cM}(h:fe m w x b)(n:m<=w.heap.size)(o:eK m w y l)(v:w.heap[k]? =some (.cells [y].toArray 27))(c:b.length+1<=1000000) (z:∀g d,fe m d g (b++[l])->(∀W,Ext W w->W.heap.size<=m->Ext W d)->r g d):y8 V.prog (builtin .append #[66,66] T u #[x,.slice (some ⟨k,0,none⟩) 1 i]) w r:=by
 have⟨A,j,s,B⟩:=h;have e:y.oneCell'=true:=by obtain⟨a,i,rfl,_⟩:=o.row;rfl
 refine gR Jh j n v c (λg d C p J=>z g d ⟨A++[y],eV C,by simp[s],λq D=>?_⟩ λW E F=>E.iI p j F) rfl (by simp[sD,e]);obtain f|G:=gu q b.length;have⟨H,I,t⟩:=B q f;refine⟨H,by rw[uJ cL];exact I,?_⟩;rw[ml f];exact t.keep p (gU t j kA);obtain rfl:q=b.length:=by simp at D;omega
 refine⟨y,by rw[uK cL];simp[s],?_⟩;simp only[sj (dg _),lK,nQ];exact o.keep p (gU o j kA)
def eK.low(h:eK m w x l)(f:k<=m):eK k w x l:=by obtain⟨a,h|⟨b,c,d,g,e⟩⟩:=h;exact⟨a,.inl h⟩;exact⟨a,.inr ⟨b,c,d,cL,e⟩⟩
def Jj(a:List cM)(i:dV)(m:Nat)(w:cI)(q:wA w i a)(p:a.length<=100000)(r:∀l∈a,l.length<=100000):Calls V.prog 131 #[.slice i a.length m] w (fM λv c=>Ext w c/\fe w.heap.size c v a):=by refine jb Tryz.func131 Tryz.ntmps131 ?_;refine dm (jG (n:=a.length) (λk v=>[(3,v),(6,.slice i a.length m),(7,i64 a.length),(8,i64 k)]) (λk v c=>Ext w c/\fe w.heap.size c v (a.take k)) (fl) ⟨by trivial,Ext.refl _,[],cZ.nil _ _ _ _,rfl,λk d=>by simp at d⟩ ?_ ?_ ?_);rintro k v c d ⟨e,f⟩;exact dK ⟨rfl,rfl,by trivial,e,f⟩;rintro k v c d ⟨e,f⟩;obtain⟨b,o,C,D,rfl,s,t,_⟩:=(q.ext e) k d;refine eX k d (cO s (cX (ng t (iD (r _ (eB d)))) λu E g=>?_));have⟨j,g⟩:=g;refine er [u] 27 (λF G h x y=>SS ((f.ext j).ext h) (by have:=e.size;have:=j.size;have:=h.size;omega) ((g.low e.size).ext h) y pY λz H A B=>cW ⟨z,by trivial,B w ((e.trans j).trans h) (dg _),?_⟩) ?_;rw[iw d];exact A;obtain⟨I,J,rfl,_⟩:=g.row;intro w;kernel_rfl;rintro v c ⟨e,f⟩;rw[jN]at f;exact⟨_,rfl,e,f⟩
def fA{p:Type}(n:Nat){d:Code}{l:L}{Q:QW}(i:Nat->p->L)(J:Nat->p->dB)(q:p)(u:Sub (i 0 q) l/\J 0 q w)
 (f:∀b s w,b<=n->J b s w->WC V.prog Fj m d (λe v x=>match e with
  | .normal=>b<n/\∃o,Sub (i (b+1) o) v/\J (b+1) o x
  |e=>jT k Q e v x) (i b s) w):dP V.prog m (Code.block k (Code.loop d)) l w Q:=by
 refine⟨λa r=>?_⟩;refine wp_block<|n6 (λj a w=>∃b s,b<=n/\j=n-b/\Fr m (i b s) a/\J b s w) n ⟨0,q,gi _,cL,r.sub u.1,u.2⟩ ?_;rintro j a w ⟨b,s,y,rfl,r,z⟩;refine lM (jo dr _ _ _ a w r (f b s w y z)) ?_;rintro e E F ⟨t,c,h⟩;cases e with
 |normal=>
  have⟨A,o,B,C⟩:=h;exact⟨n-(b+1),cL,b+1,o,cL,rfl,c.sub B,C⟩
 |exit j=>
  simp only[Exit.then,Exit.inBlock];by_cases g:j=k;subst g;rw[cT rfl];simp only[jT,Cg]at h;exact⟨t,c,h⟩;rw[cR g];have:Nat.beq j k=false:=by
   cases D:Nat.beq j k with
   |false=>rfl
   |true=>exact absurd (nS D) g
  simp only[jT,this]at h;exact⟨t,c,h⟩
 |_=>exact⟨t,c,h⟩
def Jk(l a:eY)(n f:dV)(r i:Nat)(w:cI)(x:kD w n l)(p:kD w f a)(s:l.length<=100000):
 Calls V.prog 58 #[.slice n l.length r,.slice f a.length i] w (fM λv m=>v=.bool (decide (l=a))/\Ext w m):=by
 refine jb Tryz.func58 Tryz.ntmps58 ?_;refine dm (dm (gQ ⟨λh=>?_,λh=>?_⟩));have h:¬l=a:=λe=>by subst e;simp at h
 exact⟨_,rfl,by simp[h],Ext.refl _⟩;have h:l.length=a.length:=by simp at h;omega
 refine fA l.length (λk (_:Unit)=>[(0,.slice n l.length r),(1,.slice f a.length i),(5,i64 k)]) (λk _ m=>Ext w m/\l.take k=a.take k) () ⟨by trivial,Ext.refl _,dt⟩ ?_;rintro k _ m C ⟨e,t⟩;refine dm (dK ⟨λc=>?_,λj=>?_⟩);have c:k<l.length:=eV c;have d:k<a.length:=cL;obtain⟨b,o,rfl,y⟩:=x k c;obtain⟨D,E,rfl,q⟩:=p k d;refine dD dC (gB k c (dl (e.cell y) (gB k d (dl (e.cell q) (Ut λF u=>⟨λg=>?_,λg=>?_⟩)))));have g:¬l[k]=a[k]:=fH g;have:¬l=a:=λe=>by subst e;exact g rfl
 exact⟨_,rfl,by simp[this],e.trans u⟩;have g:l[k]=a[k]:=eV g;refine cW ⟨c,(),by trivial,e.trans u,?_⟩;rw[iw c,iw d,t,g];have j:¬k<l.length:=eV j;have z:k=l.length:=cL;have:l=a:=by have A:l.take k=l:=uM cL;have B:a.take k=a:=uM cL;rw[<-A,<-B,t]
 exact⟨_,rfl,by simp[this],e⟩
def SU:qo l=qo f↔l=f:=by
 constructor;intro h;induction l generalizing f with
 |nil=>cases f with
  |nil=>rfl
  |cons x r=>simp[qo]at h
 |cons x r a=>cases f with
  |nil=>simp[qo]at h
  |cons y s=>
   simp only[qo,kY,Ce]at h;rw[a h.2,show x=y by omega]
 rintro rfl;rfl
def rN(l b:cM)(e a:dV)(g c:Nat)(w:cI)(h:fN w e l)(f:fN w a b)(d:l.length<=100000):
 Calls V.prog 58 #[.slice e l.length g,.slice a b.length c] w (fM λv i=>v=.bool (decide (l=b))/\Ext w i):=by
 have:=Jk (qo l) (qo b) e a g c w h.ints f.ints (by simpa[qo]using d);have j:(qo l).length=l.length:=by simp[qo]
 have k:(qo b).length=b.length:=by simp[qo]
 rw[j,k]at this;simpa only[SU]using this
def GY(l a:List cM)(q i:dV)(y j:Nat)(w:cI)(C:wA w q l)(r:wA w i a)(z:l.length<=100000)(s:∀x∈l,x.length<=100000):
 Calls V.prog 71 #[.slice q l.length y,.slice i a.length j] w (fM λv p=>v=.bool (decide (l=a))/\Ext w p):=by
 refine jb Tryz.func71 Tryz.ntmps71 ?_;refine dm (dm (gQ ⟨λh=>?_,λh=>?_⟩));have h:¬l=a:=λe=>by subst e;simp at h
 exact⟨_,rfl,by simp[h],Ext.refl _⟩;have h:l.length=a.length:=by simp at h;omega
 refine fA l.length (λk (_:Unit)=>[(0,.slice q l.length y),(1,.slice i a.length j),(5,i64 k)]) (λk _ p=>Ext w p/\l.take k=a.take k) () ⟨by trivial,Ext.refl _,dt⟩ ?_;rintro k _ p I ⟨e,A⟩;refine dm (dK ⟨λd=>?_,λm=>?_⟩);have d:k<l.length:=eV d;have f:k<a.length:=cL;obtain⟨b,o,x,c,rfl,D,g,_⟩:=(C.ext e) k d;obtain⟨J,K,E,F,rfl,t,u,_⟩:=(r.ext e) k f;refine dD dC (gB k d (dl D (gB k f (dl t (ik (.bool (decide (l[k]=a[k]))) (λB n=>rN l[k] a[k] x E c F B (g.ext n) (u.ext n) (s _ (eB d))) (mY λB n=>⟨λg=>?_,λg=>?_⟩))))));have g:¬l[k]=a[k]:=eV g;have:¬l=a:=λe=>by subst e;exact g rfl
 exact⟨_,rfl,by simp[this],e.trans n⟩;have g:l[k]=a[k]:=eV g;refine cW ⟨d,(),by trivial,e.trans n,?_⟩;rw[iw d,iw f,A,g];have m:¬k<l.length:=eV m;have:l=a:=by have G:l.take k=l:=uM cL;have H:a.take k=a:=uM cL;rw[<-G,<-H,A]
 exact⟨_,rfl,by simp[this],e⟩
structure zf(w:cI)(gp mk ms:Nat)(G:Gd)(w':cI):Prop where
 g:qE gp mk ms G w'
 lo:w.heap.size<=gp/\w.heap.size<=mk/\w.heap.size<=ms
 km:w'.heap[mk]? =some (.map #[] 0)
 sm:w'.heap[ms]? =some (.map #[] 0)
theorem zf.ext{gp mk ms:Nat}(h:zf w gp mk ms H t)(a:Ext t e):zf w gp mk ms H e:=⟨h.g.ext a,h.lo,a.at_ h.km,a.at_ h.sm⟩
def zf.low{gp mk ms:Nat}(h:zf w gp mk ms H e)(a:Ext t w):zf t gp mk ms H e:=⟨h.g,zp a.size h.lo,h.km,h.sm⟩
def CO{dc:Nat}(h:gX w a H.doors)(b:H.doors.length<=100000):
 Calls V.prog 144 #[gV H a dc] w (fM λv d=>Ext w d/\((em H≠0/\v=.tuple #[.pointer none,.int .i64 (em H)])\/(em H=0/\∃c mk f,v=.tuple #[.pointer (some ⟨c,0,none⟩),.int .i64 0]/\zf w c mk f H d))):=by
 refine(Mz H a dc w h b).mono ?_;rintro e d ⟨v,rfl,i,j⟩;refine⟨v,rfl,i,j.imp id ?_⟩;rintro⟨k,c,mk,f,l,m,n,o,p,q,g⟩;exact⟨k,c,mk,f,l,m,⟨n,o,p⟩,q,g⟩
def eI(c:w.heap[k]? =some (.cells (gL H a m).toArray 24)){b:nB}(h:b (gV H a m) w):jL V.prog (Instr.loadAt 24 (.pointer (some ⟨k,0,none⟩))) w b:=
 ew (vs:=gL H a m) (λj v d=>by rw[dj];exact cN c (eV d)) h
def AL{dc:Nat}(k:gX w a H.doors)(b:H.doors.length<=100000){l:eY}{la:dV}{lc:Nat}(m:kD w la l)(n:l.length<=100000)(o:l.length<=lc):
 Calls V.prog 113 #[gV H a dc,.slice la l.length lc] w (fM λv i=>Ext w i/\((em H≠0/\v=.tuple #[.pointer none,.int .i64 (em H)])\/(em H=0/\∃d mk f,v=.tuple #[.pointer (some ⟨d,0,none⟩),.int .i64 (iZ H.doors.length l)]/\zf w d mk f H i))):=by
 refine jb Tryz.func113 Tryz.ntmps113 ?_;refine eH λr s c p q=>eI q (cX (CO (dc:=dc) (k.ext c) b) ?_);rintro v t ⟨h,⟨e,rfl⟩|⟨e,d,mk,f,rfl,j⟩⟩;exact gQ (jX (eV e) ⟨_,rfl,c.trans h,.inl ⟨e,rfl⟩⟩);exact gQ (lh dt (dH (CM j.g (m.ext (c.trans h)) n o) ⟨_,rfl,c.trans h,.inr ⟨e,d,mk,f,rfl,j.low c⟩⟩))
def nU(G:Gd)(l:eY):Int:=if em G=0 then iZ G.doors.length l else em G
def oX(a b:Int):dN:=[.int .i64 a,.int .i64 b]
def pQ{l:eY}(h:iZ m l=0):∃a:cM,l=qo a/\(∀d∈a,d<m):=by
 have e:∀(l b:eY),pP m b l=0->∃a:cM,l=qo a/\∀d∈a,d<m:=by
  intro l;induction l with
  |nil=>intro _ _;exact⟨[],rfl,λd c=>by cases c⟩
  |cons x r f=>
   intro b h;simp only[pP]at h;split at h;rename_i g;split at h;omega;have⟨a,i,j⟩:=f _ h;simp[l5]at g;refine⟨x.toNat::a,?_,λd c=>?_⟩;simp only[qo,kY,Ce];exact⟨cL,i⟩;obtain rfl|c:=eW.1 c;omega;exact j d c;omega
 exact e l [] h
def kD.GZ(h:kD w a (qo l)):fN w a l:=λk c=>by have⟨b,o,d,e⟩:=h k (by simpa[qo]using c);exact⟨b,o,d,by rw[e];simp[qo]⟩
def xA(G:Gd)(l:eY):cJ:=if nU G l=0 then .tuple #[.agg (oX (je G (l.map Int.toNat)) (iA G (l.map Int.toNat))).toArray,.int .i64 0]else .tuple #[.agg (oX 0 0).toArray,.int .i64 (nU G l)]
def MG{dc:Nat}(G:gX w a H.doors)(p:H.doors.length<=100000){l:eY}{la:dV}{lc:Nat}(C:kD w la l)(x:l.length<=100000)(I:l.length<=lc):
 Calls V.prog 44 #[gV H a dc,.slice la l.length lc] w (fM λv J=>v=xA H l/\Ext w J):=by
 refine jb Tryz.func44 Tryz.ntmps44 ?_;refine eH λS T i K L=>eS λM D m N q=>eI (m.at_ L) (cX (AL (dc:=dc) (G.ext (i.trans m)) p (C.ext (i.trans m)) x I) ?_);have r:∀(n:cI),Ext M n->nU H l≠0->∀k:dB,(∀d,Ext w d->Sem.run V.prog (loadVar 56 (dq D 0)) d=.ok (.agg (oX 0 0).toArray) d->k d)->Ed V.prog (Instr.storeAt 56 (dR D) (.agg (oX 0 0).toArray)) n k:=λn e b k O=>
  dI (e.at_ q) λd P y=>O d (((i.trans m).trans e).cS P (iD i.size)) (jr (oX 0 0) y λj v z=>by rw[dj];show(oX 0 0).toArray[j]? =some v;simpa using z)
 rintro v n ⟨e,⟨o,rfl⟩|⟨o,U,mk,W,rfl,E⟩⟩;have b:nU H l=em H:=by simp[nU,o]
 refine gQ (jX (eV o) (ez (.agg (oX 0 0).toArray) (r n e (by rw[b];exact o) _ λd f A=>⟨_,A,_,rfl,?_,f⟩)));rw[xA,b,cR o];rfl;have b:nU H l=iZ H.doors.length l:=by simp[nU,o]
 refine gQ ⟨λh=>?_,λh=>?_⟩;have h:¬iZ H.doors.length l=0:=fH h;refine ez (.agg (oX 0 0).toArray) (r n e (by rw[b];exact h) _ λd f A=>⟨_,A,_,rfl,?_,f⟩);rw[xA,b,cR h];rfl;have h:iZ H.doors.length l=0:=eV h;obtain⟨c,rfl,s⟩:=pQ h;have Q:(qo c).length=c.length:=by simp[qo]
 have t:=((C.ext (i.trans m)).ext e).GZ;have u:(qo c).map Int.toNat=c:=by simp[qo,zJ]
 rw[Q]at x⊢;refine ek (GX E.g s x t) λd f=>ek (Em (E.ext f).g s x (t.ext f)) λX F=>?_;refine ez (.agg (oX (je H c) (iA H c)).toArray) (dI (F.at_ (f.at_ (e.at_ q))) λY R B=>⟨_,jr (oX (je H c) (iA H c)) B λj v z=>by rw[dj];show(oX (je H c) (iA H c)).toArray[j]? =some v;simpa using z,_,rfl,?_,?_⟩);rw[xA,b,cT h,u];rfl;exact(((i.trans m).trans e).trans (f.trans F)).cS R (iD i.size)
def PL:List Dr:=[⟨0,3,5⟩,⟨0,8,2⟩,⟨1,5,4⟩,⟨1,2,6⟩]
def gM:Gd:=⟨2,4,1,40,3,2,PL⟩
def MH{a:List Dr}(h:w.heap[m]? =some (.cells (a.flatMap dL).toArray T)):gX w (some ⟨m,0,none⟩) a:=λk b=>by have⟨c,d,e⟩:=wu a k b;exact⟨m,0,rfl,cN h (by rw[dj];simpa using c),cN h (by rw[dj];simpa using d),cN h (by rw[dj];simpa using e)⟩
def PM(w:cI):Calls V.prog 95 #[] w (fM λv k=>Ext w k/\∃b,w.heap.size<=b/\v=gV gM (some ⟨b,0,none⟩) 4/\k.heap[b]? =some (.cells (PL.flatMap dL).toArray 81)):=by
 refine jb Tryz.func95 Tryz.ntmps95 ?_;refine eS λr d l e m=>ez (.agg (dL ⟨0,3,5⟩).toArray) (ez (.agg (dL ⟨0,8,2⟩).toArray) (ez (.agg (dL ⟨1,5,4⟩).toArray) (ez (.agg (dL ⟨1,2,6⟩).toArray) (er (PL.flatMap dL) 81 λs b n t f=>?_))));refine ez (gV gM (pt b 0) 4) (dI (n.at_ m) λg o c=>?_);have h:g.heap[d]? =some (.cells (gL gM (pt b 0) 4).toArray 24):=c.trans (dE (λa=>some (Obj.cells a 24)) (ee (pK 24).toArray (gL gM (pt b 0) 4) rfl));have p:Sem.run jS (loadVar 24 (dq d 0)) g=.ok (gV gM (pt b 0) 4) g:=jr (gL gM (pt b 0) 4) h λj v q=>by rw[dj];simpa using q
 clear c;have i:¬(b=d):=iD (dz.lt_of_heap m);refine⟨gV gM (pt b 0) 4,p,?_⟩;exact⟨_,rfl,(l.trans n).cS o e,b,iD l.size,rfl,o.fL f i⟩
structure Ty where
 door:Nat
 shift:Nat
 opened:Bool
def tL(t:Ty):dN:=[.int .i64 t.door,.int .i64 t.shift,.bool t.opened]
def PN:List Ty:=[⟨0,0,false⟩,⟨1,0,true⟩,⟨2,1,false⟩]
def MI(w:cI):Calls V.prog 96 #[] w (fM λv c=>Ext w c/\∃b,w.heap.size<=b/\v=.slice (some ⟨b,0,none⟩) 3 3/\c.heap[b]? =some (.cells (PN.flatMap tL).toArray 84)):=by refine jb Tryz.func96 Tryz.ntmps96 ?_;exact ez (.agg (tL ⟨0,0,false⟩).toArray) (ez (.agg (tL ⟨1,0,true⟩).toArray) (ez (.agg (tL ⟨2,1,false⟩).toArray) (er (PN.flatMap tL) 84 λf b d e a=>⟨_,rfl,d,b,e,rfl,a⟩)))
def Et(b:Int)(a:dV)(l c:Nat)(w:cI):Calls V.prog 97 #[.int .i64 b,.slice a l c] w (fM λv g=>v=.agg #[.int .i64 b,.slice a l c]/\Ext w g):=by
 refine jb Tryz.func97 Tryz.ntmps97 ?_;refine eS λp h i d k=>ez (.agg ([i64 b,.slice a l c]:dN).toArray) (dI k λf m e=>?_);have n:Sem.run jS (loadVar 29 (dq h 0)) f=.ok (.agg ([i64 b,.slice a l c]:dN).toArray) f:=jr _ e λj v o=>by rw[dj];show([i64 b,.slice a l c]:dN).toArray[j]? =some v;simpa using o
 exact⟨_,n,_,rfl,rfl,i.cS m d⟩
theorem xB:∀a:List Sx,(a.flatMap nL).length=a.length*8
 |[]=>rfl
 |x::r=>by have:=xB r;simp[nL,this];omega
theorem xC:∀(a:List Sx) (k:Nat) (b:k<a.length) (j:Nat) (v:cJ),(nL a[k])[j]? =some v->(a.flatMap nL)[k*8+j]? =some v
 |x::r,0,_,j,v,h=>by have c:j<(nL x).length:=(kX.1 h).1;simp only[oB,Nat.zero_mul,dj];rw[uJ c];exact h
 |x::r,k+1,b,j,v,h=>by have d:=xC r k (eV b) j v (eV h);have e:(nL x).length=8:=rfl;simp only[oB];rw[uK cL,e,show(k+1)*8+j-8=k*8+j by omega];exact d
structure oY(sb:Nat)(xs:List Sx)(w:cI):Prop where
 out:∃cs,w.heap[sb]? =some (.cells cs 166)/\xs.length*8<=cs.size/\∀k (h:k<xs.length) j v,(nL xs[k])[j]? =some v->cs[k*8+j]? =some v
def oY.row{a:List Sx}(h:oY m a w):vq w (some ⟨m,0,none⟩) a:=λk b=>by have⟨f,c,g,d⟩:=h.out;exact⟨m,0,rfl,λj v e=>cN c (by rw[dj];exact d k b j v e)⟩
def oY.ext{a:List Sx}(h:oY m a w)(e:Ext w t):oY m a t:=by have⟨b,c,d⟩:=h.out;exact⟨b,e.at_ c,d⟩
def oY.keep{a:List Sx}(h:oY m a w)(k:dA A w t)(b:¬A m):oY m a t:=by have⟨c,d,e⟩:=h.out;exact⟨c,k.fL d b,e⟩
def PO{b:List Sx}(h:oY m b w)(a o:Nat)(F:a<b.length)(c:k=a*8+o)(n:Sx)(G:o+x.cells.size<=8)
 (r:∀j u,(nL n)[j]? =some u->(if o<=j/\j<o+x.cells.size then x.cells.toList[j-o]? else(nL b[a])[j]?)=some u)
 (s:∀d,dA (λt=>t=m) w d->oY m (b.set a n) d->S d)(v:sD x.cells.toList=true:=by rfl)(y:Pq T=some x.cells.size:=by rfl):Ed V.prog (Instr.storeAt T (.pointer (some ⟨m,k,none⟩)) x) w S:=by
 subst c;have⟨z,A,B,p⟩:=h.out;have H:a*8+8<=z.size:=by have:=rm 8 (show a+1<=b.length by omega);omega
 refine jp A cL (λd C l=>s d C ⟨_,l,by rw[pO];simpa using B,λi D j u e=>?_⟩) (gK v) y;have E:j<8:=(kX.1 e).1;rw[oW _ _ _ _ pY];simp only[Array.length_toList];have f:i<b.length:=eV D;by_cases g:i=a;subst g;rw[List.getElem_set_self]at e;have:=r j u e;by_cases q:o<=j/\j<o+x.cells.size;rw[cT q]at this;rw[cT cL,show i*8+j-(i*8+o)=j-o by omega];exact this;rw[cR q]at this;rw[cR cL];exact p i f j u this;rw[List.getElem_set_ne cL]at e;rw[cR (by obtain h|h:=Nat.lt_or_gt_of_ne g;have:=rm 8 (show i+1<=a by omega);omega;have:=rm 8 (show a+1<=i by omega);omega)];exact p i f j u e
def leave1(a:List Sx)(d:Nat):List Sx:=match a[d]? with
 |some x=>a.set d {x with left:=true}
 |none=>a
def ki(a:List Sx)(l:cM):List Sx:=l.foldl leave1 a
def Jl(a:List Sx)(d:Nat):(leave1 a d).length=a.length:=by unfold leave1;split<;>simp
theorem rO:∀(l:cM) (a:List Sx),(ki a l).length=a.length
 |[],_=>rfl
 |d::r,a=>(rO r (leave1 a d)).trans (Jl a d)
def G0(a:List Sx)(l:cM)(k:Nat)(b:k<l.length):ki a (l.take (k+1))=leave1 (ki a (l.take k)) l[k]:=by rw[iw b];simp only[ki,si,mj,List.foldl_nil]
def vt(e:Nat)(w:cI)(v:cJ)(b:List Sx):Prop:=(b=[]/\∃a c,v=.slice a 0 c)\/∃d c,e<=d/\v=.slice (some ⟨d,0,none⟩) b.length c/\oY d b w
theorem vq.cells{w:cI}{a:dV}{c:List Sx}(h:vq w a c):iR w a (c.flatMap nL):=by
 obtain _|⟨x,r⟩:=c;exact .inl rfl;obtain⟨b,o,rfl,_⟩:=h 0 dt;refine .inr ⟨b,o,rfl,λj u g=>?_⟩;have m:j<(x::r).iN*8:=by rw[<-xB];exact(kX.1 g).1
 have i:j/8<(x::r).iN:=cL;have⟨n,p,e,q⟩:=h (j/8) i;obtain⟨rfl,rfl⟩:b=n/\o=p:=by injection e with e;injection e with s t;exact⟨s,t⟩
 have v:j%8<(nL (x::r)[j/8]).iN:=by show j%8<8;omega
 have k:=eZ v;have d:=xC (x::r) (j/8) i (j%8) _ k;have l:=q (j%8) _ k;have f:j/8*8+j%8=j:=cL;rw[f]at d;rw[g]at d;obtain rfl:=dQ d;have:o+j/8*8+j%8=o+j:=cL;rw[this]at l;exact l
def vq.tD{a:List Sx}(h:vq w none a):a.length=0:=by obtain _|⟨x,r⟩:=a;rfl;have⟨b,o,e,_⟩:=h 0 dt;cases e
def wB{c:List Sx}(h:vq w a c)(d:c.length<=1000000):Calls V.prog 154 #[.slice a c.length m] w (fM λv g=>Ext w g/\vt w.heap.size g v c):=by refine(PH a c.length m (c.flatMap nL) w (xB c) (λe=>by subst e;exact h.tD) h.cells (λu f=>?_) d).mono ?_;have⟨x,_,f⟩:=lq.1 f;simp[nL]at f;obtain rfl|rfl|rfl|rfl|rfl|rfl|rfl|rfl:=f<;>rfl;rintro e g ⟨v,rfl,i,B,⟨n,rfl⟩|⟨b,o,p,q,rfl,r,s,t,C,y,D⟩⟩;exact⟨_,rfl,i,.inl ⟨oA n,none,0,rfl⟩⟩;refine⟨_,rfl,i,.inr ⟨b,o,q,rfl,⟨p,r,?_,λk z j v A=>?_⟩⟩⟩;have:(pK 166).length=8:=rfl;rw[this]at s;have:=rm 8 t;omega;have l:=xC c k z j v A;rw[y _ (kX.1 l).1];exact l
def Jm{wp gp mk ms:Nat}{p:List Sx}(h:mK wp gp mk ms H p I w)(X:fN w a l)(Y:∀d∈l,d<p.length)(O:l.length<=100000):
 Calls V.prog 171 #[.pointer (some ⟨wp,0,none⟩),.slice a l.length m] w (fM λv r=>Ext w r/\∃z,v=.pointer (some ⟨z,0,none⟩)/\mK z gp mk ms H (ki p l) I r):=by
 have⟨Z,sc,h1,P,h3,h4⟩:=h.at_;have aa:p.length<=5:=zp h.len h.g.vN.many;refine jb Tryz.func171 Tryz.ntmps171 ?_;refine ew (vs:=[dR gp,.slice Z p.length sc,i64 I]) (λj v f=>?_) (eS λw1 D e1 A q=>dI q λJ k2 s=>?_);match j,f with
 |0,f=>cases f;exact h1
 |1,f=>cases f;exact P
 |2,f=>cases f;exact h3
 have E:Ext w J:=e1.cS k2 A;refine cO (E.cell P) (cX (wB (h4.ext E) cL) ?_);rintro v w3 ⟨Q,R⟩;have ab:=dz.lt_of_heap s;have i:v.oneCell'=true/\v.cells=#[v]:=by obtain⟨_,S,c,rfl⟩|⟨B,c,_,rfl,_⟩:=R<;>exact⟨rfl,rfl⟩
 refine jp (Q.at_ s) (by rw[i.2];exact qH rfl) (λK T t=>?_) (by rw[i.2];simpa using i.1) (by rw[i.2];rfl);rw[i.2]at t;have L:fC K D #[dR gp,v,i64 I] 141:=t;clear t s;have e4:Ext w K:=(E.trans Q).cS T A;have M:vt J.heap.size K v p:=by obtain h|⟨B,c,F,g2,C⟩:=R;exact .inl h;exact .inr ⟨B,c,F,g2,C.keep T cL⟩
 refine dm (ft (n:=l.length) (λk=>[(5,dR D),(17,.slice a l.length m),(18,i64 l.length),(19,i64 k)]) (λk r=>Ext w r/\fC r D #[dR gp,v,i64 I] 141/\vt J.heap.size r v (ki p (l.take k))) ⟨by trivial,e4,L,by simpa[ki]using M⟩ ?_ ?_ ?_);rintro k r x hJ;exact dK ⟨rfl,rfl,by trivial,hJ⟩;rintro k r x ⟨e,q,G⟩;obtain⟨b,o,rfl,hc⟩:=(X.ext e) k x;have U:=Y _ (eB x);obtain⟨N,_⟩|⟨B,c,F,rfl,C⟩:=G;have:=dE List.length N;rw[rO]at this;simp at this;subst this;simp at U;have y:l[k]<(ki p (l.take k)).length:=by rw[rO];exact U
 refine eX k x (cO hc (cO (cN q rfl) (fE l[k] 8 y (PO C l[k] 7 y cL {(ki p (l.take k))[l[k]]with left:=true} kA (λj u f=>?_) (λw5 W g5=>cW ⟨by trivial,e.cS W (iD E.size),W.fL q cL,?_⟩)))));match j,f with
 |0,f=>exact f
 |1,f=>exact f
 |2,f=>exact f
 |3,f=>exact f
 |4,f=>exact f
 |5,f=>exact f
 |6,f=>exact f
 |7,f=>exact f
 rw[G0 p l k x];have he:leave1 (ki p (l.take k)) l[k]=(ki p (l.take k)).set l[k] {(ki p (l.take k))[l[k]]with left:=true}:=by unfold leave1;rw[eZ y]
 rw[he];exact .inr ⟨B,c,F,by rw[qG],g5⟩;rintro r ⟨e,q,G⟩;rw[jN]at G;refine⟨_,rfl,e,D,rfl,h.g.ext e,by rw[rO];exact h.len,h.bf,?_⟩;obtain⟨N,S,c,rfl⟩|⟨B,c,F,rfl,C⟩:=G;rw[N];exact⟨S,c,cN q rfl,cN q rfl,cN q rfl,λk x=>by simp at x⟩;exact⟨_,c,cN q rfl,cN q rfl,cN q rfl,C.row⟩
def G1(s:Nat)(w:cI):Calls V.prog 167 #[.int .i64 s] w (fM λv a=>v=.bool (decide (s%2=0))/\a=w):=by refine jb Tryz.func167 Tryz.ntmps167 ?_;exact tC (m:=s) (n:=2) cL (fc ⟨_,rfl,by congr 1;simp;omega,rfl⟩)
def G2(s:Nat)(w:cI):Calls V.prog 168 #[.int .i64 s] w (fM λv a=>v=.bool (decide (s%2=1))/\a=w):=by refine jb Tryz.func168 Tryz.ntmps168 ?_;exact tC (m:=s) (n:=2) cL (fc ⟨_,rfl,by congr 1;simp;omega,rfl⟩)
def Uw(c:cJ)(p:Nat->Bool):Prop:=∃g first a,c=.func (.func g) first a/\(∀b w,Sem.run V.prog (callFunc g b) w=.ok (.enter g b) w)/\∀(n:Nat) w,Calls V.prog g (first.toList++([Value.int .i64 n]++a.toList)).toArray w (fM λv d=>v=.bool (p n)/\d=w)
def rP(p:Nat->Bool):cM->Nat->Int
 |[],_=> -1
 |y::r,i=>if p y then i else rP p r (i+1)
def G3(p:Nat->Bool)(l:cM)(k:Nat)(a:k<l.length):rP p (l.drop k) k=if p l[k]then(k:Int)else rP p (l.drop (k+1)) (k+1):=by rw[pz a];rfl
theorem AM(p:Nat->Bool):∀(l:cM) (i:Nat),decide (0<=rP p l i)=l.any p
 |[],_=>rfl
 |y::r,i=>by simp only[rP,List.any_cons];by_cases h:p y=true;simp[h];have h:p y=false:=eV h;simpa[h]using AM p r (i+1)
def B3{p:Nat->Bool}(r:Uw x p)(l:cM)(f:dV)(m:Nat)(w:cI)(s:fN w f l)(q:l.length<=100000):Calls V.prog 195 #[.slice f l.length m,x] w (fM λv c=>v=.int .i64 (rP p l 0)/\c=w):=by obtain⟨g,first,i,rfl,j,t⟩:=r;refine jb Tryz.func195 Tryz.ntmps195 ?_;refine dm (ft (n:=l.length) (λk=>[(0,.slice f l.length m),(1,.func (.func g) first i),(7,i64 l.length),(8,i64 k)]) (λk c=>c=w/\rP p l 0=rP p (l.drop k) k) ⟨by trivial,rfl,rfl⟩ ?_ ?_ ?_);rintro k c e ⟨rfl,a⟩;exact dK ⟨rfl,rfl,by trivial,rfl,a⟩;rintro k c e ⟨rfl,a⟩;obtain⟨b,o,rfl,d⟩:=s k e;rw[G3 p l k e]at a;refine eX k e (cO d (dH (t l[k] c) ⟨λh=>?_,λh=>?_⟩ j));rw[cT h]at a;exact⟨_,rfl,by rw[a];rfl,rfl⟩;rw[h]at a;exact cW ⟨by trivial,rfl,a⟩;rintro c ⟨rfl,a⟩;exact⟨_,rfl,by rw[a];simp[rP],rfl⟩
def qU{p:Nat->Bool}(d:Uw x p)(l:cM)(b:dV)(c:Nat)(w:cI)(e:fN w b l)(a:l.length<=100000):Calls V.prog 166 #[.slice b l.length c,x] w (fM λv f=>v=.bool (l.any p)/\f=w):=by refine jb Tryz.func166 Tryz.ntmps166 ?_;exact dH (B3 d l b c w e a) (wo ⟨_,rfl,by rw[<-AM p l 0];rfl,rfl⟩)
def Vp:Obj->Bool
 | .map .. =>true
 |_=>false
structure jH(n0:Nat)(w w':cI):Prop where
 os:w'.os=w.os
 tape:w'.tape=w.tape
 output:w'.output=w.output
 size:w.heap.size<=w'.heap.size
 drawn:w.drawn<=w'.drawn
 block:∀b o,w.heap[b]? =some o->(b<n0\/Vp o=false)->w'.heap[b]? =some o
section
variable{n0:Nat}{w w' w0 w1 w2:cI}
def jH.refl(n0:Nat)(w:cI):jH n0 w w:=⟨rfl,rfl,rfl,dg _,dg _,cK⟩
theorem jH.trans{a b c:cI}(h:jH n0 a b)(k:jH n0 b c):jH n0 a c:=
 ⟨k.os.trans h.os,k.tape.trans h.tape,k.output.trans h.output,dw h.size k.size,dw h.drawn k.drawn,λx o e d=>k.block x o (h.block x o e d) d⟩
def Ext.iF(h:Ext w w')(n0:Nat):jH n0 w w':=⟨h.os,h.tape,h.output,h.size,h.drawn,λb o a _=>h.at_ a⟩
def jH.ext(h:jH n0 w w')(d:w.heap.size<=n0):Ext w w':=⟨h.os,h.tape,h.output,h.size,h.drawn,λb c=>by have a:w.heap[b]? =some w.heap[b]:=nw c;rw[a];exact h.block b _ a cK⟩
def jH.from(h:jH n0 w w')(e:Ext w0 w)(a:w0.heap.size<=n0):Ext w0 w':=((e.iF n0).trans h).ext a
def jH.low{a:Nat}(h:jH n0 w w')(d:a<=n0):jH a w w':=⟨h.os,h.tape,h.output,h.size,h.drawn,λb o c e=>h.block b o c cK⟩
def jH.at_(h:jH n0 w w'){b:Nat}{a:eF}{t:cQ}{c:Nat×Nat}(d:w.heap[b]? =some (.cells a t c)):w'.heap[b]? =some (.cells a t c):=h.block b _ d (.inr rfl)
def jH.cell(b:jH n0 w w'){v:cJ}(a:w.cell? h=some v):w'.cell? h=some v:=by unfold World.cell? at a⊢;split at a;rename_i d t e c;rw[b.at_ c];grind;grind
def jH.cS{b:Nat}(h:jH n0 w w1)(k:dA (λx=>x=b) w1 w2)(e:w.heap.size<=b):jH n0 w w2:=
 ⟨k.os.trans h.os,k.tape.trans h.tape,k.output.trans h.output,dw h.size k.size,dw h.drawn k.drawn,λx o c d=>by have a:=dz.lt_of_heap c;exact(k.block x (ep a h.size) cL).trans (h.block x o c d)⟩
def jH.iI{c:Nat}{v:cJ}{t:cQ}{e f:dN}{a:Nat}(h:jH n0 w w1)(k:dA (cV v) w1 w2)(g:cZ c t e w1 v a f)(l:w.heap.size<=c):jH n0 w w2:=
 ⟨k.os.trans h.os,k.tape.trans h.tape,k.output.trans h.output,dw h.size k.size,dw h.drawn k.drawn,λx o d i=>by have b:=dz.lt_of_heap d;exact(k.block x (ep b h.size) λj=>iD ((g.blk j).1)).trans (h.block x o d i)⟩
def kD.iF{l:eY}(h:kD w a l)(e:jH n0 w w'):kD w' a l:=λk c=>by have⟨b,o,d,f⟩:=h k c;exact⟨b,o,d,e.cell f⟩
def gX.iF{l:List Dr}(h:gX w a l)(e:jH n0 w w'):gX w' a l:=λk c=>by have⟨b,o,d,f,g,i⟩:=h k c;exact⟨b,o,d,e.cell f,e.cell g,e.cell i⟩
def oV.iF{a:Nat}{C:Nat->cJ}(h:oV a C w)(e:jH n0 w w'):oV a C w':=by have⟨b,c,d,f⟩:=h.out;exact⟨b,e.at_ c,d,f⟩
theorem qE.iF{gp mk ms:Nat}(h:qE gp mk ms H w)(e:jH n0 w w'):qE gp mk ms H w':=by have⟨a,b,c,d,f,g⟩:=h.at_;exact⟨⟨a,b,c,d.iF e,f.iF e,e.cell g⟩,h.ok,ep h.mlt e.size,ep h.slt e.size,h.ne,h.gk⟩
def fN.iF{l:cM}(h:fN w a l)(e:jH n0 w w'):fN w' a l:=λk c=>by have⟨b,o,d,f⟩:=h k c;exact⟨b,o,d,e.cell f⟩
def cZ.iF{d:Nat}{t:cQ}{f:dN}{v:cJ}{a:Nat}{g:dN}(h:cZ d t f w v a g)(e:jH n0 w w'):cZ d t f w' v a g:=by obtain⟨i,h|⟨b,c,j,k,l,m,n⟩⟩:=h;exact⟨i,.inl h⟩;exact⟨i,.inr ⟨b,c,j,k,l,e.at_ m,n⟩⟩
theorem wA.iF{c:List cM}(h:wA w a c)(e:jH n0 w w'):wA w' a c:=λk d=>by have⟨b,o,f,g,i,j,l,m⟩:=h k d;exact⟨b,o,f,g,i,e.cell j,l.iF e,m⟩
theorem fe.iF{a:Nat}{v:cJ}{b:List cM}(h:fe a w v b)(e:jH n0 w w'):fe a w' v b:=by have⟨c,d,f,g⟩:=h;refine⟨c,d.iF e,f,λk i=>?_⟩;have⟨u,j,l⟩:=g k i;exact⟨u,j,cZ.iF l e⟩
def vq.iF{c:List Sx}(h:vq w a c)(e:jH n0 w w'):vq w' a c:=λk d=>by have⟨b,o,f,g⟩:=h k d;exact⟨b,o,f,λj v i=>e.cell cK⟩
theorem mK.iF{wp gp mk ms:Nat}{a:List Sx}(h:mK wp gp mk ms H a I w)(e:jH n0 w w'):mK wp gp mk ms H a I w':=by have⟨b,c,d,f,i,j⟩:=h.at_;exact⟨h.g.iF e,h.len,h.bf,b,c,e.cell d,e.cell f,e.cell i,j.iF e⟩
def iR.iF{c:dN}(h:iR w a c)(e:jH n0 w w'):iR w' a c:=by obtain h|⟨b,o,d,f⟩:=h;exact .inl h;exact .inr ⟨b,o,d,λj u g=>e.cell cK⟩
def oY.iF{a:Nat}{b:List Sx}(h:oY a b w)(e:jH n0 w w'):oY a b w':=by have⟨c,d,f⟩:=h.out;exact⟨c,e.at_ d,f⟩
end
structure mA(key:Nat->cJ)(R:Nat->cJ->cI->Prop)(r:Nat)(w:cI):Prop where
 out:∃es clock,w.heap[r]? =some (.map es clock)/\∀e∈es.toList,∃s,s<32/\e.key=key s/\R s e.val w
def mA.iF{key:Nat->cJ}{R:Nat->nB}{r n0:Nat}{w w':cI}(h:mA key R r w)(e:jH n0 w w')(f:∀s v,R s v w->R s v w')(a:w'.heap[r]? =w.heap[r]?):mA key R r w':=by have⟨c,b,d,g⟩:=h.out;exact⟨c,b,a.trans d,cK⟩
structure CP(kt:cQ)(key:Nat->cJ):Prop where
 check:∀e s w,s<32->Sem.run V.prog (Instr.checkKey e 10000 kt (key s)) w=.ok () w
 find:∀s (es:List MapEntry),s<32->(∀e∈es,∃s',s'<32/\e.key=key s')->
  ∃o,(∀w,Sem.run V.prog (Instr.findKey kt (key s) es) w=.ok o w)/\(o=none\/∃j e,es[j]? =some e/\e.key=key s/\o=some (j,e.val))
 stays:∀s w,s<32->Sem.run V.prog (Instr.keyThatStays (key s) (key s)) w=.ok (key s) w
 inj:∀s s',s<32->s'<32->key s=key s'->s=s'
section
variable{w:cI}{k:cJ->cI->Prop}{kt et t:cQ}{key:Nat->cJ}{R:Nat->cJ->cI->Prop}{r:Nat}
def vu{b:Array MapEntry}{a:Nat}(h:w.heap[r]? =some (.map b a)):Sem.run V.prog (getObj r) w=.ok (.map b a) w:=by simp[getObj,Sem.run,h]
def KZ(K:CP kt key)(f:Tryz.prog.underlying t=some (.map kt et)){z:cJ}(g:∀w,Sem.run V.prog (zeroValue et) w=.ok z w)(h:mA key R r w){s:Nat}(b:s<32):∃a,((∃v,a=.tuple #[v,.bool true]/\R s v w)\/a=.tuple #[z,.bool false])/\∀w1,(∀o,w.heap[r]? =some o->w1.heap[r]? =some o)->Sem.run V.prog (Instr.lookup t (.map (some r)) (key s) true) w1=.ok a w1:=by
 have⟨i,c,k,d⟩:=h.out;have⟨o,l,m⟩:=K.find s i.toList b cK;refine⟨.tuple #[(o.map (·.2)).getD z,.bool o.isSome],?_,λw1 n=>?_⟩;obtain rfl|⟨j,e,q,u,rfl⟩:=m;grind;have⟨x,y,A,B⟩:=d e (pA q);obtain rfl:=K.inj s x b y (u.symm.trans A);grind;unfold Instr.lookup;simp only[Sem.run_bind,iz f,Result.andThen_ok,vu (n _ k),Sem.run_pure,K.check _ s w1 b,l];cases o with
 |none=>simp only[Sem.run_bind,g,Result.andThen_ok,Sem.run_pure,ej,Option.map_none,Option.getD_none,xf]
 |some p=>simp
def MJ(K:CP kt key)(c:Tryz.prog.underlying t=some (.map kt et)){z:cJ}(d:∀w,Sem.run V.prog (zeroValue et) w=.ok z w)(h:mA key R r w){s:Nat}(e:s<32) (f:∀v,R s v w->k (.tuple #[v,.bool true]) w)(g:k (.tuple #[z,.bool false]) w):jL V.prog (Instr.lookup t (.map (some r)) (key s) true) w k:=by have⟨a,i,b⟩:=KZ K c d h e;refine⟨a,w,cK,?_⟩;grind
def wC{B:dB}(K:CP kt key)(L:Tryz.prog.underlying t=some (.map kt et))(h:mA key R r w){s:Nat}(m:s<32){v:cJ}{n0:Nat}(hn:n0<=r) (N:∀w',jH n0 w w'->(∀s u,R s u w->R s u w')/\R s v w') (O:∀w',jH n0 w w'->(∀b,b≠r->w'.heap[b]? =w.heap[b]?)->mA key R r w'->B w'):Ed V.prog (Instr.mapUpdate t (.map (some r)) (key s) v) w B:=by
 have⟨g,c,n,p⟩:=h.out;have C:=dz.lt_of_heap n;have f:∀(a:Array MapEntry) (d:Nat),jH n0 w (w.putObj r (.map a d))/\(∀b,b≠r->(w.putObj r (.map a d)).heap[b]? =w.heap[b]?)/\(w.putObj r (.map a d)).heap[r]? =some (.map a d)/\Sem.run jS (setObj r (.map a d)) w=.ok () (w.putObj r (.map a d)):=λa d=>by refine⟨⟨rfl,rfl,rfl,dt,dg _,λb o q k=>?_⟩,λb q=>World.putObj_heap_other q,World.putObj_heap_same C,by simp[setObj,Sem.run,n,World.putObj]⟩;by_cases e:b=r;subst e;rw[n]at q;obtain rfl:=dQ q;obtain k|k:=k;omega;cases k;exact(World.putObj_heap_other e).trans q
 have y:∀(a:Array MapEntry) (d:Nat),(∀e∈a.toList,e∈g.toList\/(e.key=key s/\e.val=v))->Sem.run jS (Instr.mapUpdate t (.map (some r)) (key s) v) w=.ok () (w.putObj r (.map a d))->Ed jS (Instr.mapUpdate t (.map (some r)) (key s) v) w B:=λa d l z=>by have⟨M,P,Q,_⟩:=f a d;have⟨S,T⟩:=N _ M;refine⟨_,z,O _ M P ⟨a,d,Q,λe U=>?_⟩⟩;obtain h|⟨W,X⟩:=l e U;have⟨D,E,F,Y⟩:=p e h;exact⟨D,E,F,S _ _ Y⟩;exact⟨s,m,W,by rw[X];exact T⟩
 have⟨o,k,Z⟩:=K.find s g.toList m λe l=>by have⟨D,E,F,_⟩:=p e l;exact⟨D,E,F⟩
 obtain rfl|⟨j,e,hj,A,rfl⟩:=Z;refine y (g.push {key:=key s,val:=v,born:=c}) (c+1) (λe l=>?_) ?_;simp only[Array.toList_push,jy,iv]at l;obtain h|rfl:=l;exact .inl h;exact .inr ⟨rfl,rfl⟩;unfold Instr.mapUpdate;simp only[Sem.run_bind,iz L,Result.andThen_ok,vu n,K.check _ s w m,k,(f _ _).2.2.2];refine y (g.modify j λe=>{e with key:=key s,val:=v}) c (λx G=>?_) ?_;have⟨i,hi,G⟩:=List.getElem_of_mem G;have H:i<g.size:=eV hi;have:(g.modify j λe=>{e with key:=key s,val:=v})[i]'(eV H)=x:=by rw[<-G];exact(Array.getElem_toList _)
 rw[Array.getElem_modify]at this;split at this;subst this;exact .inr ⟨rfl,rfl⟩;subst this;exact .inl dt;have I:=K.stays s w m;have J:g[j]? =some e:=eV hj;unfold Instr.mapUpdate;simp only[Sem.run_bind,iz L,Result.andThen_ok,vu n,K.check _ s w m,k,J,mn,kG,A,I,(f _ _).2.2.2]
end
end Go.Proofs.W
namespace Go.Proofs.W
def oZ(l:cM):Nat->cM->List Bool->List cM
 |0,b,_=>[b]
 |n+1,b,a=>(List.range l.length).flatMap λi=>if a.getD i false then []else oZ l n (b++[l.getD i 0]) (a.set i true)
def oe(l:cM):List cM:=oZ l l.length [] (List.replicate l.length false)
def fD(G:Gd)(b:cM×Int)(a:cM):cM×Int:=if b.2<0\/mJ G a<b.2 then(a,mJ G a)else b
def it(G:Gd)(rows:List cM):cM×Int:=rows.foldl (fD G) ([],-1)
def dF(G:Gd)(s:Nat):cM:=(it G (oe (eh s))).1
def l8(G:Gd)(s:Nat):Bool:=decide (iA G (dF G s)<=G.minutes)
def fB(G:Gd)(most:Nat):cM->cM->Option cM
 |[],a=>some a
 |d::r,a=>
  match(List.range a.length).findSome? λi=>if l8 G (ot (a.getD i 0) d)then fB G most r (a.set i (ot (a.getD i 0) d))else none with
  |some b=>some b
  |none=>if a.length<most/\l8 G (eo [d])=true then fB G most r (a++[eo [d]])else none
def fh(G:Gd)(s:Nat):Option (List cM):=
 if s=0 then some []else((List.range (eh s).length).findSome? λm=>fB G (m+1) (eh s) []).map λa=>a.map (dF G)
end Go.Proofs.W
namespace Go.Proofs.W
open Go.RowKit
def PP:Tryz.prog.underlying 181=some (.map 154 27):=dt
def PQ:Tryz.prog.underlying 180=some (.map 217 220):=dt
def MK(s:Nat):cJ:=.int .u8 s
def qp(s:Nat):cJ:=.agg (rM s).toArray
def ZG(a b c d i e f g h j:Bool)(w:cI):Sem.run V.prog (Op.equal 217 (.agg #[.bool a,.bool b,.bool c,.bool d,.bool i]) (.agg #[.bool e,.bool f,.bool g,.bool h,.bool j])) w=.ok (a==e&&(b==f&&(c==g&&(d==h&&i==j)))) w:=by
 by_cases k:a=e;subst k;by_cases l:b=f;subst l;by_cases m:c=g;subst m;by_cases n:d=h;subst n;cases a<;>cases b<;>cases c<;>cases d<;>cases i<;>cases j<;>kernel_rfl;cases a<;>cases b<;>cases c<;>cases d<;>cases h<;>first|exact absurd rfl n|kernel_rfl
 cases a<;>cases b<;>cases c<;>cases g<;>first|exact absurd rfl m|kernel_rfl
 cases a<;>cases b<;>cases f<;>first|exact absurd rfl l|kernel_rfl
 cases a<;>cases e<;>first|exact absurd rfl k|kernel_rfl
def Ux:∀s:Nat,s<32->∀a:Nat,a<32->(s.testBit 0==a.testBit 0&&(s.testBit 1==a.testBit 1&&(s.testBit 2==a.testBit 2&&(s.testBit 3==a.testBit 3&&s.testBit 4==a.testBit 4))))=decide (s=a):=cK
def SW(s a:Nat)(c:s<32)(b:a<32)(w:cI):Sem.run V.prog (Op.equal 217 (qp s) (qp a)) w=.ok (decide (s=a)) w:=by rw[<-Ux s c a b];exact ZG _ _ _ _ _ _ _ _ _ _ w
def PS{s a:Nat}(c:s<32)(b:a<32)(h:qp s=qp a):s=a:=by have:=Ux s c a b;simp only[qp,rM,Value.agg.injEq]at h;grind
def Eu:CP 154 MK:=by
 have d:Tryz.prog.underlying 154=some (.int .u8):=dt;have f:∀(s:Nat) (a:List MapEntry) (i:Nat),(∀e∈a,∃b,b<32/\e.key=MK b)->Instr.findNow (.int .u8) (MK s) a i=some none\/∃j e,a[j]? =some e/\e.key=MK s/\Instr.findNow (.int .u8) (MK s) a i=some (some (i+j,e.val)):=by
  intro s a;induction a with
  |nil=>intro i _;exact .inl rfl
  |cons e r p=>
   intro i h;have⟨b,_,k⟩:=h e fF;have q:Instr.sameNow (.int .u8) (MK s) e.key=some ((s:Int)==(b:Int)):=by rw[k];rfl
   unfold Instr.findNow;rw[q];by_cases t:s=b;subst t;exact .inr ⟨0,e,rfl,k,dt⟩;have:((s:Int)==(b:Int))=false:=cK;rw[this];obtain l|⟨j,x,l,m,n⟩:=p (i+1) cK;grind;exact .inr ⟨j+1,x,cK,m,cK⟩
 refine⟨λe s w _=>eE,λs a u g=>?_,λs w u=>?_,λs b _ _ h=>?_⟩;have c:∀o w,Instr.findNow (.int .u8) (MK s) a 0=some o->Sem.run jS (Instr.findKey 154 (MK s) a) w=.ok o w:=λo w v=>by unfold Instr.findKey;simp only[Sem.run_bind,iz d,Result.andThen_ok,v,Sem.run_pure]
 obtain h|⟨j,e,l,m,n⟩:=f s a 0 g;exact⟨_,cK,.inl rfl⟩;exact⟨_,λw=>c _ w n,cK⟩;unfold Instr.keyThatStays;have:Instr.sameBits 10000 (MK s) (MK s)=true:=by simp[MK,Instr.sameBits]
 rw[cT this,Sem.run_pure];simp only[MK,Value.int.injEq,true_and]at h;omega
def PT:CP 217 qp:=by
 have f:Tryz.prog.underlying 217=some (.array 5 4):=eE;have n:∀(s:Nat) (a:List MapEntry) (i:Nat),s<32->(∀e∈a,∃b,b<32/\e.key=qp b)->∃o,(∀w,Sem.run jS (Instr.findAsking 217 (qp s) a i) w=.ok o w)/\(o=none\/∃j e,a[j]? =some e/\e.key=qp s/\o=some (i+j,e.val)):=by
  intro s a;induction a with
  |nil=>intro i _ _;exact⟨none,λw=>by simp[Instr.findAsking],.inl rfl⟩
  |cons e r z=>
   intro i c h;have⟨b,d,m⟩:=h e fF;have p:=λw=>SW s b c d w;rw[<-m]at p;by_cases g:s=b;subst g;exact⟨some (i,e.val),λw=>by unfold Instr.findAsking;simp only[Sem.run_bind,p,Result.andThen_ok,decide_true,ej,Sem.run_pure],.inr ⟨0,e,rfl,m,rfl⟩⟩
   have step:∀w,Sem.run jS (Instr.findAsking 217 (qp s) (e::r) i) w=Sem.run jS (Instr.findAsking 217 (qp s) r (i+1)) w:=λw=>by
    conv=>lhs;unfold Instr.findAsking
    simp only[Sem.run_bind,p,Result.andThen_ok,g,decide_false,iH,fj]
   have⟨o,q,t⟩:=z (i+1) c λx A=>h x (ii _ A);refine⟨o,λw=>(step w).trans (q w),t.imp (λh=>h) ?_⟩;rintro⟨j,x,u,v,y⟩;exact⟨j+1,x,eV u,v,by rw[y];congr 2;omega⟩
 refine⟨λe s w _=>eE,λs a c k=>?_,λs w c=>?_,λs b c d h=>PS c d h⟩;cases a with
 |nil=>exact⟨none,λw=>by unfold Instr.findKey;simp only[Sem.run_bind,iz f,Result.andThen_ok,Instr.findNow,Sem.run_pure],.inl rfl⟩
 |cons e r=>
  have⟨b,_,m⟩:=k e fF;have B:Instr.findNow (.array 5 4) (qp s) (e::r) 0=none:=by unfold Instr.findNow;rw[m];rfl
  have l:∀w,Sem.run jS (Instr.findKey 217 (qp s) (e::r)) w=Sem.run jS (Instr.findAsking 217 (qp s) (e::r)) w:=λw=>by unfold Instr.findKey;simp only[Sem.run_bind,iz f,Result.andThen_ok,B]
  have⟨o,q,t⟩:=n s (e::r) 0 c k;refine⟨o,λw=>(l w).trans (q w),t.imp (λh=>h) ?_⟩;rintro⟨j,x,u,v,y⟩;exact⟨j,x,u,v,by rw[y,dj]⟩
 unfold Instr.keyThatStays;have:Instr.sameBits 10000 (qp s) (qp s)=true:=by simp[qp,rM,Instr.sameBits]
 rw[cT this,Sem.run_pure]
def iJ(A:dn)(w:cI)(a:dV)(l:cM):Prop:=∀k (h:k<l.length),∃b o,¬A b/\a=some ⟨b,o,none⟩/\w.cell? ⟨b,o+k,none⟩=some (.int .i64 l[k])
def mQ(A:dn)(w:cI)(a:dV)(ls:List cM):Prop:=∀k (h:k<ls.length),∃b o c d,¬A b/\a=some ⟨b,o,none⟩/\w.cell? ⟨b,o+k,none⟩=some (.slice c ls[k].length d)/\iJ A w c ls[k]/\ls[k].length<=d
def o8{w:cI}{b o:Nat}(h:w.cell? ⟨b,o,none⟩=some x):b<w.heap.size:=by refine zM λa=>?_;have:w.heap[b]? =none:=uI a;simp[World.cell?,this]at h
section
variable{A A':Nat->Prop}{w w':cI}{a:Option Addr}{l:List Nat}{ls:List (List Nat)}{n0:Nat}
theorem iJ.n(h:iJ A w a l):fN w a l:=λk c=>by have⟨b,o,_,d,e⟩:=h k c;grind
theorem mQ.rows(h:mQ A w a ls):wA w a ls:=λk c=>by have⟨b,o,d,e,_,f,g,i,j⟩:=h k c;exact⟨b,o,d,e,f,g,i.n,j⟩
theorem iJ.go(h:iJ A w a l)(f:∀b,A' b->A b\/w.heap.size<=b)(g:∀b o v,¬A b->w.cell? ⟨b,o,none⟩=some v->w'.cell? ⟨b,o,none⟩=some v):iJ A' w' a l:=λk c=>by have⟨b,o,i,d,e⟩:=h k c;refine⟨b,o,λj=>?_,d,cK⟩;have:=o8 e;grind
theorem mQ.go(h:mQ A w a ls)(c:∀b,A' b->A b\/w.heap.size<=b)(d:∀b o v,¬A b->w.cell? ⟨b,o,none⟩=some v->w'.cell? ⟨b,o,none⟩=some v):mQ A' w' a ls:=λk e=>by have⟨b,o,f,g,n,i,j,l,m⟩:=h k e;refine⟨b,o,f,g,λp=>?_,i,cK,l.go c d,m⟩;have:=o8 j;grind
theorem iJ.iF(h:iJ A w a l)(e:jH n0 w w'):iJ A w' a l:=h.go cK λ_ _ _ _ b=>e.cell b
theorem mQ.iF(h:mQ A w a ls)(e:jH n0 w w'):mQ A w' a ls:=h.go cK λ_ _ _ _ b=>e.cell b
theorem iJ.more(h:iJ A w a l)(c:∀b,A' b->A b\/w.heap.size<=b):iJ A' w a l:=h.go c cK
theorem mQ.more(h:mQ A w a ls)(c:∀b,A' b->A b\/w.heap.size<=b):mQ A' w a ls:=h.go c cK
theorem eK.Vq{d:Nat}(h:eK d w x l)(j:∀b,A b->b<d):∃a c,x=.slice a l.length c/\iJ A w a l/\l.length<=c:=by obtain⟨m,⟨n,rfl⟩|⟨b,c,o,p,rfl,f,q,g,r,i,s⟩⟩:=h;exact⟨none,0,cK,λk e=>cL,cL⟩;refine⟨_,c,rfl,λk e=>⟨b,0,cK,rfl,?_⟩,g⟩;refine cN f ?_;rw[dj,i k cK];simp[gm,eZ e]
end
def ShR(A:dn)(G:Gd)(s:Nat)(v:cJ)(w:cI):Prop:=∃a c,v=.slice a (dF G s).length c/\iJ A w a (dF G s)/\(dF G s).length<=c
def ML(A:dn)(o:Option (List cM))(v:cJ)(b:Bool)(w:cI):Prop:=match o with
 |none=>v=.slice none 0 0/\b=false
 |some ls=>b=true/\∃a c,v=.slice a ls.length c/\mQ A w a ls/\ls.length<=c
def Xv(A:dn)(G:Gd)(s:Nat)(v:cJ)(w:cI):Prop:=∃u b,v=.agg #[u,.bool b]/\ML A (fh G s) u b w
structure mg(A:Nat->Prop)(mk ms:Nat)(G:Gd)(w:cI):Prop where
 s:mA MK (ShR A G) ms w
 k:mA qp (Xv A G) mk w
 ak:¬A mk
 asm:¬A ms
section
variable{A A':Nat->Prop}{w w' w1 w2:cI}{G:Gd}{mk ms n0:Nat}
theorem ShR.go{s:Nat}(h:ShR A G s x w)(d:∀b,A' b->A b\/w.heap.size<=b)(e:∀b o x,¬A b->w.cell? ⟨b,o,none⟩=some x->w'.cell? ⟨b,o,none⟩=some x):ShR A' G s x w':=by have⟨a,c,f,g,i⟩:=h;exact⟨a,c,f,g.go d e,i⟩
theorem ML.go{o:Option (List cM)}{b:Bool}(h:ML A o x b w)(d:∀b,A' b->A b\/w.heap.size<=b)(e:∀b o x,¬A b->w.cell? ⟨b,o,none⟩=some x->w'.cell? ⟨b,o,none⟩=some x):ML A' o x b w':=by
 cases o with
 |none=>exact h
 |some ls=>
  have⟨f,a,c,g,i,j⟩:=h;exact⟨f,a,c,g,i.go d e,j⟩
theorem Xv.go{s:Nat}(h:Xv A G s x w)(a:∀b,A' b->A b\/w.heap.size<=b)(c:∀b o x,¬A b->w.cell? ⟨b,o,none⟩=some x->w'.cell? ⟨b,o,none⟩=some x):Xv A' G s x w':=by have⟨u,b,d,e⟩:=h;exact⟨u,b,d,e.go a c⟩
theorem mA.go{c:Nat->cJ}{R d:Nat->nB}{r:Nat}(h:mA c R r w)(g:∀s v,R s v w->d s v w')(a:∀o,w.heap[r]? =some o->w'.heap[r]? =some o):mA c d r w':=by have⟨e,b,f,i⟩:=h.out;exact⟨e,b,a _ f,cK⟩
def mA.lt{a:Nat->cJ}{R:Nat->nB}{r:Nat}(h:mA a R r w):r<w.heap.size:=by have⟨c,b,d,_⟩:=h.out;grind
theorem mg.go(h:mg A mk ms G w)(c:∀b,A' b->A b\/w.heap.size<=b)(g:∀b o v,¬A b->w.cell? ⟨b,o,none⟩=some v->w'.cell? ⟨b,o,none⟩=some v)(d:∀b o,b=mk\/b=ms->w.heap[b]? =some o->w'.heap[b]? =some o):mg A' mk ms G w':=by have i:=h.k.lt;have ls:=h.s.lt;refine⟨h.s.go (λs v e=>e.go c g) cK,h.k.go (λs v e=>e.go c g) cK,λf=>?_,λf=>?_⟩;obtain a|a:=c _ f;exact h.ak a;grind;obtain a|a:=c _ f;exact h.asm a;grind
def mg.ext(h:mg A mk ms G w)(e:Ext w w'):mg A mk ms G w':=h.go cK (λ_ _ _ _ a=>e.cell a) λb o _ c=>e.at_ c
def mg.more(h:mg A mk ms G w)(a:∀b,A' b->A b\/w.heap.size<=b):mg A' mk ms G w:=h.go a cK cK
def mg.keep{F:dn}(h:mg A mk ms G w)(k:dA F w w')(a:∀b,F b->A b):mg A mk ms G w':=
 h.go cK (λb o v c e=>k.fq e cK) λb o c f=>k.fL f λd=>by obtain rfl|rfl:=c;exact h.ak (a _ d);exact h.asm (a _ d)
end
def MR(n0 mk ms:Nat)(G:Gd)(a b:cI):Prop:=jH n0 a b/\∀A:dn,(∀x,A x->x<a.heap.size)->mg A mk ms G a->mg A mk ms G b
section
variable{n0 mk ms:Nat}{G:Gd}{a b c:cI}
theorem MR.refl(a:cI):MR n0 mk ms G a a:=⟨jH.refl _ _,cK⟩
theorem MR.trans(h:MR n0 mk ms G a b)(k:MR n0 mk ms G b c):MR n0 mk ms G a c:=⟨h.1.trans k.1,λA d e=>k.2 A (λx f=>ep (d x f) h.1.size) (h.2 A d e)⟩
def Ext.mr(h:Ext a b):MR n0 mk ms G a b:=⟨h.iF n0,λA _ c=>c.ext h⟩
def XZ(n0 mk ms:Nat)(G:Gd):gJ (MR n0 mk ms G):=⟨MR.refl,λ_ _ _=>MR.trans,λw=>(Ext.drew w).mr⟩
end
section
variable{w:cI}{k:cJ->cI->Prop}
def Ev{a:dN}(g:Ij T U a){l c:Nat}(j:l<=c)(m:c<=100000)(h:∀b d,Ext w b->w.heap.size<=d->b.heap[d]? =some (.cells (madeCells a.toArray (c*a.length)) U)->k (.slice (some ⟨d,0,none⟩) l c) b):jL V.prog (Instr.makeSlice T (.int .i64 l) (.int .i64 c)) w k:=by have⟨n,i,z,f,o,p,q,r,s⟩:=g;have e:=run_make (P:=jS) w T U i z n f o .i64 .i64 (l:Int) (c:Int) cL cL (by have:i.bytes*c<=256*100000:=Nat.mul_le_mul r m;have f:((i.bytes:Int)*(c:Int))=((i.bytes*c:Nat):Int):=dt;omega) cL;simp only[ny]at e;rw[p,q]at e;exact⟨_,_,e,h _ w.lH (Ext.alloc _ _) (dg _) (fX _ _)⟩
def AN(z:cJ)(n:Nat):madeCells #[z] n=Array.replicate n z:=by apply Array.ext;simp[madeCells];intro i a b;simp[madeCells,Nat.mod_one]
def WL:Ij 225 4 [.bool false]:=⟨eE,Tryz.t4,_,eE,rfl,eE,eE,by decide+kernel,kA⟩
def K3{e:cQ}{z:cJ}{s:Array Bool}(t:Ij T e [z]){d:eF}(g:w.heap[m]? =some (.cells d e))(a:i+1<=j)(h:i<d.size){u:cJ}(y:w.cell? ⟨o,0,none⟩=some u)(A:u.oneCell'=true)
 (B:∀l,dA (λx=>x=m) w l->l.heap[m]? =some (.cells (d.setIfInBounds i u) e)->k (.slice (some ⟨m,0,none⟩) (i+1) j) l):y8 V.prog (builtin .append #[T,T] U s #[.slice (some ⟨m,0,none⟩) i j,.slice (some ⟨o,0,none⟩) 1 p]) w k:=by
 have⟨n,r,E,C,F,G,c,H,I⟩:=t;have c:r.size=1:=c
 have q:=run_append_room_cells (P:=jS) w T U e r n C m 0 i j (dq o 0) 1 p [u] (by simp[c]) (λf v b=>by
  match f,b with
  |0,b=>cases b;rw[iq];exact y) (λv D=>by obtain rfl:=iv.1 D;exact A) a (λf b=>by
  have:f=0:=eV b;subst this;simp[World.cell?,g,c,h]) (λf b=>by simp[World.frozen?,g])
 rw[c]at q;simp only[dj,pW]at q;refine⟨_,w.setCells m i [u],?_,B _ (qn _ _ _ _ _ (dA.refl _ w)) (tB [u] w m i d e (0,0) g)⟩;unfold builtin;simp only[Sem.run_bind,q,Result.andThen_ok,Sem.run_pure]
end
structure E2(r u:Nat)(o1 X0 o2 X3:Obj)(a b:cI):Prop where
 k:dA (λx=>x=r\/x=u) a b
 r1:a.heap[r]? =some X0->b.heap[r]? =some X0
 r0:a.heap[r]? =some o1->b.heap[r]? =some o1\/b.heap[r]? =some X0
 u1:a.heap[u]? =some X3->b.heap[u]? =some X3
 u0:a.heap[u]? =some o2->b.heap[u]? =some o2\/b.heap[u]? =some X3
def WM(r u:Nat)(f d g e:Obj):gJ (E2 r u f d g e):=
 ⟨λw=>⟨dA.refl _ w,id,.inl,id,.inl⟩,λa b c h k=>⟨h.k.trans k.k (λ_ _ h=>h) λ_ _ h=>h,λx=>k.r1 (h.r1 x),λx=>by
  obtain y|y:=h.r0 x;exact k.r0 y;exact .inr (k.r1 y),λx=>k.u1 (h.u1 x),λx=>by
  obtain y|y:=h.u0 x;exact k.u0 y;exact .inr (k.u1 y)⟩,λw=>⟨(Ext.drew w).keep _,id,.inl,id,.inl⟩⟩
def E2.WN{d c:Obj}{a b:cI}(h:Ext a b):E2 m i O Q d c a b:=⟨h.keep _,λx=>h.at_ x,λx=>.inl (h.at_ x),λx=>h.at_ x,λx=>.inl (h.at_ x)⟩
def E2.cell{d c:Obj}{a b:cI}(e:E2 m i O Q d c a b){v:cJ}(f:a.cell? h=some v)(g:h.block≠m)(j:h.block≠i):b.cell? h=some v:=e.k.fq f cL
def E2.t1{e d:Obj}{a b:cI}(k:dA (λx=>x=m) a b)(c:m≠i)(h:b.heap[m]? =some Q):E2 m i O Q e d a b:=
 ⟨k.trans (dA.refl (λ_=>False) b) (λ_ _ h=>.inl h) λ_ _ h=>h.elim,λ_=>h,λ_=>.inr h,λx=>k.fL x (jc c),λx=>.inl (k.fL x (jc c))⟩
def E2.t2{e c:Obj}{a b:cI}(k:dA (λx=>x=i) a b)(d:m≠i)(h:b.heap[i]? =some c):E2 m i O Q e c a b:=
 ⟨k.trans (dA.refl (λ_=>False) b) (λ_ _ h=>.inr h) λ_ _ h=>h.elim,λx=>k.fL x d,λx=>.inl (k.fL x d),λ_=>h,λ_=>.inr h⟩
section
variable{E:cI->cI->Prop}{w:cI}{kx:cJ->Prop}{kr kp kl:io->Prop}{lb ea:Bool}
def xD{v:cJ}(b:gJ E)(c:∀a,E w a->a.cell? h=some v)(k:kx v)(d:GS T=some false:=by rfl):xv E E w (λa f=>jL V.prog (Instr.loadAt T (.pointer (some h))) a f) kx kr kp lb kl ea:=
 dx v (λa e=>cO (c a e) ⟨rfl,b.refl _⟩ d) k
end
structure B4 where
 (rv lv yv uv gv rb ub lp:Nat)(la:Option Addr)(lc:Nat)
def di(b:Nat):cJ:=.pointer (some ⟨b,0,none⟩)
def B4.o9(e:B4):eF:=#[di e.rv,di e.lv,di e.yv,di e.uv,di e.gv]
structure X4(e:B4):Prop where
 r:e.rv≠e.lv/\e.rv≠e.yv/\e.rv≠e.uv/\e.rv≠e.gv/\e.rv≠e.rb/\e.rv≠e.ub
 b:e.rb≠e.lv/\e.rb≠e.yv/\e.rb≠e.uv/\e.rb≠e.gv/\e.rb≠e.ub
 u:e.ub≠e.lv/\e.ub≠e.yv/\e.ub≠e.uv/\e.ub≠e.gv
 l:∀b o,e.la=some ⟨b,o,none⟩->b≠e.rv/\b≠e.rb/\b≠e.ub
def jZ(a:List Bool):Obj:=.cells (a.map Value.bool).toArray 4
structure K4(e:B4)(l row:List Nat)(used:List Bool)(w:cI):Prop where
 rv:w.heap[e.rv]? =some (.cells #[.slice (some ⟨e.rb,0,none⟩) row.length l.length] 27)
 lv:w.cell? ⟨e.lv,0,none⟩=some (.slice e.la l.length e.lc)
 yv:w.cell? ⟨e.yv,0,none⟩=some (.func (.yield e.lp) #[] #[])
 uv:w.cell? ⟨e.uv,0,none⟩=some (.slice (some ⟨e.ub,0,none⟩) l.length l.length)
 gv:w.cell? ⟨e.gv,0,none⟩=some (.func (.func 197) #[] e.o9)
 rb:∃cs,w.heap[e.rb]? =some (.cells cs 3)/\cs.size=l.length/\∀j (h:j<row.length),cs[j]? =some (.int .i64 row[j])
 ub:w.heap[e.ub]? =some (jZ used)
 ul:used.length=l.length
 row:fN w e.la l
def K4.keep{e:B4}{a:List Bool}(h:K4 e l f a w)(k:dA A w t)(s:∀b,A b->b≠e.rv/\b≠e.lv/\b≠e.yv/\b≠e.uv/\b≠e.gv/\b≠e.rb/\b≠e.ub/\∀c o,e.la=some ⟨c,o,none⟩->b≠c):K4 e l f a t:=by have n:∀b,(b=e.rv\/b=e.lv\/b=e.yv\/b=e.uv\/b=e.gv\/b=e.rb\/b=e.ub)->¬A b:=cK;have⟨d,g,j,m⟩:=h.rb;refine⟨k.fL h.rv cK,k.fq h.lv cK,k.fq h.yv cK,k.fq h.uv cK,k.fq h.gv cK,⟨d,k.fL g cK,j,m⟩,k.fL h.ub cK,h.ul,λi p=>?_⟩;have⟨b,o,q,r⟩:=h.row i p;exact⟨b,o,q,k.fq r cK⟩
def K4.FH{e:B4}(g:X4 e){c:cM}{d a:List Bool}(h:K4 e l f d w)(k:dA (λx=>x=e.rv\/x=e.rb\/x=e.ub) w t)
 (o:t.heap[e.rv]? =some (.cells #[.slice (some ⟨e.rb,0,none⟩) c.length l.length] 27))(p:∃m,t.heap[e.rb]? =some (.cells m 3)/\m.size=l.length/\∀j (h:j<c.length),m[j]? =some (.int .i64 c[j]))(q:t.heap[e.ub]? =some (jZ a))(s:a.length=l.length):K4 e l c a t:=by
 have⟨B,C,D,E,F,G⟩:=g.r;have⟨H,I,J,K,L⟩:=g.b;have⟨M,N,O,P⟩:=g.u;refine⟨o,k.fq h.lv cK,k.fq h.yv cK,k.fq h.uv cK,k.fq h.gv cK,p,q,s,λi v=>?_⟩;have⟨y,z,n,A⟩:=h.row i v;have:=g.l _ _ n;exact⟨y,z,n,k.fq A cK⟩
def Uy{a:B4}{c b:Obj}(d:E2 a.rb a.ub O Q c b w t)(f:dA (λx=>x=a.rv) t e):dA (λx=>x=a.rv\/x=a.rb\/x=a.ub) w e:=
 (d.k.trans f cK cK)
def xE(l:cM)(m:Nat)(b:cM)(a:List Bool)(k:Nat):List cM:=(List.range k).flatMap λi=>if a.getD i false then []else oZ l m (b++[l.getD i 0]) (a.set i true)
def yu(l:cM)(m:Nat)(b:cM)(a:List Bool)(k:Nat):xE l m b a (k+1)=xE l m b a k++if a.getD k false then []else oZ l m (b++[l.getD k 0]) (a.set k true):=by unfold xE;rw[mL,List.flatMap_append];simp
def G4(e:B4)(l:cM)(Y:List cM->dB):Prop:=∀i b c w,b.length=l.length->(∀d∈b,d∈l)->K4 e l b c w->Y i w->∃f g a h,Sem.run V.prog (Instr.yield e.lp #[.slice (some ⟨e.rb,0,none⟩) b.length l.length]) w=.ok (.round e.lp f g a h) w/\RoundIn Fence.wide 0 V.prog e.lp f g a h w λk j=>k=.returned (.bool true)/\K4 e l b c j/\Y (i++[b]) j
def Ew(a:eF)(k:Nat)(v:cJ):(a.setIfInBounds k v).setIfInBounds k v=a.setIfInBounds k v:=dt
def G5(a:List Bool)(k:Nat)(b:Bool):((a.map Value.bool).toArray).setIfInBounds k (.bool b)=((a.set k b).map Value.bool).toArray:=by grind
theorem K5{e:B4}(P:X4 e)(aa:l.length<=100000){Y:List cM->dB}(hY:∀s a b,Y s a->dA (λx=>x=e.rv\/x=e.rb\/x=e.ub) a b->Y s b)(hy:G4 e l Y):
 ∀m g c s w,g.length+m=l.length->(∀d∈g,d∈l)->K4 e l g c w->Y s w->Calls V.prog 197 e.o9 w (fM λv G=>v=.bool true/\K4 e l g c G/\Y (s++oZ l m g c) G)
 |m,g,c,s,w,hm,N,h,Q=>by
  have⟨o1,o2,o3,o4,o5,o6⟩:=P.r;have⟨p1,p2,p3,p4,p5⟩:=P.b;have⟨q1,q2,q3,q4⟩:=P.u;have ax:=P.l;refine jb Tryz.func197 Tryz.ntmps197 ?_;refine cO (cN h.rv rfl) (dm (cO h.lv (dm (fc ⟨λZ=>?_,λZ=>?_⟩))));have Z:g.length=l.length:=by simp at Z;omega
  obtain rfl:m=0:=cL;have⟨f,au,ah,av,ab,hR⟩:=hy s g c w Z N h Q;refine cO h.yv (cO (cN h.rv rfl) ⟨_,_,_,_,ab,hR.mono ?_⟩);rintro en G ⟨rfl,K,h2⟩;exact⟨_,rfl,rfl,K,h2⟩;have Z:g.length≠l.length:=by simp at Z;omega
  obtain⟨m,rfl⟩:∃m',m=m'+1:=⟨m-1,cL⟩;refine cO h.lv (dm (ft (n:=l.length) (λk=>[(0,di e.rv),(1,di e.lv),(2,di e.yv),(3,di e.uv),(4,di e.gv),(17,.slice e.la l.length e.lc),(18,i64 l.length),(19,i64 k)]) (λk G=>K4 e l g c G/\Y (s++xE l m g c k) G) ⟨by trivial,h,by simpa[xE]using Q⟩ ?_ ?_ ?_));rintro k G R hJ;exact dK ⟨rfl,rfl,by trivial,hJ⟩;rintro k G R ⟨h,Q⟩;have⟨b,o,S,T⟩:=h.row k R;have U:k<c.length:=by rw[h.ul];exact R
  have ai:G.cell? (dq e.ub (0+k))=some (.bool c[k]):=by refine cN h.ub ?_;simp[U]
  have ac:c.getD k false=c[k]:=getD_eq U;have aj:l.getD k 0=l[k]:=getD_eq R;rw[S];refine eX k R (cO T (cO h.uv (eX k R (cO ai ⟨λhu=>?_,λhu=>?_⟩))));refine cW ⟨⟨rfl,rfl,rfl,rfl,rfl,by rw[<-S];rfl,rfl,rfl,trivial⟩,h,?_⟩;rw[yu,ac,hu];simpa using Q;have⟨C,g1,g2,g3⟩:=h.rb;have aw:g.length<l.length:=cL;have hE:=WM e.rb e.ub (.cells C 3) (.cells (C.setIfInBounds g.length (i64 l[k])) 3) (jZ c) (jZ (c.set k true));refine dD hE ?_;refine xD hE (λq p=>p.cell h.uv (by show e.uv≠e.rb;omega) (by show e.uv≠e.ub;omega)) ?_;refine xD hE (λq p=>p.cell (cN h.rv rfl) o5 o6)<| .rel (λv w=>∃H,v=fa H 1 1/\H≠e.rb/\H≠e.ub/\w.heap[H]? =some (.cells [Value.int .i64 l[k]].toArray 3)) ?_ (λq p=>er [Value.int .i64 l[k]] 3 λt H e2 ad hb=>⟨⟨H,rfl,?_,?_,hb⟩,E2.WN e2⟩) ?_;rintro v a b ⟨H,K,h2,h3,h4⟩ p;exact⟨H,K,h2,h3,p.k.fL h4 cL⟩;have:=dz.lt_of_heap g1;have:=p.k.size;omega;have:=dz.lt_of_heap h.ub;have:=p.k.size;omega;refine .rel (λv w=>v=fa e.rb (g.length+1) l.length/\fC w e.rb (C.setIfInBounds g.length (i64 l[k])) 3) ?_ ?_ ?_;rintro v a b ⟨K,h2⟩ p;exact⟨K,p.r1 h2⟩;rintro q p v ⟨H,rfl,n1,n2,hb⟩;have y:∀L,fC q e.rb L 3->L.size=C.size->L.setIfInBounds g.length (i64 l[k])=C.setIfInBounds g.length (i64 l[k])->y8 V.prog (builtin .append #[27,27] 27 (#[Operand.tmp 30,Operand.tmp 32].map λ| .const _=>true|_=>false) #[fa e.rb g.length l.length,fa H 1 1]) q λu t=>(u=fa e.rb (g.length+1) l.length/\fC t e.rb (C.setIfInBounds g.length (i64 l[k])) 3)/\E2 e.rb e.ub (.cells C 3) (.cells (C.setIfInBounds g.length (i64 l[k])) 3) (jZ c) (jZ (c.set k true)) q t:=λL ak ay z=>by refine K3 (u:=i64 l[k]) n8 ak cL cL (cN hb rfl) rfl λt I i=>?_;rw[z]at i;exact⟨⟨rfl,i⟩,E2.t1 I p5 i⟩
  obtain D|D:=p.r0 g1;exact y C D rfl rfl;exact y _ D dt (Ew _ _ _);refine .exact (qI e.ub (0+k)) (λq p v hv=>eX k cL ⟨rfl,hE.refl _⟩)<| .yo (λ_ w=>w.heap[e.ub]? =some (jZ (c.set k true))) (λ_ a b K p=>p.u1 K) (λq p v hv=>?_) ?_
  have y:∀J:List Bool,q.heap[e.ub]? =some (jZ J)->J.length=c.length->J.set k true=c.set k true->Ed V.prog (Instr.storeAt 4 (qI e.ub (0+k)) (.bool true)) q λt=>t.heap[e.ub]? =some (jZ (c.set k true))/\E2 e.rb e.ub (.cells C 3) (.cells (C.setIfInBounds g.length (i64 l[k])) 3) (jZ c) (jZ (c.set k true)) q t:=λJ W al z=>by
   refine jp W (by simp[Value.cells];omega) (λt I i=>by
   have i:t.heap[e.ub]? =some (jZ (c.set k true)):=by rw[i,jZ,<-z,<-G5];simp[ir,Value.cells]
   exact⟨i,E2.t2 I p5 i⟩) (gK rfl)
  obtain D|D:=p.u0 h.ub;exact y c D rfl rfl;exact y _ D dt dt;intro q p v1 M v2 ad hJ;obtain⟨rfl,M⟩:v1=fa e.rb (g.length+1) l.length/\fC q e.rb (C.setIfInBounds g.length (i64 l[k])) 3:=M;replace hJ:q.heap[e.ub]? =some (jZ (c.set k true)):=hJ;clear ad;have O:=p.k.fL h.rv cL;refine dI O λt I i=>?_;have k3:=Uy p I;have hW:K4 e l (g++[l[k]]) (c.set k true) t:=by
   refine h.FH P k3 (by rw[i];simp[ir,Value.cells]) ⟨_,I.fL M cL,by simp[g2],λj hj=>?_⟩ (I.fL hJ cL) (by simp[h.ul]);obtain ae|az:=gu j g.length;rw[fZ cL,g3 j ae,ml ae];obtain rfl:j=g.length:=by simp at hj;omega
   rw[oz cL];simp
  have am:Y (s++xE l m g c k) t:=hY _ _ _ Q k3;clear i O I M hJ p k3;refine cO hW.gv (cX (K5 P aa hY hy m (g++[l[k]]) (c.set k true) _ t pY (λd hd=>by obtain hd|hd:=jy.1 hd;exact N d hd;rw[iv.1 hd];exact eB R) hW am) ?_);rintro v w3 ⟨rfl,E,an⟩;have⟨F,t1,t2,t3⟩:=E.rb;have A:=WM e.rb e.ub (.cells F 3) (.cells F 3) (jZ (c.set k true)) (jZ c);have ao:(g++[l[k]]).length=g.length+1:=dt;have B:=E.rv;rw[ao]at B;refine dD A ?_;refine xD A (λq p=>p.cell E.uv (by show e.uv≠e.rb;omega) (by show e.uv≠e.ub;omega)) ?_;refine xD A (λq p=>p.cell (cN B rfl) o5 o6)<|xD A (λq p=>p.cell (cN B rfl) o5 o6)<|Xt (i64 ((g.length+1:Nat):Int)) (λq _=>dm ⟨rfl,A.refl _⟩)<|vo (n:=1) ?_ cL A;refine dx (fa e.rb g.length l.length) (λq _=>pM g.length cL ⟨rfl,A.refl _⟩ cL)<|gB k cL ?_ rfl rfl A;refine .yo (λ_ w=>w.heap[e.ub]? =some (jZ c)) (λ_ a b K p=>p.u1 K) (λq p=>?_) ?_;have af:c.set k false=c:=by apply List.ext_getElem?;intro j;by_cases hj:j=k;subst hj;simp[U,hu];rw[List.getElem?_set_ne cL]
  have y:∀J:List Bool,q.heap[e.ub]? =some (jZ J)->J.length=c.length->J.set k false=c->Ed V.prog (Instr.storeAt 4 (qI e.ub (0+k)) (.bool false)) q λt=>t.heap[e.ub]? =some (jZ c)/\E2 e.rb e.ub (.cells F 3) (.cells F 3) (jZ (c.set k true)) (jZ c) q t:=λJ W al z=>by
   refine jp W (by simp[Value.cells];omega) (λt I i=>by
   have i:t.heap[e.ub]? =some (jZ c):=by
    have h4:jZ c=.cells ((J.map Value.bool).toArray.setIfInBounds k (.bool false)) 4:=by rw[G5,z];rfl
    rw[i,h4];simp[ir,Value.cells]
   exact⟨i,E2.t2 I p5 i⟩) (gK rfl)
  obtain D|D:=p.u0 E.ub;exact y _ D dt (by rw[List.set_set];exact af);exact y _ D rfl af;intro w4 e4 X;replace X:w4.heap[e.ub]? =some (jZ c):=X;have ag:=e4.k.fL B cL;refine dI ag λw5 k5 ap=>?_;have k6:=Uy e4 k5;have aq:K4 e l g c w5:=E.FH P k6 (by rw[ap];simp[ir,Value.cells]) ⟨F,k5.fL ((e4.r0 t1).elim id id) cL,t2,λj hj=>by rw[t3 j pY,ml hj]⟩ (k5.fL X cL) h.ul;have ar:=hY _ _ _ an k6;refine eC (lh rfl (cW ⟨⟨rfl,rfl,rfl,rfl,rfl,by rw[<-S];rfl,rfl,rfl,trivial⟩,aq,?_⟩));rw[yu,ac,hu,aj];simpa using ar;rintro G ⟨h,Q⟩;exact⟨_,rfl,rfl,h,Q⟩
def Xw:Obj:=.cells #[.slice none 0 0] 27
structure ZE(n0:Nat)(a b:cI):Prop where
 os:b.os=a.os
 tape:b.tape=a.tape
 output:b.output=a.output
 size:a.heap.size<=b.heap.size
 drawn:a.drawn<=b.drawn
 block:∀x o,a.heap[x]? =some o->b.heap[x]? =some o\/(n0<=x/\o=Xw/\∃u,u≠ .slice none 0 0/\b.heap[x]? =some (.cells #[u] 27))
def X6(e:Nat):gJ (ZE e):=by refine⟨λw=>⟨rfl,rfl,rfl,dg _,dg _,cK⟩,λa b c h k=>⟨k.os.trans h.os,k.tape.trans h.tape,k.output.trans h.output,dw h.size k.size,dw h.drawn k.drawn,λx o f=>?_⟩,λw=>⟨rfl,rfl,rfl,dg _,mN _,λx o h=>.inl h⟩⟩;obtain d|⟨d,i,u,j,g⟩:=h.block x o f;exact k.block x o d;obtain l|⟨_,m,_⟩:=k.block x _ g;grind;grind
def Ext.ze(h:Ext w t)(a:Nat):ZE a w t:=⟨h.os,h.tape,h.output,h.size,h.drawn,λx o b=>.inl (h.at_ b)⟩
def ZE.ext(h:ZE m w t)(d:w.heap.size<=m):Ext w t:=⟨h.os,h.tape,h.output,h.size,h.drawn,λx a=>by have b:w.heap[x]? =some w.heap[x]:=nw a;obtain c|⟨c,_⟩:=h.block x _ b;grind;grind⟩
def ZE.at_(h:ZE m w t)(a:w.heap[k]? =some O)(b:O≠Xw):t.heap[k]? =some O:=(h.block k O a).elim id cK
def ZE.store{c:Nat}{a b:cI}{x:Nat}{u:cJ}(k:dA (λy=>y=x) a b)(f:c<=x)(g:u≠ .slice none 0 0)(h:a.heap[x]? =some Xw\/a.heap[x]? =some (.cells #[u] 27))(i:b.heap[x]? =some (.cells #[u] 27)):ZE c a b:=
 ⟨k.os,k.tape,k.output,k.size,k.drawn,λy o d=>by by_cases e:y=x;grind;exact .inl (k.fL d e)⟩
def wD(h:T≠U):Obj.cells W T≠ .cells X U:=cK
def SY(i m:Nat)(F:dn)(Y:(dn)->List cM->dB)(l:cM):Prop:=∀B h c j w,(∀b,B b->m<=b/\b<w.heap.size)->B j->fN w (some ⟨j,0,none⟩) c->c.length=l.length->(∀d∈c,d∈l)->Y B h w->∃f e a g,Sem.run V.prog (Instr.yield i #[.slice (some ⟨j,0,none⟩) c.length l.length]) w=.ok (.round i f e a g) w/\RoundIn Fence.wide 0 V.prog i f e a g w λn k=>n=.returned (.bool true)/\dA F w k/\Y B (h++[c]) k
def MM(J:l.length<=100000){lc lv lp n0:Nat}{F:dn}{Y:(dn)->List cM->dB}(hn:n0=w.heap.size) (aa:w.cell? ⟨lv,0,none⟩=some (.slice a l.length lc))(ab:fN w a l)(al:∀b o,a=some ⟨b,o,none⟩->b<w.heap.size)(hF:∀b,F b->b<w.heap.size/\b≠lv/\∀b' o,a=some ⟨b',o,none⟩->b≠b') (h0:∀c B,Ext w c->(∀b,B b->n0<=b/\b<c.heap.size)->Y B [] c)(hY:∀B m q b,Y B m q->dA B q b->Y B m b)(hy:SY lp n0 F Y l):
 Calls V.prog 196 #[.func (.yield lp) #[] #[],di lv] w (fM λv w'=>∃B,Y B (oe l) w'):=by
 subst hn;have ac:lv<w.heap.size:=o8 aa;refine jb Tryz.func196 Tryz.ntmps196 ?_;refine eH λD yv ey aI ad=>?_;have aJ:=dz.lt_of_heap ad;have U:=ey.cell aa;refine gZ 8 dC (X6 D.heap.size) (λq b h=>h.ze _) ?_;have ae:∀c,ZE D.heap.size D c->jL V.prog (Instr.loadAt 27 (dR lv)) c λu N=>u=.slice a l.length lc/\Ext c N:=λc n=>cO ((n.ext (dg _)).cell U) gd;refine .exact _ ae (.exact (i64 l.length) (λc _=>dm gd) ?_);refine .rel (λv c=>∃g,v=fa g 0 l.length/\D.heap.size<=g/\c.heap[g]? =some (.cells (Array.replicate l.length (i64 0)) 3)) ?_ (λc n=>Ev (l:=0) n8 (gi _) J λN W X E A=>⟨⟨W,rfl,dw n.size E,?_⟩,X⟩) ?_
 ·rintro v q b ⟨g,P,Q,K⟩ n;exact⟨g,P,Q,n.at_ K (wD kA)⟩
 ·rw[A];simp[AN]
 refine .exact _ ae (.exact (i64 l.length) (λc _=>dm gd) ?_);refine .rel (λv c=>∃C,v=fa C l.length l.length/\D.heap.size<=C/\c.heap[C]? =some (.cells (Array.replicate l.length (.bool false)) 4)) ?_ (λc n=>Ev WL (dg _) J λN W X E A=>⟨⟨W,rfl,dw n.size E,?_⟩,X⟩) ?_
 ·rintro v q b ⟨g,P,Q,K⟩ n;exact⟨g,P,Q,n.at_ K (wD kA)⟩
 ·rw[A];simp[AN]
 refine .Mr (λv c=>∃i,v=dR i/\D.heap.size<=i/\c.heap[i]? =some Xw) (λv q b ⟨i,P,Q,K⟩ n=>⟨i,P,Q,n.at_ K⟩) (λc n=>eS λN W X E A=>⟨⟨W,rfl,dw n.size E,A⟩,X⟩) ?_;refine .rel (λv c=>∃I,v=dR I/\D.heap.size<=I/\c.heap[I]? =some (.cells #[fl] 225)) ?_ (λc n=>eS λN W X E A=>⟨⟨W,rfl,dw n.size E,A⟩,X⟩) ?_
 ·rintro v q b ⟨g,P,Q,K⟩ n;exact⟨g,P,Q,n.at_ K (wD kA)⟩
 refine .yo (λvs c=>∃R i g,vs=[dR i,R,fa g 0 l.length]/\D.heap.size<=i/\c.heap[i]? =some (.cells #[fa g 0 l.length] 27)) ?_ (λc n v3 K R h4 v8 h8=>?_) ?_
 ·rintro vs q b ⟨R,i,g,P,Q,K⟩ n;exact⟨R,i,g,P,Q,n.at_ K⟩
 ·obtain⟨i,rfl,g1,g2⟩:=K;obtain⟨g,rfl,g3,g4⟩:=h8;refine dI g2 λN Z H=>⟨⟨R,i,g,rfl,g1,H⟩,ZE.store Z g1 (λe=>by cases e) (.inl g2) H⟩
 ·intro c n v3 _ R h4 am an v8 h8 hJ;obtain⟨I,rfl,ao,p⟩:∃I,R=dR I/\D.heap.size<=I/\c.heap[I]? =some (.cells #[fl] 225):=h4;obtain⟨C,rfl,aK,r⟩:∃C,am=fa C l.length l.length/\D.heap.size<=C/\c.heap[C]? =some (.cells (Array.replicate l.length (.bool false)) 4):=an;obtain⟨g,rfl,aL,s⟩:∃g,v8=fa g 0 l.length/\D.heap.size<=g/\c.heap[g]? =some (.cells (Array.replicate l.length (i64 0)) 3):=h8;have⟨_,i,ap,G,aM,z⟩:∃R i af,[v3,dR I,fa g 0 l.length]=[dR i,R,fa af 0 l.length]/\D.heap.size<=i/\c.heap[i]? =some (.cells #[fa af 0 l.length] 27):=hJ;simp only[Ce,and_true]at G;obtain⟨rfl,rfl,G⟩:=G;injection G with G;obtain rfl:g=ap:=dE Addr.block (dQ G);clear G;have ex:Ext D c:=n.ext (dg _);clear n;have ne:∀{x y:Nat} {cs aq:eF} {t t':cQ},c.heap[x]? =some (.cells cs t)->c.heap[y]? =some (.cells aq t')->t≠t'->x≠y:=λhx hy ht e=>by subst e;rw[hx]at hy;exact wD ht (dQ hy)
  have d1:=ne z p kA;have d2:=ne z s kA;have d3:=ne z r kA;have d4:=ne p s kA;have d5:=ne p r kA;have d6:=ne s r kA;have su:=dz.lt_of_heap p;refine dI p λN Z H=>?_;have H:N.heap[I]? =some (.cells #[fa C l.length l.length] 225):=H;refine eS λw3 gv e3 aN ag=>dI ag λO k4 ar=>?_;have s2:=Z.size;have au:Ext D N:=ex.cS Z ao;have L:Ext D O:=(au.trans e3).cS k4 (iD ex.size);have av:=dz.lt_of_heap z;have aw:=dz.lt_of_heap s;have ax:=dz.lt_of_heap r;have aO:=dz.lt_of_heap p;have S:∀{x:Nat} {o:Obj},N.heap[x]? =some o->O.heap[x]? =some o:=λhx=>k4.fL (e3.at_ hx) (iD (dz.lt_of_heap hx));have ay:=L.at_ ad;let e:B4:=⟨i,lv,yv,I,gv,g,C,lp,a,lc⟩;have aG:=ac;have sw:=ey.size;have ok:X4 e:=⟨⟨by show i≠lv;omega,by show i≠yv;omega,d1,by show i≠gv;omega,d2,d3⟩,⟨by show g≠lv;omega,by show g≠yv;omega,jc d4,by show g≠gv;omega,d6⟩,⟨by show C≠lv;omega,by show C≠yv;omega,jc d5,by show C≠gv;omega⟩,λb o A=>by have:=al b o A;show b≠i/\b≠g/\b≠C;omega⟩;have hO:K4 e l [] (List.replicate l.length false) O:=by refine⟨S (Z.fL z d1),L.cell U,cN ay rfl,cN (S H) rfl,cN ar rfl,⟨_,S (Z.fL s (jc d4)),dt,λj hj=>by simp at hj⟩,?_,dt,ab.ext (ey.trans L)⟩;have:=S (Z.fL r (jc d5));rw[this];simp[jZ]
  let B:dn:=λx=>x=i\/x=g\/x=C;have s4:=L.size;have l4:∀{x:Nat},x<c.heap.size->x<O.heap.size:=λhx=>zp e3.size k4.size
  have M:∀b,B b->w.heap.size<=b/\b<O.heap.size:=λb A=>by
   obtain rfl|rfl|rfl:=A
   ·exact⟨cL,l4 av⟩
   ·exact⟨cL,l4 aw⟩
   ·exact⟨cL,l4 ax⟩
  have az:=h0 O B (ey.trans L) M;have aA:∀m q b,(Y B m q/\O.heap.size<=q.heap.size)->dA (λx=>x=e.rv\/x=e.rb\/x=e.ub) q b->(Y B m b/\O.heap.size<=b.heap.size):=λm q b h k=>⟨hY B m q b h.1 k,dw h.2 k.size⟩;have aB:G4 e l (λm q=>Y B m q/\O.heap.size<=q.heap.size):=by rintro m aC aH wy hr ah hA ⟨aD,aP⟩;have⟨cs,g1,g2,g3⟩:=hA.rb;have⟨f,ai,T,aj,ak,hR⟩:=hy B m aC g wy (λb A=>⟨(M b A).1,iD ((M b A).2)⟩) (.inr (.inl rfl)) (λk hk=>⟨g,0,rfl,cN g1 (by rw[dj];exact g3 k hk)⟩) hr ah aD;refine⟨f,ai,T,aj,ak,hR.mono ?_⟩;rintro en w' ⟨rfl,hk,aE⟩;refine⟨rfl,hA.keep hk (λb A=>?_),aE,iD hk.size⟩;have⟨q1,q2,q3⟩:=hF b A;show b≠i/\b≠lv/\b≠yv/\b≠I/\b≠gv/\b≠g/\b≠C/\_;exact⟨cL,q2,cL,cL,cL,cL,cL,q3⟩
  refine cO hO.gv (cX (K5 ok J aA aB l.length [] (List.replicate l.length false) [] O dt (λd hd=>by cases hd) hO ⟨az,dg _⟩) ?_);rintro v w5 ⟨rfl,_,aF,_⟩;exact⟨_,rfl,B,by simpa[oe]using aF⟩
def MN(c:dV)(n d:Nat)(w:cI):Calls V.prog 172 #[.slice c n d] w (fM λv e=>Ext w e/\∃a,v=.func (.func 196) #[] #[di a]/\w.heap.size<=a/\e.heap[a]? =some (.cells #[.slice c n d] 27)):=by refine jb Tryz.func172 Tryz.ntmps172 ?_;exact eH λh a f b g=>⟨_,rfl,f,a,rfl,b,g⟩
section
variable{N:Nat}{r:Option Nat}{ds:List Deferred}{x y:Code}{Q:Exit->Act->cI->Prop}{l:L}{a:Act}{w:cI}
def ZH(f:px ds N l a)(g:flat x=true)(h:WC V.prog Fj N x (λe c d=>∀b,px ds N c b->Q e b d) l w):x.wpIn (wd r) 0 V.prog Q a w:=
 wpIn_mono (lZ dr x _ l a w g f h) (by rintro e b d ⟨c,i,j⟩;grind)
def Uz(P:cU)(r:Option Nat)(y:Code)(Q:Exit->Act->dB):Exit->Act->dB
 | .normal,a,w=>y.wpIn (wd r) 0 P Q a w
 |e,a,w=>Q e a w
def wpS(d:px ds N l a)(f:flat x=true)(h:WC V.prog Fj N x (λe g c=>∀b,px ds N g b->Uz V.prog r y Q e b c) l w):(Code.seq x y).wpIn (wd r) 0 V.prog Q a w:=
 wpIn_seq (wpIn_mono (ZH (Q:=Uz jS r y Q) d f h) (by rintro e b c i;cases e<;>exact i))
def ZI{id:Nat}{c:Array Oper}{E:cI->dB}(g:px ds N l a)(i:gJ E)(h:DW V.prog Fj N (λ_ _=>False) E E 1000 c.toList w l (λj k=>∀f,px ds N j f->y.wpIn (wd none) 0 V.prog Q f k) 0 c.toList [] (yp c.toList l) [] [] [] [])(m:nD c N (uQ c.toList)=true:=by kernel_rfl):
 (Code.seq (.region id c true) y).wpIn (wd none) 0 V.prog Q a w:=
 wpIn_seq (wpIn_wide.2 (GO dr cK i i cK eE m rfl g.b (λl f w e n=>n f ⟨e.b,e.d.trans g.d⟩) h))
end
def G6{b:Func}{c:Code}{args:dN}{w:cI}{R:Ending->dB}(N:Nat)
 (g:V.prog.funcs[K]? =some b)(d:b.body=some c)(l:b.ntmps=N)(i:args.length<=N)(h:∀a,px [] N (args.zipIdx.map λp=>(p.2,p.1)) a->c.wpIn (wd none) 0 V.prog (bodyPostM Fence.wide 0 V.prog b R) a w):Calls V.prog K args.toArray w R:=by
 refine callsIn_wide.1 (callsIn_of_wp_marks (n:=0) g d trivial (h _ ⟨⟨?_,λt v j=>?_⟩,rfl⟩));grind
 have f:∀(e:dN) (n:Nat),lk ((e.zipIdx n).map λp=>(p.2,p.1)) t=some v->n<=t/\e[t-n]? =some v:=by
  intro e;induction e with
  |nil=>intro n h;cases h
  |cons x r m=>
   intro n h;simp only[List.zipIdx_cons,kY,lk]at h;cases d:Nat.beq n t with
   |true=>
    rw[d]at h;have:n=t:=nS d;grind
   |false=>
    grind
 have k:=(f args 0 j).2;rw[Nat.sub_zero]at k;grind [List.getElem?_eq_some_iff,kN,Array.getElem?_append_left]
def K6{d:Func}{t N:Nat}{l:L}{a:Act}{ds:List Deferred}{w:cI}(c:d.results=#[.tmp t])(e:px ds N l a)(f:lk l t=some z):Sem.run V.prog (results d a.tmps) w=.ok z w:=by have g:a.tmps.getD t gT=z:=e.b.at_ t z f;rw[Aw,c];simp[Mo,g]
def Vr{c:Func}{t N:Nat}{l:L}{a:Act}{w:cI}{R:Ending->dB}(b:c.results=#[.tmp t])(e:px [] N l a)(f:lk l t=some z)(g:R (.returned z) w):bodyPostM Fence.wide 0 V.prog c R .ret a w:=by show LeavesInM Fence.wide 0 jS c a.tmps R a.defers .returning w;rw[e.d];exact⟨z,K6 b e f,g⟩
def K8(D:Nat):Deferred:={target:=.collected D,args:=#[]}
def Vs{c:Func}{t N D:Nat}{l:L}{a:Act}{w:cI}{R:Ending->dB}(b:c.results=#[.tmp t])(e:px [K8 D] N l a)(f:lk l t=some z)(g:w.heap[D]? =some (.deferred (some [])))(h:R (.returned z) (w.putObj D (.deferred none))):bodyPostM Fence.wide 0 V.prog c R .ret a w:=by show LeavesInM Fence.wide 0 jS c a.tmps R a.defers .returning w;rw[e.d];exact⟨dt,.inl ⟨D,_,rfl,run_takeDeferred g,z,K6 b e f,h⟩⟩
def B5(fn:FuncId)(tmps:Array Value)(p:Tmp)(assign body:Code)(D:Nat)(st:LoopState):Loop:={state:=st,pending:=none,fn,tmps,params:=#[p],assign,body,defers:=D}
def MO{N t p:Nat}{l:L}{a:Act}{w:cI}{c g:Code}{Q:Exit->Act->dB}(q:px [] N l a)(A:lk l t=some (.func (.func K) #[] W))(B:∀x w,Sem.run V.prog (callFunc K x) w=.ok (.enter K x) w){I:dB} (j:∀o f n,n=B5 o a.tmps p c g w.heap.size .ready->Ext w f->f.heap.size=w.heap.size+2->f.heap[w.heap.size]? =some (.deferred (some []))->f.heap[w.heap.size+1]? =some (.loop n)->
  Calls V.prog K (#[.func (.yield (w.heap.size+1)) #[] #[]]++W) f (fM λv i=>i.heap[w.heap.size+1]? =some (.loop n)/\I i))
 (k:∀n i y,i.heap[w.heap.size+1]? =some (.loop n)->I i->px [K8 w.heap.size] N l y->Q .normal y (i.putObj (w.heap.size+1) (.loop {n with state:=.exhausted}))):(Code.rangeFunc (.tmp t) #[p] c g).wpIn (wd none) 0 V.prog Q a w:=by
 have r:a.eval (.tmp t)=.func (.func K) #[] W:=q.b.at_ t _ A;refine wpIn_rangeFunc ?_;intro o C;have⟨f,m⟩:∃f,(w.alloc (.deferred (some []))).alloc (.loop (B5 o a.tmps p c g w.lH .ready))=f:=⟨_,rfl⟩;have s:f.heap[w.lH+1]? =some (.loop (B5 o a.tmps p c g w.lH .ready)):=by grind [World.alloc_heap_new,World.size_alloc]
 have u:f.heap[w.lH]? =some (.deferred (some [])):=by grind [alloc_old,World.alloc_heap_new]
 have D:Ext w f:=by rw[<-m];exact(Ext.alloc _ _).trans (Ext.alloc _ _)
 refine⟨w.lH+1,[K8 w.lH],f,{target:=.fn (.func K) W,args:=#[.func (.yield (w.lH+1)) #[] #[]]},f,K,#[.func (.yield (w.lH+1)) #[] #[]]++W,f,?_,?_,λ_ _=>trivial,?_,(λh=>by cases h),?_⟩
 ·rw[<-m];exact run_enterLoop_outer _ _ _ _ _
 ·simp only[resolve,rangeCall,r];simp[go_sem]
 ·grind [invoke]
 ·refine(callsIn_wide.2 (j o f _ rfl D (by rw[<-m];simp) u s)).mono ?_;rintro e i ⟨v,rfl,z,E⟩;have F:=run_endLoop (P:=jS) z (by simp[B5]);refine⟨none,_,F,k _ i _ z E ⟨⟨q.b.size,q.b.at_⟩,?_⟩⟩;show [K8 w.lH]++a.defers=_;rw[q.d];rfl
def G7{i m p D N:Nat}{a b:Code}{j:cI}{n:Loop}(o:n=B5 m W p a b D .ready)(q:j.heap[i]? =some (.loop n)){l:L}(C:wY N l ⟨W,[]⟩)(S:p<N){R:dB}(E:flat a=true)(F:flat b=true)
 (h:∀s t,t=j.putObj i (.loop s)->t.heap[i]? =some (.loop s)->WC V.prog Fj N a (λe u B=>e=.normal/\B=j/\WC V.prog Fj N b (λe G v=>e=.normal/\v.heap[i]? =some (.loop s)/\R (v.putObj i (.loop n))) u t) (ins N (some p) z l) j):
 ∃f d c g,Sem.run V.prog (Instr.yield i #[z]) j=.ok (.round i f d c g) j/\RoundIn Fence.wide 0 V.prog i f d c g j λH I=>H=.returned (.bool true)/\R I:=by
 subst o;have J:=run_yield (P:=jS) (args:=#[z]) q (by simp[B5]);refine⟨_,_,_,_,J,roundIn_of_wpIn trivial ?_⟩;have w:px [] N (ins N (some p) z l) ⟨W.setIfInBounds p z,[]⟩:=⟨C.put (some p) z cK,rfl⟩;have K:((B5 m W p a b D .ready).params.zip #[z]).foldl (λ(W:eF) (x:Tmp×cJ)=>W.setIfInBounds x.1 x.2) (B5 m W p a b D .ready).tmps=W.setIfInBounds p z:=by simp[B5]
 rw[K];refine wpIn_mono (lZ (r:=some i) dr a _ _ _ _ E w (h (B5 m W p a b D .busy) _ rfl (World.putObj_heap_same (dz.lt_of_heap q)))) ?_;rintro e M B ⟨u,y,rfl,rfl,k⟩;refine⟨_,run_beginRound q rfl,wpIn_mono (lZ (r:=some i) dr b _ u M _ F y k) ?_⟩;rintro e T v ⟨G,O,rfl,A,Q⟩;exact⟨_,_,run_endRound none A,rfl,Q⟩
def Ext.AO(h:Ext w t)(o:Obj)(b:w.heap.size<=m):Ext w (t.putObj m o):=
 ⟨h.os,h.tape,h.output,eV h.size,h.drawn,λx a=>(World.putObj_heap_other cL).trans (h.block x a)⟩
def mB(W:cI)(b:Nat)(o:Obj):dA (λx=>x=b) W (W.putObj b o):=
 ⟨rfl,rfl,rfl,dt,dg _,λx _ a=>World.putObj_heap_other a⟩
def pR(d:w.heap[m]? =some Q)(f:∀b t c,Q≠ .cells b t c)(a:w.cell? h=some x):(w.putObj m O).cell? h=some x:=by refine(mB w m O).fq a λe=>?_;unfold World.cell? at a;grind
def qq(G:Gd)(a:List cM)(b:cM):it G (a++[b])=fD G (it G a) b:=by simp[it]
structure Vt(G:Gd)(bb lb lp:Nat)(rc:Loop)(W1:cI)(B:Nat->Prop)(pre:List (List Nat))(W:cI):Prop where
 b:∀b,B b->W1.heap.size<=b
 k:dA (λb=>b=bb\/b=lb\/b=lp) W1 W
 l:W.heap[lp]? =some (.loop rc)
 lt:bb<W1.heap.size/\lb<W1.heap.size/\lp<W1.heap.size
 at_:∃a c,W.heap[bb]? =some (.cells #[.slice a (it G pre).1.length c] 27)/\iJ (λx=>B x\/x<W1.heap.size) W a (it G pre).1/\(it G pre).1.length<=c/\W.heap[lb]? =some (.cells #[.int .i64 (it G pre).2] 3)
def Vt.keep{n:Loop}{d:List cM}(h:Vt H m k i n w B d t)(f:dA B t e):Vt H m k i n w B d e:=by have⟨a,c,q,r,s,u⟩:=h.at_;have j:∀x,x<w.heap.size->¬B x:=λx p g=>iD (h.b x g);exact⟨h.b,h.k.trans f (λ_ _ h=>h) (λx p g=>absurd g (j x p)),f.fL h.l (j _ h.lt.2.2),h.lt,a,c,f.fL q (j _ h.lt.1),r.go (λ_ h=>.inl h) (λb o v g y=>f.fq y λz=>g (.inl z)),s,f.fL u (j _ h.lt.2.1)⟩
def mA.all{c:Nat->cJ}{F:(dn)->Prop}{R:(dn)->Nat->nB}(K:CP T c)(p:∃A,F A)(h:∀A,F A->mA c (R A) m w):mA c (λs v w=>∀A,F A->R A s v w) m w:=by have⟨q,d⟩:=p;have⟨j,a,k,r⟩:=(h q d).out;refine⟨j,a,k,λe l=>?_⟩;have⟨s,n,o,_⟩:=r e l;refine⟨s,n,o,λA t=>?_⟩;have⟨f,b,g,i⟩:=(h A t).out;rw[k]at g;obtain⟨rfl,rfl⟩:j=f/\a=b:=cK;have⟨u,x,y,z⟩:=i e l;obtain rfl:=K.inj s u n x (o.symm.trans y);grind
def Ex{gp mk ms n0 s:Nat}{F:(dn)->Prop}(h:qE gp mk ms N w)(au:∃A,F A)(C:∀A,F A->∀b,A b->b<w.heap.size)(hp:∀A,F A->mg A mk ms N w)(hn:n0<=ms)(hs:s<32)(hd:∀d∈eh s,d<N.doors.length):
 Calls V.prog 129 #[di gp,.int .u8 s] w (fM λv w'=>jH n0 w w'/\∀A,F A->mg A mk ms N w'/\ShR A N s v w'):=by
 have av:(eh s).length<=100000:=by grind [l7,eh]
 refine G6 (args:=[di gp,.int .u8 s]) 46 V.func129 rfl Tryz.ntmps129 dt λa hF=>wpS hF rfl (eH λw1 b2 e1 bf L a1 aK=>?_);have h1:=h.ext e1;have aw:=λA C=>(hp A C).ext e1;refine wpS aK rfl (cO (cN L rfl) (cO h1.Y0 (MJ Eu PP (z:=fl) dt (mA.all Eu au λA C=>(aw A C).s) hs (λv hv=>jX rfl λa2 af=>Vr rfl af rfl ⟨_,rfl,e1.iF n0,λA C=>⟨aw A C,hv A C⟩⟩) (lh rfl λa2 af=>?_))));refine wpS af rfl (eS λw2 q e2 bg ab a3 aL=>?_);refine wpS aL rfl (eS λw3 p e3 aM ac=>dI ac λw4 k4 ax a4 aN=>?_);have bh:=dz.lt_of_heap ab;have bi:=dz.lt_of_heap ac;have bj:=dz.lt_of_heap L;have e4:Ext w2 w4:=e3.cS k4 aM;have E4:Ext w w4:=(e1.trans e2).trans e4;have ay:fC w4 q #[fl] 27:=e4.at_ ab;have ad:fC w4 p #[i64 (-1)] 3:=ax;refine wpIn_seq<|wpS aN rfl (cX (ww s w4 hs) ?_);rintro bk w5 ⟨e5,az⟩;obtain⟨la,lc,rfl,ag,_⟩:=az.row;refine cX (MN la (eh s).length lc w5) ?_;rintro fv g ⟨e6,lv,rfl,bl,ae⟩;intro a6 ah;have bm:∀b o,la=some (dq b o)->w4.heap.size<=b/\b<w5.heap.size:=λb o f=>by obtain⟨_,⟨_,h2⟩|⟨b',c',cs,g1,h2,g3,_⟩⟩:=az;grind;grind
 have s1:=e1.size;have s2:=e2.size;have s4:=e4.size;have s5:=e5.size;have s6:=e6.size;have l6:lv<g.heap.size:=dz.lt_of_heap ae;have bn:p<w4.heap.size:=dz.lt_of_heap ad;have S:Ext w g:=E4.trans (e5.trans e6);have aA:fC g b2 #[di gp] 138:=((e2.trans e4).trans (e5.trans e6)).at_ L;have bo:q≠p/\q≠b2/\p≠b2:=cK;refine wpIn_block (MO ah rfl dt (I:=λW2=>∃M G B,Ext g G/\G.heap.size=g.heap.size+2/\G.heap[g.heap.size]? =some (.deferred (some []))/\Vt N q p (g.heap.size+1) M G B (oe (eh s)) W2) ?_ ?_);intro fn G M aO c aB hD hL;have ai:=ag.ext (e6.trans c);have aC:=c.at_ ae;refine(MM (lv:=lv) (lc:=lc) (lp:=g.heap.size+1) (F:=λb=>b=q\/b=p\/b=g.heap.size+1) (Y:=λB J W=>Vt N q p (g.heap.size+1) M G B J W) av rfl (cN aC rfl) ai (λb o f=>?_) (λb f=>?_) (λW2 B T hB=>?_) (λB J a b hy k=>hy.keep k) ?_).mono ?_;grind;refine⟨cL,cL,λb' o bp=>?_⟩;grind;refine⟨λb f=>(hB b f).1,T.keep _,T.at_ hL,cL,none,0,?_,λk hk=>by simp[it]at hk,gi _,?_⟩;exact T.at_ (c.at_ (e6.at_ (e5.at_ ay)));exact T.at_ (c.at_ (e6.at_ (e5.at_ ad)));intro B J K rb W aj aP al bq aD j;have EW:Ext w W:=⟨j.k.os.trans (S.trans c).os,j.k.tape.trans (S.trans c).tape,j.k.output.trans (S.trans c).output,cK,dw (S.trans c).drawn j.k.drawn,λx hx=>(j.k.block x cL cL).trans ((S.trans c).block x hx)⟩;have⟨ba,bc,g1,g2,g3,g4⟩:=j.at_;have⟨q1,q2,q3⟩:=j.lt;have lW:=j.k.size;refine G7 aO j.l ⟨ah.b.size,ah.b.at_⟩ cK (R:=λw'=>dA (λb=>b=q\/b=p\/b=g.heap.size+1) W w'/\Vt N q p (g.heap.size+1) M G B (J++[K]) w') rfl rfl λaE W0 U O=>⟨rfl,rfl,?_⟩;have kB:dA (λx=>x=g.heap.size+1) W W0:=by rw[U];exact mB _ _ _
 have bd:W0.heap.size=W.heap.size:=by rw[U];simp
 have E0:Ext w W0:=by rw[U];exact EW.AO _ cL
 clear U;have P:=kB.fL g1 cL;have t:=kB.fL g4 cL;have aQ:fC W0 b2 #[di gp] 138:=kB.fL (j.k.fL (c.at_ aA) cL) cL
 have am:∀(r:cI) (a':dV) (c':Nat) (y:cM) (D:Int),r.heap[g.heap.size+1]? =some (.loop aE)->fC r q #[.slice a' y.length c'] 27->fC r p #[i64 D] 3->it N (J++[K])=(y,D)->iJ (λx=>B x\/x<G.heap.size) r a' y->y.length<=c'->
  dA (λb=>b=q\/b=p\/b=g.heap.size+1) W0 r->Exit.normal=.normal/\r.heap[g.heap.size+1]? =some (.loop aE)/\dA (λb=>b=q\/b=p\/b=g.heap.size+1) W (r.putObj (g.heap.size+1) (.loop M))/\Vt N q p (g.heap.size+1) M G B (J++[K]) (r.putObj (g.heap.size+1) (.loop M)):=λr a' c' y D y1 y2 y3 y4 y5 y6 y7=>by
  have kE:=mB r (g.heap.size+1) (.loop M);have kW:dA (λb=>b=q\/b=p\/b=g.heap.size+1) W (r.putObj (g.heap.size+1) (.loop M)):=(kB.trans y7 (λ_ _ h=>.inr (.inr h)) λ_ _ h=>h).trans kE (λ_ _ h=>h) λ_ _ h=>.inr (.inr h);refine⟨rfl,y1,kW,j.b,j.k.trans kW (λ_ _ h=>h) λ_ _ h=>h,World.putObj_heap_same (dz.lt_of_heap y1),j.lt,a',c',?_,?_,?_,?_⟩;rw[y4];exact kE.fL y2 cL;rw[y4];exact y5.go (λ_ h=>.inl h) λb o v f n=>pR y1 (λ_ _ _ e=>cK) n;grind;rw[y4];exact kE.fL y3 cL
 have E:fN W0 (pt rb 0) K:=λk hk=>by have⟨b,o,z1,z2⟩:=al k hk;have br:=aj rb aP;have:b=rb:=cK;subst this;exact⟨b,o,z1,kB.fq z2 cK⟩
 have aR:∀d∈K,d<N.doors.length:=λd aS=>hd d (aD d aS);have aF:K.length<=100000:=cL;refine cO (cN aQ rfl) (dH (MB (h.ext E0) aR aF E) (cO (cN t rfl) (dK ⟨λaT=>jX rfl (cX (ng E cL) λuv w7 X=>?_),λbs=>cO (cN t rfl) (dK ⟨λaG=>cX (ng E cL) λuv w7 X=>?_,λbe=>?_⟩)⟩)));have⟨Z,X⟩:=X;obtain⟨ua,uc,rfl,an,ao⟩:=eK.Vq (A:=λx=>B x\/x<G.heap.size) X (λb f=>by obtain f|f:=f;have:=(aj b f).2;grind;grind);refine dI (Z.at_ P) λw8 k8 ap=>dI (k8.fL (Z.at_ t) cL) λr k9 aq=>?_
 exact am r _ _ _ _ (k9.fL (k8.fL (Z.at_ O) (show¬g.heap.size+1=q by omega)) (show¬g.heap.size+1=p by omega)) (k9.fL ap (show¬q=p by omega)) aq (by rw[qq,fD,cT (.inl (fH aT))]) (an.go (λ_ h=>.inl h) λb o v f n=>k9.fq (k8.fq n (λe=>f (.inr cK))) (λe=>f (.inr cK))) ao
  ((Z.keep (λb=>b=q\/b=p\/b=g.heap.size+1)).trans (k8.trans k9 (H:=λb=>b=q\/b=p\/b=g.heap.size+1) (λ_ _ h=>.inl h) λ_ _ h=>.inr (.inl h)) (λ_ _ h=>h) λ_ _ h=>h)
 have⟨Z,X⟩:=X;obtain⟨ua,uc,rfl,an,ao⟩:=eK.Vq (A:=λx=>B x\/x<G.heap.size) X (λb f=>by obtain f|f:=f;have:=(aj b f).2;grind;grind);refine dI (Z.at_ P) λw8 k8 ap=>dI (k8.fL (Z.at_ t) cL) λr k9 aq=>?_
 exact am r _ _ _ _ (k9.fL (k8.fL (Z.at_ O) (show¬g.heap.size+1=q by omega)) (show¬g.heap.size+1=p by omega)) (k9.fL ap (show¬q=p by omega)) aq (by rw[qq,fD,cT (.inr (fH aG))]) (an.go (λ_ h=>.inl h) λb o v f n=>k9.fq (k8.fq n (λe=>f (.inr cK))) (λe=>f (.inr cK))) ao
  ((Z.keep (λb=>b=q\/b=p\/b=g.heap.size+1)).trans (k8.trans k9 (H:=λb=>b=q\/b=p\/b=g.heap.size+1) (λ_ _ h=>.inl h) λ_ _ h=>.inr (.inl h)) (λ_ _ h=>h) λ_ _ h=>h)
 refine am W0 ba bc _ _ O P t (by rw[qq,fD,cR (by grind)]) (g2.go (λ_ h=>.inl h) λb o v f n=>kB.fq n (λe=>f (.inr cK))) g3 (dA.refl _ _);rintro e W2 ⟨v,rfl,B,j⟩;exact⟨_,rfl,j.l,_,G,B,c,aB,hD,j⟩;rintro M W2 a7 aU ⟨bt,G,B,c,aB,hD,j⟩ aV;have lD:=dz.lt_of_heap hD;have⟨q1,q2,q3⟩:=j.lt;have⟨ba,bc,g1,g2,g3,g4⟩:=j.at_;have EW:Ext w W2:=⟨j.k.os.trans (S.trans c).os,j.k.tape.trans (S.trans c).tape,j.k.output.trans (S.trans c).output,cK,dw (S.trans c).drawn j.k.drawn,λx hx=>(j.k.block x cL cL).trans ((S.trans c).block x hx)⟩;have D2:=j.k.fL hD cL;have aW:=j.k.fL (c.at_ aA) cL;have⟨W3,Q⟩:∃W3,W3=W2.putObj (g.heap.size+1) (.loop {M with state:=.exhausted}):=⟨_,rfl⟩;have k3:dA (λx=>x=g.heap.size+1) W2 W3:=by rw[Q];exact mB _ _ _
 have E3:Ext w W3:=by rw[Q];exact EW.AO _ cL
 have aX:iJ (λx=>B x\/x<G.heap.size) W3 ba (dF N s):=by rw[Q];exact g2.go (λ_ h=>.inl h) λb o v f n=>pR aU (λ_ _ _ e=>cK) n
 rw[<-Q];clear Q;have D3:=k3.fL D2 dt;have aY:=k3.fL aW cL;have aH:=k3.fL g1 cL;have h3:=h.ext E3;show Code.wpIn _ _ _ (Code.seq _ _) _ a7 W3;refine ZI aV dC (dl (cN aY rfl) (dl h3.Y0 (dl (cN aH rfl) λw8 e8=>?_)));have aa:=λA C=>(hp A C).ext (E3.trans e8);have aI:∀A,F A->ShR A N s (.slice ba (dF N s).length bc) w8:=λA i=>⟨ba,bc,rfl,(aX.go (λ_ h=>.inl h) λb o v f n=>e8.cell n).more λb f=>.inl (.inr (iD (C A i b f))),g3⟩;refine wC Eu PP (mA.all Eu au λA C=>(aa A C).s) hs hn (λr m=>⟨λs u X A C=>(X A C).go (λ_ h=>.inl h) λb o v f n=>m.cell n,λA C=>(aI A C).go (λ_ h=>.inl h) λb o v f n=>m.cell n⟩) λr m9 bu aZ=>?_;have bv:=h.ne;have ar:∀A,F A->mg A mk ms N r:=λA i=>⟨aZ.go (λs v hr=>hr A i) λo ho=>ho,(aa A i).k.go (λs v hr=>hr.go (λ_ h=>.inl h) λb o v f n=>m9.cell n) λo ho=>cK,(aa A i).ak,(aa A i).asm⟩;have a0:=λA i=>(aI A i).go (A':=A) (λ_ h=>.inl h) (λb o v f n=>m9.cell n);have D9:r.heap[g.heap.size]? =some (.deferred (some [])):=m9.block _ _ (e8.at_ D3) (.inr rfl);have a5:=m9.at_ (e8.at_ aH);intro a9 a8;refine wpS a8 rfl (cO (cN a5 rfl) λbw aJ=>wpIn_ret (Vs rfl aJ rfl D9 ⟨_,rfl,?_,λA i=>⟨?_,?_⟩⟩));exact(((E3.trans e8).iF n0).trans m9).cS (mB _ _ _) cL;refine(ar A i).go (λ_ h=>.inl h) (λb o v f n=>pR D9 (λ_ _ _ e=>cK) n) λb o f ho=>(World.putObj_heap_other λe=>?_).trans ho;have⟨bx,c1,t1,_⟩:=(ar A i).s.out;have⟨bz,c2,t2,_⟩:=(ar A i).k.out;obtain rfl|rfl:=f;grind;grind;exact(a0 A i).go (λ_ h=>.inl h) λb o v f n=>pR D9 (λ_ _ _ e=>cK) n
def yw{gp mk ms n0 s:Nat}(h:qE gp mk ms H w)(c:∀b,A b->b<w.heap.size)(f:mg A mk ms H w)(l:n0<=ms)(m:s<32)(n:∀d∈eh s,d<H.doors.length):
 Calls V.prog 129 #[di gp,.int .u8 s] w (fM λv g=>MR n0 mk ms H w g/\∀a,(∀b,a b->b<w.heap.size)->mg a mk ms H w->ShR a H s v g):=by
 refine(Ex (n0:=n0) (F:=λa=>(∀b,a b->b<w.lH)/\mg a mk ms H w) h ⟨A,c,f⟩ (λa h=>h.1) (λa h=>h.2) l m n).mono ?_;rintro e g ⟨v,rfl,o,k⟩;exact⟨v,rfl,⟨o,λa i j=>(k a ⟨i,j⟩).1⟩,λa i j=>(k a ⟨i,j⟩).2⟩
def G8{gp mk ms n0 s:Nat}(h:qE gp mk ms H w)(c:∀b,A b->b<w.heap.size)(f:mg A mk ms H w)(i:n0<=ms)(j:s<32)(k:∀d∈eh s,d<H.doors.length):
 Calls V.prog 129 #[di gp,.int .u8 s] w (fM λv a=>jH n0 w a/\mg A mk ms H a/\ShR A H s v a):=by
 refine(yw h c f i j k).mono ?_;rintro e a ⟨v,rfl,g,l⟩;exact⟨v,rfl,g.1,g.2 A c f,l A c f⟩
def MA(n0 mk ms:Nat)(G:Gd)(A:dn)(a b:cI):Prop:=jH n0 a b/\(mg A mk ms G a->mg A mk ms G b)
def zg(n0 mk ms:Nat)(G:Gd)(A:dn):gJ (MA n0 mk ms G A):=⟨λw=>⟨jH.refl _ _,id⟩,λ_ _ _ h k=>⟨h.1.trans k.1,λa=>k.2 (h.2 a)⟩,λw=>⟨(Ext.drew w).iF n0,λa=>a.ext (Ext.drew w)⟩⟩
def Ext.ma(h:Ext w t)(n0 mk ms:Nat)(G:Gd)(A:dn):MA n0 mk ms G A w t:=⟨h.iF n0,λa=>a.ext h⟩
def ShR.iF{s n0:Nat}(h:ShR A H s x w)(e:jH n0 w t):ShR A H s x t:=h.go (λ_ h=>.inl h) λb o x c a=>e.cell a
def Ey:∀d∈dF H s,d∈eh s:=by
 have rows:∀(l:cM) (m:Nat) (b:cM) (a:List Bool),(∀d∈b,d∈l)->∀r∈oZ l m b a,∀d∈r,d∈l:=by
  intro l m;induction m with
  |zero=>intro b a e r h;simp only[oZ,iv]at h;subst h;exact e
  |succ m n=>
   intro b a e r h;simp only[oZ,lq]at h;have⟨i,j,h⟩:=h;split at h;cases h;refine n _ _ (λd c=>?_) r h;obtain c|c:=jy.1 c;exact e d c;have j:i<l.iN:=eV j;rw[iv.1 c,getD_eq j];exact eB j
 have f:∀(g:List cM) (k:cM×Int),(∀r∈g,∀d∈r,d∈eh s)->(∀d∈k.1,d∈eh s)->∀d∈(g.foldl (fD H) k).1,d∈eh s:=by
  intro g;induction g with
  |nil=>intro k _ h;exact h
  |cons r g n=>
   intro k o p;rw[mj];refine n _ (λx q=>o x (ii _ q)) ?_;unfold fD;split;exact o r fF;exact p
 exact f _ _ (λr e=>rows _ _ _ _ (λd c=>by cases c) r e) λd c=>by cases c
theorem rQ{G:Gd}:(dF G s).length<=5:=by
 have rows:∀(l:cM) (m:Nat) (b:cM) (a:List Bool),∀r∈oZ l m b a,r.length=b.length+m:=by
  intro l m;induction m with
  |zero=>intro b a r h;simp only[oZ,iv]at h;subst h;rfl
  |succ m f=>
   intro b a r h;simp only[oZ,lq]at h;have⟨i,o,h⟩:=h;split at h;cases h;have:=f _ _ r h;simp at this;omega
 have c:∀(d:List cM) (e:cM×Int),(∀r∈d,r.length<=5)->e.1.length<=5->(d.foldl (fD G) e).1.length<=5:=by
  intro d;induction d with
  |nil=>intro e _ h;exact h
  |cons r d f=>
   intro e g j;rw[mj];refine f _ (λx k=>g x (ii _ k)) ?_;unfold fD;split;exact g r fF;exact j
 have p:=l7 s 5;exact c _ _ (λr n=>by have:=rows _ _ _ _ r n;simp[eh]at this⊢;omega) dt
def Ez{gp mk ms n0 s:Nat}{G:Gd}(h:qE gp mk ms G w)(m:∀b,A b->b<w.heap.size)(o:mg A mk ms G w)(p:n0<=ms)(q:s<32)(k:∀d∈eh s,d<G.doors.length):
 Calls V.prog 121 #[di gp,.int .u8 s] w (fM λv r=>v=.bool (l8 G s)/\MA n0 mk ms G A w r):=by
 have g:=zg n0 mk ms G A;refine jb Tryz.func121 Tryz.ntmps121 ?_;refine dD g<| .rel (ShR A G s) (λv a b h e=>h.iF e.1) (λi f=>cX (G8 (h.iF f.1) (λb t=>ep (m b t) f.1.size) (f.2 o) p q k) λv u ⟨x,y,z⟩=>⟨z,x,λ_=>y⟩)<| .exact (i64 (iA G (dF G s))) (λi f v l=>?_) ?_;obtain⟨a,c,rfl,B,_⟩:=l;have D:=rQ (G:=G) (s:=s);exact ek (Em (h.iF f.1) (λd j=>k d (Ey d j)) cL B.n) λu C=>⟨rfl,C.ma _ _ _ _ _⟩;refine xD g (λi f=>(h.iF f.1).c3) (Us ?_ g);rintro i f v l;exact⟨_,rfl,rfl,f⟩
section
variable{w:cI}{k:cJ->cI->Prop}
def tailA(a:dV)(c:Nat):dV:=if c=1 then a else a.map (·.add 1)
def La(j:1<=m)(l:m<=i)(h:k (.slice (tailA a i) (m-1) (i-1)) w)(d:ty T=some ⟨3,1,1,0⟩:=by rfl):jL V.prog (Instr.sliceAt T (.slice a m i) (some (.int .i64 1)) none none) w k:=by have⟨e,f,g⟩:=tA d rfl;refine⟨_,w,?_,h⟩;have b:(1:Int)<=(m:Int):=cL;have c:(0:Int)<=(1:Int):=cL;unfold Instr.sliceAt Instr.slice;simp only[Sem.run_bind,iz f,Result.andThen_ok,Instr.sliceBounds,Instr.sliceBound,asIntOf,pure_bind,c,b,and_self,ej,Sem.run_pure,mX g,xf,iH,fj];simp only[Int.toNat_one,Nat.one_mul,tailA]
end
def fN.tail{w:cI}(h:fN w a (m::l))(d:(m::l).length<=i):fN w (tailA a i) l:=λk e=>by
 have⟨b,o,f,g⟩:=h (k+1) (eV e);have c:¬i=1:=by simp at d;omega
 refine⟨b,o+1,?_,?_⟩;unfold tailA;rw[cR c,f];simp[iq];rw[show o+1+k=o+(k+1) by omega,g];rfl
def fN.cut{w:cI}(h:fN w a l)(i:Nat):fN w a (l.take i):=λk d=>by
 have c:k<l.length:=by simp at d;omega
 have⟨b,o,e,f⟩:=h k c;exact⟨b,o,e,by rw[f];simp⟩
def PU(a:eF):Prop:=∀(j:Nat) (v:cJ),a[j]? =some v->∃n:Int,v=Value.int .u8 n
def Ik(a:cM):dN:=a.map λn:Nat=>Value.int .u8 n
def G9(w:cI)(a:dV)(c:cM):Prop:=∀k (h:k<c.length),∃b o,a=some ⟨b,o,none⟩/\w.cell? ⟨b,o+k,none⟩=some (.int .u8 c[k])
def G9.iF{w c:cI}{n0:Nat}(h:G9 w a l)(e:jH n0 w c):G9 c a l:=λk d=>by have⟨b,o,f,g⟩:=h k d;exact⟨b,o,f,e.cell g⟩
def xF(f:Nat)(w:cI)(e:cJ)(a:cM):Prop:=(a=[]/\e=.slice none 0 0)\/∃d c b,e=.slice (some ⟨d,0,none⟩) a.length c/\a.length<=c/\f<=d/\w.heap[d]? =some (.cells b 154)/\PU b/\a.length<=b.size/\∀k (h:k<a.length),b[k]? =some (.int .u8 a[k])
def xF.iF{w a:cI}{b:cJ}{n0:Nat}(h:xF m w b l)(e:jH n0 w a):xF m a b l:=by obtain h|⟨d,c,f,g,i,j,k,n⟩:=h;exact .inl h;exact .inr ⟨d,c,f,g,i,j,e.at_ k,n⟩
def xF.row{w:cI}{d:cJ}(h:xF m w d l):∃a c,d=.slice a l.length c/\l.length<=c/\G9 w a l/\(a=none->l=[]):=by obtain⟨rfl,rfl⟩|⟨f,c,o,g,i,p,j,q,r,n⟩:=h;exact⟨none,0,rfl,dg _,λk b=>by simp at b,λ_=>rfl⟩;exact⟨_,c,g,i,λk b=>⟨f,0,rfl,cN j (by rw[dj];exact n k b)⟩,λe=>by cases e⟩
def EB{w:cI}{v:cJ}(h:cZ m 154 [.int .u8 0] w v l.length (Ik l)):xF m w v l:=by
 obtain⟨y,⟨i,rfl⟩|⟨b,c,n,o,rfl,p,q,r,z,g,s⟩⟩:=h;exact .inl ⟨oA i,rfl⟩;have t:(Ik l).length=l.length:=by simp[Ik]
 refine .inr ⟨b,c,n,rfl,r,o,p,λj v a=>?_,by simp at q;omega,λk u=>?_⟩;have d:=(iS.1 a).1;obtain e|f:=gu j (Ik l).length;rw[g j e]at a;obtain⟨x,_,rfl⟩:=kF.1 (pA a);exact⟨_,rfl⟩;rw[s j f d]at a;simp[Nat.mod_one]at a;exact⟨0,a.symm⟩;rw[g k cL];simp[Ik,eZ u]
def mg.sets{A:dn}{mk ms gb:Nat}{w:cI}{C:eF}(h:mg A mk ms H w)(q:w.heap[gb]? =some (.cells C T))(D:PU C):mg (λx=>A x\/x=gb) mk ms H w:=by
 have E:∀{a:dV} {l:cM},iJ A w a l->iJ (λx=>A x\/x=gb) w a l:=λf k r=>by have⟨b,o,j,g,d⟩:=f k r;refine⟨b,o,λi=>i.elim j λe=>?_,g,d⟩;subst e;simp only[World.cell?,q]at d;have⟨n,t⟩:=D _ _ d;cases t
 have I:∀{a:dV} {y:List cM},mQ A w a y->mQ (λx=>A x\/x=gb) w a y:=λf k r=>by have⟨b,o,J,K,j,g,d,m,z⟩:=f k r;refine⟨b,o,J,K,λi=>i.elim j λe=>?_,g,d,E m,z⟩;subst e;simp only[World.cell?,q]at d;have⟨n,t⟩:=D _ _ d;cases t
 have⟨L,O,F,_⟩:=h.s.out;have⟨M,P,G,_⟩:=h.k.out;refine⟨h.s.go (λs v f=>?_) λo B=>B,h.k.go (λs v f=>?_) λo B=>B,λi=>i.elim h.ak λe=>?_,λi=>i.elim h.asm λe=>?_⟩;have⟨a,c,g,d,m⟩:=f;exact⟨a,c,g,E d,m⟩;have⟨u,b,g,d⟩:=f;refine⟨u,b,g,?_⟩;cases p:fh H s with
 |none=>rw[p]at d;exact d
 |some y=>
  rw[p]at d;have⟨j,a,c,m,z,N⟩:=d;exact⟨j,a,c,m,I z,N⟩
 rw[e,q]at G;cases G;rw[e,q]at F;cases F
def mg.fewer{A a:dn}{mk ms:Nat}{w:cI}(h:mg a mk ms H w)(c:∀b,A b->a b):mg A mk ms H w:=h.more λb d=>.inl (c b d)
def ko(G:Gd)(s:Nat):Prop:=s<32/\∀d∈eh s,d<G.doors.length
def PV:∀s:Nat,s<32->∀d:Nat,d<5->∀x∈eh (ot s d),x∈eh s\/x=d:=by decide+kernel
theorem ko.ot(h:ko H s)(a:d<H.doors.length)(c:H.doors.length<=5):ko H (ot s d):=
 ⟨D8 s h.1 d cL,λx b=>(PV s h.1 d cL x b).elim (h.2 x) λe=>e▸a⟩
def ko.zero(G:Gd):ko G 0:=⟨cL,λd a=>by
 have:eh 0=[]:=by decide+kernel
 rw[this]at a;cases a⟩
theorem ko.eo{G:Gd}(c:G.doors.length<=5)(a:∀d∈l,d<G.doors.length):ko G (eo l):=by
 have b:∀(l:cM) (s:Nat),ko G s->(∀d∈l,d<G.doors.iN)->ko G (setFrom s l):=by
  intro l;induction l with
  |nil=>intro s h _;exact h
  |cons d r e=>intro s h a;exact e _ (h.ot (a d fF) c) λx f=>a x (ii _ f)
 exact b l 0 (ko.zero G) a
def l9{a:Type}{f:Nat->Option a}{k:Nat}{y:a}(g:k<m)(c:∀i,i<k->f i=none)(d:f k=some y):(List.range m).findSome? f=some y:=by obtain⟨b,rfl⟩:∃b,m=k+1+b:=⟨m-(k+1),cL⟩;rw[List.range_add,mL,List.findSome?_append,List.findSome?_append];have:(List.range k).findSome? f=none:=List.findSome?_eq_none_iff.2 λi e=>c i (eV e);simp[this,d]
theorem qu{a:Type}{f:Nat->Option a}(b:∀i,i<m->f i=none):(List.range m).findSome? f=none:=List.findSome?_eq_none_iff.2 λi c=>b i (eV c)
def jH.patch{w f h j g:cI}(a:jH m w f)(b:dA (λx=>x=i) f h)(c:jH m h j)(d:dA (λx=>x=i) j g)(n:∀o,f.heap[i]? =some o->g.heap[i]? =some o):jH m w g:=
 ⟨d.os.trans (c.os.trans (b.os.trans a.os)),d.tape.trans (c.tape.trans (b.tape.trans a.tape)),d.output.trans (c.output.trans (b.output.trans a.output)),by have:=a.size;have:=b.size;have:=c.size;have:=d.size;omega,by have:=a.drawn;have:=b.drawn;have:=c.drawn;have:=d.drawn;omega,λx o p k=>by have l:=a.block x o p k;by_cases e:x=i;subst e;exact n o l;exact d.fL (c.block x o (b.fL l e) k) e⟩
end Go.Proofs.W
