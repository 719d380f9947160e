/- Laws that the proof needs, part 14. Conditions: none. -/
import Derived.Test.YteeagjkaflglpaaGreatX12
import Derived.Test.YteeagjkaflglpaaGreatX13
set_option maxRecDepth 100000
set_option maxHeartbeats 8000000
set_option linter.all false
namespace Go.Proofs.W
open Go.RowKit
abbrev fW:=ce->cd->Prop
def zo{α:Type}(f:α->Bool):List α->Bool
 |[]=>false
 |x::r=>match f x with
  |true=>true
  |false=>zo f r
def RE:Option Nat->Nat->Bool
 |some d,t=>Nat.beq d t
 |none,_=>false
def TX(a:List Oper)(t:Nat):Bool:=zo (λo=>RE o.dst t) a
def xM(a:List Oper)(o:Oper)(t:Nat):Bool:=match TX a t with
 |false=>true
 |true=>zo (λe=>match Region.binds .any e with
  |true=>RE (BE a e.on) t
  |false=>false) o.after.toList
def rd:dj->List Nat
 | .tmp t=>[t]
 |_=>[]
def VG:List dj->List Nat
 |[]=>[]
 |x::r=>rd x++VG r
def WB:List (Nat×dj)->List Nat
 |[]=>[]
 |x::r=>rd x.2++WB r
def VH:Option dj->List Nat
 |none=>[]
 |some x=>rd x
def Qa:Op->List Nat
 | .move x=>rd x
 | .assign x=>rd x
 | .nilCheck x=>rd x
 | .fieldAddr _ x _=>rd x
 | .extract x _=>rd x
 | .field _ x _=>rd x
 | .load _ x=>rd x
 | .box _ x=>rd x
 | .unOp _ _ x=>rd x
 | .convert _ _ x=>rd x
 | .pick c x y=>rd c++(rd x++rd y)
 | .store _ x y=>rd x++rd y
 | .binOp _ _ x y _=>rd x++rd y
 | .makeSlice _ x y=>rd x++rd y
 | .indexAddr _ x y=>rd x++rd y
 | .index _ x y=>rd x++rd y
 | .lookup _ x y _=>rd x++rd y
 | .mapUpdate _ m x y=>rd m++(rd x++rd y)
 | .build _ ps=>WB ps.toList
 | .buildSlice _ _ ps=>WB ps.toList
 | .makeFunc _ a b=>VG a.toList++VG b.toList
 | .makeMap _ r=>VH r
 | .slice _ x a b c=>rd x++(VH a++(VH b++VH c))
 | .call c=>(match c.callee with
  | .value f=>rd f
  |_=>[])++VG c.args.toList
 |_=>[]
def Qb(a:List Oper)(o:Oper):List Nat:=match o.guard with
 |none=>[]
 |some (g,_)=>match BE a g with
  |some d=>[d]
  |none=>[]
def rr(c:Nat->Bool)(l:L):List Nat->L
 |[]=>[]
 |t::r=>match c t with
  |true=>(match lk l t with
   |some v=>(t,v)::rr c l r
   |none=>rr c l r)
  |false=>rr c l r
def mc(c:Nat->Bool):List (Nat×fW)->List (Nat×fW)
 |[]=>[]
 |p::r=>match c p.1 with
  |true=>p::mc c r
  |false=>mc c r
def zp(a:List Oper)(o:Oper):List Nat:=Qa o.op++Qb a o
def xN:List (Nat×fW)->cd->(L->Prop)->Prop
 |[],_,f=>f []
 |p::r,w,f=>∀v,p.2 v w->xN r w λl=>f ((p.1,v)::l)
def Fs(l:L):List Nat->Option (List ce)
 |[]=>some []
 |t::r=>match lk l t with
  |some v=>(match Fs l r with
   |some vs=>some (v::vs)
   |none=>none)
  |none=>none
abbrev A4:=List Nat×(List ce->cd->Prop)
def zq:List A4->L->cd->Prop->Prop
 |[],_,_,X=>X
 |p::r,l,w,X=>match Fs l p.1 with
  |some vs=>p.2 vs w->zq r l w X
  |none=>zq r l w X
inductive zr (E E':cd->cd->Prop) (w:cd) (f:cd->(ce->cd->Prop)->Prop) (kx:ce->Prop) (kr:fW->Prop) (kp:fW->Prop) (lb:Bool) (kl:fW->Prop) (ea:Bool):Prop
 |exact(v:ce) (h:∀w1,E' w w1->f w1 λu w2=>u=v/\E w1 w2) (k:kx v)
 |rel (R:fW) (st:∀v a b,R v a->E' a b->R v b) (h:∀w1,E' w w1->f w1 λu w2=>R u w2/\E w1 w2) (k:kr R)
 |Kg (R:fW) (st:∀v a b,R v a->E a b->R v b) (h:∀w1,E' w w1->f w1 λu w2=>R u w2/\E w1 w2) (k:kp R)
 |late (hb:lb=true) (R:fW) (st:∀v a b,R v a->E a b->R v b) (h:∀w1,E' w w1->f w1 λu w2=>R u w2/\E w1 w2) (k:kl R)
 |early (he:ea=true) (R:fW) (st:∀v a b,R v a->E a b->R v b) (h:∀w1,E w w1->f w1 λu w2=>R u w2/\E w1 w2) (k:kp R)
 |C3 (he:ea=true) (v:ce) (h:∀w1,E w w1->f w1 λu w2=>u=v/\E w1 w2) (k:kx v)
inductive WE (E1 E2 Es:cd->cd->Prop) (w:cd) (f:cd->(List ce->cd->Prop)->Prop) (kj:(List ce->cd->Prop)->Prop):Prop
 |xd (J:List ce->cd->Prop) (st:∀vs a b,J vs a->Es a b->J vs b) (h:∀w1,E1 w w1->f w1 λvs w2=>J vs w2/\E2 w1 w2) (k:kj J)
def Ft:List (Nat×fW)->List Nat
 |[]=>[]
 |p::r=>p.1::Ft r
def Kh:L->List ce
 |[]=>[]
 |p::r=>p.2::Kh r
def Ni(T:BC)(a:List Nat)(l:L):Op->Option ce
 | .move x=>ev l x
 | .assign x=>ev l x
 | .pick (.tmp c) x y=>match lk l c with
  |some (.bool b)=>(match mem c a with
   |true=>(match b with
    |true=>ev l x
    |false=>ev l y)
   |false=>none)
  |_=>none
 | .nilCheck x=>match ev l x with
  |some (.pointer (some ad))=>some (.pointer (some ad))
  |_=>none
 | .fieldAddr S x i=>match ev l x with
  |some (.pointer (some ⟨b,o,none⟩))=>(match T.off S i with
   |some d=>some (.pointer (some ⟨b,o+d,none⟩))
   |none=>none)
  |_=>none
 | .extract x i=>match ev l x with
  |some (.tuple vs)=>nth vs.toList i
  |_=>none
 | .makeFunc fn first cap=>match evs l first.toList with
  |some xs=>(match evs l cap.toList with
   |some ys=>some (.func fn xs.toArray ys.toArray)
   |none=>none)
  |none=>none
 |_=>none
def Fu{P:cf}{T:BC}{g:List Nat}{l:L}{w:cd}{o:Oper}{k:ce->cd->Prop}{s:cd->Prop}{pan:List PanicEntry->cd->Prop}{v:ce}(h:Ni T g l o.op=some v)(e:k v w):GG P T g l w o k s pan:=by
 unfold GG;unfold Ni at h;split at h;case h_1 x a=>simp only[a,h];exact e
 case h_2 x a=>simp only[a,h];exact e
 case h_3 c x y a=>
  simp only[a];split at h;rename_i b j;simp only[j];split at h;rename_i m;simp only[m];cases b with
  |true=>simp only at h⊢;simp only[h];exact e
  |false=>simp only at h⊢;simp only[h];exact e
  cases h
  cases h
 case h_4 x a=>
  simp only[a];split at h;rename_i t f;obtain rfl:=cE h;simp only[f];exact e;cases h
 case h_5 S x i a=>
  simp only[a];split at h;rename_i b n f;split at h;rename_i d p;obtain rfl:=cE h;simp only[f,p];exact e;cases h;cases h
 case h_6 x i a=>
  simp only[a];split at h;rename_i u f;simp only[f,h];exact e;cases h
 case h_7 z first cap a=>
  simp only[a];split at h;rename_i A q;split at h;rename_i B r;obtain rfl:=cE h;simp only[q,r];exact e;cases h;cases h
 case h_8=>cases h
def Hv(o:Oper)(r:List Oper):Bool:=match r,o.dst,o.guard with
 |[],none,none=>true
 |_,_,_=>false
def Qc{α:Type}(f:α->Bool):List α->Bool
 |[]=>true
 |x::r=>match f x with
  |true=>Qc f r
  |false=>false
def early0(a:List Oper)(i t:Nat):Bool:=match TX a t with
 |false=>false
 |true=>Qc (λo=>match RE o.dst t with
  |true=>zo (λe=>match Region.binds .any e with
   |true=>Nat.beq e.on i
   |false=>false) o.after.toList
  |false=>true) a
def pL(c e:Nat->Bool)(l l0:L):List Nat->L
 |[]=>[]
 |t::r=>match c t with
  |true=>(match lk l t with
   |some v=>(t,v)::pL c e l l0 r
   |none=>pL c e l l0 r)
  |false=>(match e t with
   |true=>(match lk l0 t with
    |some v=>(t,v)::pL c e l l0 r
    |none=>pL c e l l0 r)
   |false=>pL c e l l0 r)
def Qd(a:List Oper)(i:Nat)(o:Oper)(l l0:L):L:=pL (xM a o) (early0 a i) l l0 (zp a o)
def A5(d:Option Nat)(R:fW)(a:List (Nat×fW)):List (Nat×fW):=match d with
 |some d=>(d,R)::a
 |none=>a
def Nj(a:List Oper)(sp i:Nat):Bool:=match nth a sp with
 |some o=>zo (λe=>match Region.binds .any e with
  |true=>Nat.beq e.on i
  |false=>false) o.after.toList
 |none=>false
def ry(a:List Oper)(sp i:Nat):Bool:=match nth a sp with
 |some o=>zo (λe=>match Region.binds .any e with
  |true=>(match Nat.beq e.on i with
   |true=>true
   |false=>Nj a e.on i)
  |false=>false) o.after.toList
 |none=>false
def S5(b:Bool):List (Nat×fW)->List (Nat×fW)->List (Nat×fW)
 |[],a=>a
 |p::r,a=>match b with
  |true=>p::(r++a)
  |false=>a
def Nk{a:Bool}{ps b:List (Nat×fW)}{p:Nat×fW}(h:p∈S5 a ps b):p∈b\/(a=true/\p∈ps):=by
 cases ps with
 |nil=>exact .inl h
 |cons q r=>
  cases a with
  |false=>exact .inl h
  |true=>
   rcases eQ.1 h with rfl|h;exact .inr ⟨rfl,eR⟩;rcases gl.1 h with h|h;exact .inr ⟨rfl,eI _ h⟩;exact .inl h
def Fv(P:Program)(T:BC)(N:Nat)(pn:List PanicEntry->World->Prop)(E E':World->World->Prop)(a:List Oper)(w:World)(i:Nat)(l0:L)(o:Oper)(c:List Nat)(l:L)(b ps:List (Nat×fW))(f d:Bool)(go:L->List (Nat×fW)->List (Nat×fW)->Bool->Prop):Prop:=
 match Ni T c (Qd a i o l l0) o.op with
 |some v=>go (ins N o.dst v l) b ps false
 |none=>zr E E' w (λe g=>xN (S5 d (mc (xM a o) ps) (mc (xM a o) b)) e λh=>GG P T c (h++Qd a i o l l0) e o g (λ_=>False) pn)
  (λv=>go (ins N o.dst v l) b ps false) (λR=>go l (A5 o.dst R b) ps false) (λR=>go l b (A5 o.dst R ps) false) f (λR=>go l (A5 o.dst R b) ps true) d
def UJ(P:cf)(T:BC)(E E':cd->cd->Prop)(a:List Oper)(w:cd)(o:Oper)(e:List Nat)(l:L)(b:List (Nat×fW))(go:A4->Prop):Prop:=
 WE E' E E' w (λc f=>xN (mc (xM a o) b) c λd=>GG P T e (d++rr (xM a o) l (zp a o)) c o (λ_ _=>False) (λg=>f (Kh d) g) λ_ _=>False)
  (λJ=>go (Ft (mc (xM a o) b),J))
def runT(P:cf)(T:BC)(E E':cd->cd->Prop)(a:List Oper)(w:cd)(o:Oper)(e:List Nat)(l:L)(b ps:List (Nat×fW))(go:A4->Prop):Prop:=
 WE E E' E w (λc f=>xN (mc (xM a o) ps++mc (xM a o) b) c λd=>GG P T e (d++rr (xM a o) l (zp a o)) c o (λ_ _=>False) (λg=>f (Kh d) g) λ_ _=>False)
  (λJ=>go (Ft (mc (xM a o) ps++mc (xM a o) b),J))
inductive Ze (E E':cd->cd->Prop) (w:cd) (f:cd->(ce->cd->Prop)->Prop) (kr:fW->Prop):Prop
 |spec (R:fW) (st:∀v a b,R v a->E a b->R v b) (h:∀w1,E w w1->f w1 λu w2=>R u w2/\E' w1 w2) (k:kr R)
def UK(P:cf)(T:BC)(pn:List PanicEntry->cd->Prop)(E E':cd->cd->Prop)(a:List Oper)(w:cd)(o:Oper)(c:List Nat)(l:L)(d ps:List (Nat×fW))(go:fW->Prop):Prop:=
 Ze E E' w (λb e=>xN (mc (xM a o) ps++mc (xM a o) d) b λf=>GG P T c (f++rr (xM a o) l (zp a o)) b o e (λ_=>False) pn) go
def zt:List (Nat×fW)->List (Nat×fW)->List (Nat×fW)
 |[],a=>a
 |p::r,a=>(p.1,λ_ _=>True)::zt r a
def uE(a:List Nat)(o:Oper):Bool:=match o.dst with
 |some _=>zo (λe=>match Region.binds .any e with
  |true=>mem e.on a
  |false=>false) o.after.toList
 |none=>false
def Hw(b:Bool)(i:Nat)(a:List Nat):List Nat:=match b with
 |true=>i::a
 |false=>a
def I3(o:Oper):Bool:=match o.dst,o.guard with
 |none,none=>(match o.op with
  | .store _ _ _=>true
  | .mapUpdate _ _ _ _=>true
  |_=>false)
 |_,_=>false
def DW(P:cf)(T:BC)(N:Nat)(pn:List PanicEntry->cd->Prop)(E E':cd->cd->Prop)(sp:Nat)(a:List Oper)(w:cd)(l0:L)(K:L->cd->Prop):Nat->List Oper->List Nat->L->List (Nat×fW)->List (Nat×fW)->List A4->List Nat->Prop
 |_,[],_,l,h,ps,k,j=>∀w1,E' w w1->xN h w1 λl'=>zq k l' w1 (K (l'++l) w1)
 |i,o::r,c,l,h,ps,k,j=>match Hv o r with
  |true=>∀w1,E' w w1->xN h w1 λl'=>zq k l' w1 (GG P T [] (l'++l) w1 o (λ_ _=>False) (λq=>K (l'++l) q) λ_ _=>False)
  |false=>match I3 o with
  |true=>(match Nat.beq i sp with
   |true=>runT P T E E' a w o c l h ps λp=>DW P T N pn E E' sp a w l0 K (i+1) r c l (zt ps h) [] (p::k) j
   |false=>UJ P T E E' a w o c l h λp=>DW P T N pn E E' sp a w l0 K (i+1) r c l h ps (p::k) j)
  |false=>VF N o.dst (match o.guard with
   |none=>(match Nat.beq i sp with
    |true=>UK P T pn E E' a w o c l h ps λR=>DW P T N pn E E' sp a w l0 K (i+1) r c l (A5 o.dst R (zt ps h)) [] k (match o.dst with
     |some _=>[i]
     |none=>[])
    |false=>Fv P T N pn E E' a w i l0 o c l h ps (uE j o) (ry a sp i) λl' e f m=>DW P T N pn E E' sp a w l0 K (i+1) r c l' e f k (Hw m i j))
   |some (g,n)=>(match BE a g with
    |none=>False
    |some d=>match xM a o d with
     |false=>False
     |true=>match lk l d with
      |some (.bool b)=>(match mem d c with
       |true=>(match b,n with
        |true,true=>Fv P T N pn E E' a w i l0 o c l h ps (uE j o) (ry a sp i) λl' e f m=>DW P T N pn E E' sp a w l0 K (i+1) r c l' e f k (Hw m i j)
        |false,false=>Fv P T N pn E E' a w i l0 o c l h ps (uE j o) (ry a sp i) λl' e f m=>DW P T N pn E E' sp a w l0 K (i+1) r c l' e f k (Hw m i j)
        |_,_=>DW P T N pn E E' sp a w l0 K (i+1) r c (ins N o.dst undef l) h ps k j)
       |false=>(match n with
        |true=>(b=true->Fv P T N pn E E' a w i l0 o (d::c) ((d,.bool true)::l) h ps (uE j o) (ry a sp i) λl' e f m=>DW P T N pn E E' sp a w l0 K (i+1) r (d::c) l' e f k (Hw m i j))/\
         (b=false->DW P T N pn E E' sp a w l0 K (i+1) r (d::c) (ins N o.dst undef ((d,.bool false)::l)) h ps k j)
        |false=>(b=true->DW P T N pn E E' sp a w l0 K (i+1) r (d::c) (ins N o.dst undef ((d,.bool true)::l)) h ps k j)/\
         (b=false->Fv P T N pn E E' a w i l0 o (d::c) ((d,.bool false)::l) h ps (uE j o) (ry a sp i) λl' e f m=>DW P T N pn E E' sp a w l0 K (i+1) r (d::c) l' e f k (Hw m i j))))
      |some (.tuple _)=>DW P T N pn E E' sp a w l0 K (i+1) r c (ins N o.dst undef l) h ps k j
      |_=>False))
def xe(a:List Oper):L->L
 |[]=>[]
 |p::r=>match TX a p.1 with
  |true=>xe a r
  |false=>p::xe a r
def sV:List Oper->Nat
 |[]=>0
 |o::r=>match Hv o r with
  |true=>0
  |false=>sV r+1
section
variable{P:cf}{T:BC}{N m sp:Nat}{pn:List PanicEntry->cd->Prop}{E E':cd->cd->Prop}{ops:Array Oper}{w0:cd}{a0:Act}{K:L->cd->Prop}{Q:Exit->Act->cd->Prop}
theorem lO{α:Type}{f:α->Bool}:∀{l:List α},zo f l=true->∃x∈l,f x=true
 |x::r,h=>by simp only[zo]at h;split at h;rename_i a;exact⟨x,eR,a⟩;obtain⟨y,b,c⟩:=lO h;exact⟨y,eI _ b,c⟩
theorem I4{α:Type}{f:α->Bool}:∀{l:List α} {x:α},x∈l->f x=true->zo f l=true
 |y::r,x,h,a=>by simp only[zo];rcases eQ.1 h with rfl|h;rw[a];split;rfl;exact I4 h a
def yd{d:Option Nat}{t:Nat}:RE d t=true↔d=some t:=by
 cases d with
 |none=>simp[RE]
 |some d=>
  simp only[RE,fI];exact⟨gE,λh=>by rw[h];exact yA t⟩
def si{ops:Array Oper}{t:Nat}:TX ops.toList t=wrote ops t:=by
 cases h:TX ops.toList t with
 |true=>
  obtain⟨o,a,b⟩:=lO h;exact(sE.2 ⟨o,by simpa using a,by simpa using yd.1 b⟩).symm
 |false=>
  cases b:wrote ops t with
  |false=>rfl
  |true=>
   obtain⟨o,a,c⟩:=sE.1 b;have:=I4 (f:=λo=>RE o.dst t) (by simpa using a:o∈ops.toList) (yd.2 (by simpa using c));unfold TX at h;rw[h]at this;cases this
def Ki(e:lN ops N m=true){i j t:Nat}{o o':Oper}(f:ops[i]? =some o)(c:ops[j]? =some o')(h:o.dst=some t)(g:o'.dst=some t):i=j:=by have k:i<ops.size:=(eP.1 f).1;have l:j<ops.size:=(eP.1 c).1;simp only[lN,ez]at e;have a:=jF.1 e.1 i (eJ.2 k);rw[f]at a;simp only[ez]at a;have d:=a.2;rw[h]at d;simp only[ez,jk]at d;have b:=jF.1 d.2 j (eJ.2 l);rw[c]at b;simp only[g,L4,jk]at b;rcases b with b|b;exact b.symm;simp at b
structure Cons(ops:Array Oper)(a0:Act)(i:Nat)(S:Nat->Bool->fW)(l:L)(rs ps:List (Nat×fW))(js:List A4):Prop where
 l:∀t v,lk l t=some v->(wrote ops t=false/\a0.eval (.tmp t)=v)\/∃j o,j<i/\ops[j]? =some o/\o.dst=some t/\∀b u w,S j b u w->u=v
 r:∀p∈rs,∃j o,j<i/\ops[j]? =some o/\o.dst=some p.1/\∀b u w,S j b u w->p.2 u w
 p:∀p∈ps,∃j o,j<i/\ops[j]? =some o/\o.dst=some p.1/\∀u w,S j false u w->p.2 u w
 j:∀p∈js,∃j o,j<i/\ops[j]? =some o/\o.dst=none/\∀b a w,S j b (gR ops o a) w->p.2 (p.1.map λt=>a.eval (.tmp t)) w
structure At(ops:Array Oper)(a0:Act)(N i:Nat)(S:Nat->Bool->fW)(b:Bool)(D:Nat->Prop)(a:Act)(w:cd):Prop where
 size:a.tmps.size=N
 defers:a.defers=a0.defers
 keep:∀j,Before ops i j->a.eval (.tmp j)=a0.eval (.tmp j)
 val:∀j d,D j->((ops[j]?).bind (·.dst))=some d->S j b (a.eval (.tmp d)) w
def nw(G:lN ops N m=true){i:Nat}{S S':Nat->Bool->fW}{l:L}{H:List A4}{C ps:List (Nat×fW)}{b:Bool}(q:Cons ops a0 i S l C ps H)(s:∀j,j<i->S' j=S j){o:Oper}{a:Act}{w:cd}
 (D:At ops a0 N i S' b (λj=>(o.after.any λe=>e.on==j&&Region.binds .any e)=true) a w){t:Nat}(u:xM ops.toList o t=true):(∀v,lk l t=some v->a.eval (.tmp t)=v)/\(∀p∈C,p.1=t->p.2 (a.eval (.tmp t)) w)/\(b=false->∀p∈ps,p.1=t->p.2 (a.eval (.tmp t)) w):=by
 have k:wrote ops t=true->∀j g,ops[j]? =some g->g.dst=some t->S' j b (a.eval (.tmp t)) w:=λx j g c d=>by
  unfold xM at u;rw[si,x]at u;obtain⟨e,I,y⟩:=lO u;split at y;rename_i J;have E:=yd.1 y;rw[pf]at E;have F:(ops[e.on]?).bind (·.dst)=some t:=by simpa using E
  obtain⟨M,z,A⟩:=ti.1 F;obtain rfl:=Ki G z c A d;exact D.val _ _ (sE.2 ⟨e,by simpa using I,by simp[J]⟩) F;cases y
 have f:∀{j:Nat} {g:Oper},ops[j]? =some g->g.dst=some t->wrote ops t=true:=λc d=>sE.2 ⟨_,l7 c,by simp[d]⟩;refine⟨λv K=>?_,?_,?_⟩;rcases q.l t v K with⟨x,h⟩|⟨j,g,n,c,d,h⟩;rw[D.keep t (Kf x)];exact h;have:=k (f c d) j g c d;rw[s j n]at this;exact h _ _ _ this;rintro p B rfl;obtain⟨j,g,n,c,d,h⟩:=q.r p B;have:=k (f c d) j g c d;rw[s j n]at this;exact h _ _ _ this;rintro rfl p B rfl;obtain⟨j,g,n,c,d,h⟩:=q.p p B;have:=k (f c d) j g c d;rw[s j n]at this;exact h _ _ this
theorem rz{c:Nat->Bool}{l:L}{a:Act}(h:∀t,c t=true->∀v,lk l t=some v->a.eval (.tmp t)=v):∀(d:List Nat) (t:Nat) (v:ce),lk (rr c l d) t=some v->a.eval (.tmp t)=v
 |[],t,v,b=>by cases b
 |x::r,t,v,b=>by simp only[rr]at b;split at b;rename_i e;split at b;rename_i u f;simp only[lk]at b;split at b;rename_i g;obtain rfl:=gE g;obtain rfl:=cE b;exact h x e _ f;exact rz h r t v b;exact rz h r t v b;exact rz h r t v b
theorem zu{a:Act}{w:cd}:∀{c:List (Nat×fW)} {f:L->Prop},xN c w f->(∀p∈c,p.2 (a.eval (.tmp p.1)) w)->∃l',f l'/\∀t v,lk l' t=some v->a.eval (.tmp t)=v
 |[],f,h,_=>⟨[],h,λt v b=>by cases b⟩
 |p::r,f,h,d=>by obtain⟨l',e,g⟩:=zu (h _ (d p eR)) λq i=>d q (eI _ i);refine⟨_,e,λt v b=>?_⟩;simp only[lk]at b;split at b;rename_i j;obtain rfl:=gE j;exact cE b;exact g t v b
def C4{l l':L}{t:Nat}{v:ce}(h:lk (l'++l) t=some v):lk l' t=some v\/lk l t=some v:=by
 induction l' with
 |nil=>exact .inr h
 |cons p r a=>
  simp only[qn,lk]at h⊢;split at h;exact .inl h;exact a h
theorem fa{c:Nat->Bool}:∀{a:List (Nat×fW)} {p:Nat×fW},p∈mc c a->p∈a/\c p.1=true
 |q::r,p,h=>by simp only[mc]at h;split at h;rename_i b;rcases eQ.1 h with rfl|h;exact⟨eR,b⟩;exact⟨eI _ (fa h).1,(fa h).2⟩;exact⟨eI _ (fa h).1,(fa h).2⟩
def oE(o:Oper)(j:Nat):Prop:=(o.after.any λe=>e.on==j&&Region.binds .any e)=true
theorem Cons.ins{i:Nat}{S S':Nat->Bool->fW}{l:L}{A:List A4}{B ps:List (Nat×fW)}(s:Cons ops a0 i S l B ps A)(y:∀j,j<i->S' j=S j){o:Oper}(C:ops[i]? =some o){v:ce}(D:∀d,o.dst=some d->∀b u w,S' i b u w->u=v):Cons ops a0 (i+1) S' (W.ins N o.dst v l) B ps A:=by
 have e:∀t u,lk l t=some u->(wrote ops t=false/\a0.eval (.tmp t)=u)\/∃j o,j<i+1/\ops[j]? =some o/\o.dst=some t/\∀b x w,S' j b x w->x=u:=λt u h=>by rcases s.l t u h with h|⟨j,f,g,k,m,n⟩;exact .inl h;exact .inr ⟨j,f,by omega,k,m,by rw[y j g];exact n⟩
 refine⟨λt u c=>?_,λp q=>?_,λp q=>?_,λp q=>?_⟩;cases z:o.dst with
 |none=>rw[z]at c;exact e t u c
 |some d=>
  rw[z]at c;simp only[W.ins]at c;split at c;simp only[lk]at c;split at c;rename_i E;obtain rfl:=gE E;obtain rfl:=cE c;exact .inr ⟨i,o,by omega,C,z,D _ z⟩;exact e t u c;exact e t u c
 obtain⟨j,f,g,k,m,n⟩:=s.r p q;exact⟨j,f,by omega,k,m,by rw[y j g];exact n⟩;obtain⟨j,f,g,k,m,n⟩:=s.p p q;exact⟨j,f,by omega,k,m,by rw[y j g];exact n⟩;obtain⟨j,f,g,k,m,n⟩:=s.j p q;exact⟨j,f,by omega,k,m,λb a w h=>n b a w (by rw[<-y j g];exact h)⟩
def Cons.zk{i:Nat}{S:Nat->Bool->fW}{l:L}{c:List A4}{e ps:List (Nat×fW)}(a:Cons ops a0 i S l e ps c){d:Nat}{v:ce}(f:lk l d=some v):Cons ops a0 i S ((d,v)::l) e ps c:=by refine⟨λt u b=>?_,a.r,a.p,a.j⟩;simp only[lk]at b;split at b;rename_i g;obtain rfl:=gE g;obtain rfl:=cE b;exact a.l _ _ f;exact a.l t u b
theorem Cons.A5{i:Nat}{S S':Nat->Bool->fW}{l:L}{y:List A4}{x ps:List (Nat×fW)}(q:Cons ops a0 i S l x ps y)(s:∀j,j<i->S' j=S j){o:Oper}(z:ops[i]? =some o){R:fW}(A:∀d,o.dst=some d->∀b u w,S' i b u w->R u w):Cons ops a0 (i+1) S' l (W.A5 o.dst R x) ps y:=by
 have n:∀p∈x,∃j o,j<i+1/\ops[j]? =some o/\o.dst=some p.1/\∀b u w,S' j b u w->p.2 u w:=λp c=>by obtain⟨j,e,f,g,k,m⟩:=q.r p c;exact⟨j,e,by omega,g,k,by rw[s j f];exact m⟩
 refine⟨λt u h=>?_,λp c=>?_,λp c=>?_,λp c=>?_⟩;rcases q.l t u h with h|⟨j,e,f,g,k,m⟩;exact .inl h;exact .inr ⟨j,e,by omega,g,k,by rw[s j f];exact m⟩;cases v:o.dst with
 |none=>rw[v]at c;exact n p c
 |some d=>
  rw[v]at c;rcases eQ.1 c with rfl|c;exact⟨i,o,by omega,z,v,A _ v⟩;exact n p c
 obtain⟨j,e,f,g,k,m⟩:=q.p p c;exact⟨j,e,by omega,g,k,by rw[s j f];exact m⟩;obtain⟨j,e,f,g,k,m⟩:=q.j p c;exact⟨j,e,by omega,g,k,λb a w h=>m b a w (by rw[<-s j f];exact h)⟩
def Cons.WF{i:Nat}{S S':Nat->Bool->fW}{l:L}{s ps:List (Nat×fW)}{v:List A4}(m:Cons ops a0 i S l s ps v)(n:∀j,j<i->S' j=S j){o:Oper}(x:ops[i]? =some o)(y:o.dst=none){q:A4}(z:∀b a w,S' i b (gR ops o a) w->q.2 (q.1.map λt=>a.eval (.tmp t)) w):Cons ops a0 (i+1) S' l s ps (q::v):=by refine⟨λt u h=>?_,λp c=>?_,λp c=>?_,λp c=>?_⟩;rcases m.l t u h with h|⟨j,d,e,f,g,k⟩;exact .inl h;exact .inr ⟨j,d,by omega,f,g,by rw[n j e];exact k⟩;obtain⟨j,d,e,f,g,k⟩:=m.r p c;exact⟨j,d,by omega,f,g,by rw[n j e];exact k⟩;obtain⟨j,d,e,f,g,k⟩:=m.p p c;exact⟨j,d,by omega,f,g,by rw[n j e];exact k⟩;rcases eQ.1 c with rfl|c;exact⟨i,o,by omega,x,y,z⟩;obtain⟨j,d,e,f,g,k⟩:=m.j p c;exact⟨j,d,by omega,f,g,λb a w h=>k b a w (by rw[<-n j e];exact h)⟩
theorem BG:∀{ps a:List (Nat×fW)} {p:Nat×fW},p∈zt ps a->p∈a\/∃q∈ps,p=(q.1,λ_ _=>True)
 |[],a,p,h=>.inl h
 |q::r,a,p,h=>by rcases eQ.1 h with rfl|h;exact .inr ⟨q,eR,rfl⟩;rcases BG h with h|⟨x,b,c⟩;exact .inl h;exact .inr ⟨x,eI _ b,c⟩
def Cons.X4{i:Nat}{S:Nat->Bool->fW}{l:L}{c ps:List (Nat×fW)}{d:List A4}(a:Cons ops a0 i S l c ps d):Cons ops a0 i S l (zt ps c) [] d:=by refine⟨a.l,λp b=>?_,(λp b=>by cases b),a.j⟩;rcases BG b with h|⟨q,e,rfl⟩;exact a.r p h;obtain⟨j,o,f,g,k,_⟩:=a.p q e;exact⟨j,o,f,g,k,λ_ _ _ _=>trivial⟩
def Cons.UL{i:Nat}{S S':Nat->Bool->fW}{l:L}{x ps:List (Nat×fW)}{y:List A4}(q:Cons ops a0 i S l x ps y)(s:∀j,j<i->S' j=S j){o:Oper}(z:ops[i]? =some o){R:fW}(A:∀d,o.dst=some d->S' i false=R):Cons ops a0 (i+1) S' l x (W.A5 o.dst R ps) y:=by
 have n:∀p∈ps,∃j o,j<i+1/\ops[j]? =some o/\o.dst=some p.1/\∀u w,S' j false u w->p.2 u w:=λp c=>by obtain⟨j,e,f,g,k,m⟩:=q.p p c;exact⟨j,e,by omega,g,k,by rw[s j f];exact m⟩
 refine⟨λt u h=>?_,λp c=>?_,λp c=>?_,λp c=>?_⟩;rcases q.l t u h with h|⟨j,e,f,g,k,m⟩;exact .inl h;exact .inr ⟨j,e,by omega,g,k,by rw[s j f];exact m⟩;obtain⟨j,e,f,g,k,m⟩:=q.r p c;exact⟨j,e,by omega,g,k,by rw[s j f];exact m⟩;cases v:o.dst with
 |none=>rw[v]at c;exact n p c
 |some d=>
  rw[v]at c;rcases eQ.1 c with rfl|c;exact⟨i,o,by omega,z,v,λu w h=>by rw[A _ v]at h;exact h⟩;exact n p c
 obtain⟨j,e,f,g,k,m⟩:=q.j p c;exact⟨j,e,by omega,g,k,λb a w h=>m b a w (by rw[<-s j f];exact h)⟩
structure Told(E E':cd->cd->Prop)(R:Bool->fW):Prop where
 e:∀b v w w',R b v w->E w w'->R b v w'
 x:∀v w w',R false v w->E' w w'->R true v w'
theorem I5{α:Type}{f:α->Bool}:∀{l:List α},Qc f l=true->∀x∈l,f x=true
 |y::r,h,x,a=>by simp only[Qc]at h;split at h;rename_i b;rcases eQ.1 a with rfl|a;exact b;exact I5 h x a;cases h
def Kj{i t:Nat}(h:early0 ops.toList i t=true):Before ops i t:=λk o b c=>by unfold early0 at h;split at h;cases h;have:=I5 h o (by simpa using l7 b);rw[c,show RE (some t) t=true from yA t]at this;obtain⟨e,d,a⟩:=lO this;split at a;rename_i f;unfold waits;rw[b];exact sE.2 ⟨e,by simpa using d,by simp[gE a,f]⟩;cases a
theorem BH{c e:Nat->Bool}{l l0:L}{a:Act}(h:∀t,c t=true->∀v,lk l t=some v->a.eval (.tmp t)=v)(j:∀t,e t=true->∀v,lk l0 t=some v->a.eval (.tmp t)=v):∀(k:List Nat) (t:Nat) (v:ce),lk (pL c e l l0 k) t=some v->a.eval (.tmp t)=v
 |[],t,v,b=>by cases b
 |x::r,t,v,b=>by
  have g:=BH h j r t v;have d:∀u,a.eval (.tmp x)=u->lk ((x,u)::pL c e l l0 r) t=some v->a.eval (.tmp t)=v:=λu f h=>by simp only[lk]at h;split at h;rename_i m;obtain rfl:=gE m;obtain rfl:=cE h;exact f;exact g h
  simp only[pL]at b;split at b;rename_i i;split at b;rename_i u f;exact d u (h x i u f) b;exact g b;split at b;rename_i i;split at b;rename_i u f;exact d u (j x i u f) b;exact g b;exact g b
def Nl(J:n5 P T)(y:∀c a w,a.tmps.size=N->a.defers=a0.defers->pn c w->Q (.panic c) a w)(hE:fw E)(ab:∀a b,E a b->E' a b)(hB:lN ops N m=true){i:Nat}{S:Nat->Bool->fW}{l:L}{rs ps:List (Nat×fW)}{js:List A4}{ks:List Nat}{o:Oper}{lb ea:Bool}{l0:L}(ac:∀t v,lk l0 t=some v->a0.eval (.tmp t)=v){go:L->List (Nat×fW)->List (Nat×fW)->Bool->Prop}(G:Cons ops a0 i S l rs ps js)(K:ops[i]? =some o) (h:Fv P T N pn E E' ops.toList w0 i l0 o ks l rs ps lb ea go):∃R:Bool->fW,Told E E' R/\
  (∀(S':Nat->Bool->fW) (b:Bool),(lb=true->b=true)->(∀j,j<i->S' j=S j)->∀a w,At ops a0 N i S' b (oE o) a w->(ea=true->b=false/\E w0 w)->E' w0 w->o.wp P a w (λa' w'=>∃v,a'=a.put o.dst v/\E w w'/\R b v w') Q)/\
  ∃l' V W X,go l' V W X/\(X=true->lb=true/\∀u w,¬R false u w)/\∀S':Nat->Bool->fW,(∀j,j<i->S' j=S j)->(∀d,o.dst=some d->S' i=R)->Cons ops a0 (i+1) S' l' V W js:=by
 have frame:∀(S':Nat->Bool->fW) (b:Bool),(∀j,j<i->S' j=S j)->∀a w,At ops a0 N i S' b (oE o) a w->∀r:L,(∀t v,lk r t=some v->a.eval (.tmp t)=v)->vE N (r++Qd ops.toList i o l l0) a:=λS' b g a w n r Y=>by refine⟨n.size,λt v ht=>?_⟩;rcases C4 ht with h|h;exact Y t v h;exact BH (λt hc v Z=>(nw hB G g n hc).1 v Z) (λt hc v Z=>(n.keep t (Kj hc)).trans (ac t v Z)) _ t v h
 have x:∀(S':Nat->Bool->fW) (b:Bool),(∀j,j<i->S' j=S j)->∀a w,At ops a0 N i S' b (oE o) a w->(ea=true->b=false)->∀f:L->Prop,xN (S5 ea (mc (xM ops.toList o) ps) (mc (xM ops.toList o) rs)) w f->∃r,f r/\vE N (r++Qd ops.toList i o l l0) a:=λS' b g a w n q f hf=>by
  obtain⟨r,z,A⟩:=zu (a:=a) hf λp M=>by rcases Nk M with M|⟨D,M⟩;exact(nw hB G g n (fa M).2).2.1 p (fa M).1 rfl;exact(nw hB G g n (fa M).2).2.2 (q D) p (fa M).1 rfl
  exact⟨r,z,frame S' b g a w n r A⟩
 unfold Fv at h;split at h;rename_i v Z;refine⟨λ_ u _=>u=v,⟨λ_ _ _ _ h _=>h,λ_ _ _ h _=>h⟩,λS' b _ g a w n q D=>?_,_,_,_,_,h,(λh=>by cases h),λS' g B=>G.ins g K λd C b u w H=>by rw[B d C]at H;exact H⟩;refine iz J (frame S' b g a w n [] λt v ht=>by cases ht) (Fu (k:=λu w2=>u=v/\w2=w) (s:=λ_=>False) (pan:=λ_ _=>False) Z ⟨rfl,rfl⟩) ?_ (λ_ h=>h.elim) λ_ _ h=>h.elim;rintro u w' ⟨rfl,rfl⟩;exact⟨u,rfl,hE.refl _,rfl⟩;cases h with
 |exact v h k=>
  refine⟨λ_ u _=>u=v,⟨λ_ _ _ _ h _=>h,λ_ _ _ h _=>h⟩,λS' b _ g a w n q D=>?_,_,_,_,_,k,(λh=>by cases h),λS' g B=>G.ins g K λd C b u w H=>by rw[B d C]at H;exact H⟩;obtain⟨r,z,F⟩:=x S' b g a w n (λe=>(q e).1) _ (h w D);refine iz J F z ?_ (λ_ h=>h.elim) λc w' h=>y c a w' n.size n.defers h;rintro u w' ⟨rfl,A⟩;exact⟨u,rfl,A,rfl⟩
 |rel R I h k=>
  refine⟨λ_=>R,⟨λ_ _ _ _ h e=>I _ _ _ h (ab _ _ e),λ_ _ _ h e=>I _ _ _ h e⟩,λS' b _ g a w n q D=>?_,_,_,_,_,k,(λh=>by cases h),λS' g B=>G.A5 g K λd C b u w h=>by rw[B d C]at h;exact h⟩;obtain⟨r,z,F⟩:=x S' b g a w n (λe=>(q e).1) _ (h w D);refine iz J F z ?_ (λ_ h=>h.elim) λc w' h=>y c a w' n.size n.defers h;rintro u w' ⟨A,O⟩;exact⟨u,rfl,O,A⟩
 |Kg R I h k=>
  refine⟨λb u w=>b=true\/R u w,⟨λ_ _ _ _ h e=>h.imp id λh=>I _ _ _ h e,λ_ _ _ _ _=>.inl rfl⟩,λS' b _ g a w n q D=>?_,_,_,_,_,k,(λh=>by cases h),λS' g B=>G.UL g K λd C=>by rw[B d C];funext u w;simp⟩;obtain⟨r,z,F⟩:=x S' b g a w n (λe=>(q e).1) _ (h w D);refine iz J F z ?_ (λ_ h=>h.elim) λc w' h=>y c a w' n.size n.defers h;rintro u w' ⟨A,O⟩;exact⟨u,rfl,O,.inr A⟩
 |late aa R I h k=>
  refine⟨λb u w=>b=true/\R u w,⟨λ_ _ _ _ h e=>⟨h.1,I _ _ _ h.2 e⟩,λ_ _ _ h _=>by cases h.1⟩,λS' b hb g a w n q D=>?_,_,_,_,_,k,λ_=>⟨aa,λu w h=>by cases h.1⟩,λS' g B=>G.A5 g K λd C b u w h=>by rw[B d C]at h;exact h.2⟩;obtain⟨r,z,F⟩:=x S' b g a w n (λe=>(q e).1) _ (h w D);refine iz J F z ?_ (λ_ h=>h.elim) λc w' h=>y c a w' n.size n.defers h;rintro u w' ⟨A,O⟩;exact⟨u,rfl,O,hb aa,A⟩
 |early U R I h k=>
  refine⟨λb u w=>b=true\/R u w,⟨λ_ _ _ _ h e=>h.imp id λh=>I _ _ _ h e,λ_ _ _ _ _=>.inl rfl⟩,λS' b _ g a w n q D=>?_,_,_,_,_,k,(λh=>by cases h),λS' g B=>G.UL g K λd C=>by rw[B d C];funext u w;simp⟩;obtain⟨r,z,F⟩:=x S' b g a w n (λe=>(q e).1) _ (h w (q U).2);refine iz J F z ?_ (λ_ h=>h.elim) λc w' h=>y c a w' n.size n.defers h;rintro u w' ⟨A,O⟩;exact⟨u,rfl,O,.inr A⟩
 |C3 U v h k=>
  refine⟨λ_ u _=>u=v,⟨λ_ _ _ _ h _=>h,λ_ _ _ h _=>h⟩,λS' b _ g a w n q D=>?_,_,_,_,_,k,(λh=>by cases h),λS' g B=>G.ins g K λd C b u w H=>by rw[B d C]at H;exact H⟩;obtain⟨r,z,F⟩:=x S' b g a w n (λe=>(q e).1) _ (h w (q U).2);refine iz J F z ?_ (λ_ h=>h.elim) λc w' h=>y c a w' n.size n.defers h;rintro u w' ⟨rfl,A⟩;exact⟨u,rfl,A,rfl⟩
theorem vV{a:Act}{w:cd}{l':L}{X:Prop}(c:∀t v,lk l' t=some v->a.eval (.tmp t)=v):∀{g:List A4},zq g l' w X->(∀p∈g,p.2 (p.1.map λt=>a.eval (.tmp t)) w)->X
 |[],h,_=>h
 |p::r,h,d=>by
  have b:∀(ss:List Nat) (vs:List ce),Fs l' ss=some vs->(ss.map λt=>a.eval (.tmp t))=vs:=by
   intro ss;induction ss with
   |nil=>intro vs h;simp only[Fs,fI]at h;subst h;rfl
   |cons t r i=>
    intro vs h;simp only[Fs]at h;split at h;rename_i v j;split at h;rename_i k l;simp only[fI]at h;subst h;simp[c t v j,i k l];cases h;cases h
  simp only[zq]at h;split at h;rename_i vs e;exact vV c (h (b _ _ e▸d p eR)) λq f=>d q (eI _ f);exact vV c h λq f=>d q (eI _ f)
theorem vW{a:Act}{w:cd}:∀{c:List (Nat×fW)} {f:L->Prop},xN c w f->(∀p∈c,p.2 (a.eval (.tmp p.1)) w)->∃l',f l'/\(∀t v,lk l' t=some v->a.eval (.tmp t)=v)/\Kh l'=(Ft c).map λt=>a.eval (.tmp t)
 |[],f,h,_=>⟨[],h,(λt v b=>by cases b),rfl⟩
 |p::r,f,h,d=>by obtain⟨l',e,g,i⟩:=vW (h _ (d p eR)) λq j=>d q (eI _ j);refine⟨_,e,λt v b=>?_,by simp[Kh,Ft,i]⟩;simp only[lk]at b;split at b;rename_i k;obtain rfl:=gE k;exact cE b;exact g t v b
theorem Fw:∀{a:List (Nat×fW)} {t:Nat},t∈Ft a->∃p∈a,p.1=t
 |p::r,t,h=>by rcases eQ.1 h with rfl|h;exact⟨p,eR,rfl⟩;obtain⟨q,b,c⟩:=Fw h;exact⟨q,eI _ b,c⟩
def I6{o:Oper}{t:Nat}(d:wrote ops t=true)(a:xM ops.toList o t=true):t∈Hu ops o:=by
 unfold xM at a;rw[si,d]at a;obtain⟨e,f,b⟩:=lO a;split at b;rename_i g;have c:=yd.1 b;rw[pf]at c;have h:(ops[e.on]?).bind (·.dst)=some t:=by simpa using c
 exact List.mem_filterMap.2 ⟨e,f,by rw[cx g];exact h⟩;cases b
def BI(hT:n5 P T)(F:lN ops N m=true){Y Z G:cd->cd->Prop}(aa:∀a b,E a b->E' a b){i:Nat}{S:Nat->Bool->fW}{l:L}{H ps:List (Nat×fW)}{js:List A4}{ks:List Nat}{o:Oper}(y:Bool)(I:∀a b,E a b->G a b)(K:y=false->∀a b,E' a b->G a b){d:List (Nat×fW)}(hq:∀p∈d,(p∈H\/(y=true/\p∈ps))/\xM ops.toList o p.1=true){go:A4->Prop}(x:Cons ops a0 i S l H ps js)(ho:ops[i]? =some o)(g:o.dst=none)
 (h:WE Y Z G w0 (λw1 κ=>xN d w1 λl'=>GG P T ks (l'++rr (xM ops.toList o) l (zp ops.toList o)) w1 o (λ_ _=>False) (λw2=>κ (Kh l') w2) λ_ _=>False) (λJ=>go (Ft d,J))):∃R:Bool->fW,Told E E' R/\
  (∀(S':Nat->Bool->fW) (b M:Bool),(y=true->b=false/\M=true)->(∀j,j<i->S' j=S j)->∀a w,At ops a0 N i S' b (oE o) a w->Y w0 w->o.wp P a w (λa' w'=>∃v,a'=a.put o.dst v/\Z w w'/\R M v w'/\v=gR ops o a) Q)/\
  ∃p,go p/\∀S':Nat->Bool->fW,(∀j,j<i->S' j=S j)->S' i=R->Cons ops a0 (i+1) S' l H ps (p::js):=by
 obtain⟨J,st,h,k⟩:=h;let C:=Ft d;have O:∀t∈C,t∈Hu ops o:=λt z=>by obtain⟨p,U,rfl⟩:=Fw z;obtain⟨e,f⟩:=hq p U;rcases e with e|⟨_,e⟩;obtain⟨j,o',hj,q,s,_⟩:=x.r p e;exact I6 (sE.2 ⟨_,l7 q,by simp[s]⟩) f;obtain⟨j,o',hj,q,s,_⟩:=x.p p e;exact I6 (sE.2 ⟨_,l7 q,by simp[s]⟩) f
 refine⟨λb v w=>(y=true->b=true)/\∃a:Act,v=gR ops o a/\J (C.map λt=>a.eval (.tmp t)) w,⟨λ_ v a b ⟨h0,c,u,n⟩ A=>⟨h0,c,u,st _ _ _ n (I _ _ A)⟩,λv a b ⟨h0,c,u,n⟩ A=>⟨λ_=>rfl,c,u,st _ _ _ n (K (by cases y<;>simp_all) _ _ A)⟩⟩,λS' b M hb B a w D A=>?_,_,k,λS' B hi=>x.WF B ho g λb a w hs=>?_⟩;obtain⟨V,u,n,h3⟩:=vW (a:=a) (h w A) λp U=>by obtain⟨e,f⟩:=hq p U;rcases e with e|⟨W,e⟩;exact(nw F x B D f).2.1 p e rfl;exact(nw F x B D f).2.2 (hb W).1 p e rfl
 have hF:vE N (V++rr (xM ops.toList o) l (zp ops.toList o)) a:=by refine⟨D.size,λt v z=>?_⟩;rcases C4 z with h|h;exact n t v h;exact rz (λt hc v hv=>(nw F x B D hc).1 v hv) _ t v h
 refine iz hT hF u (λ_ _ h=>h.elim) (λw' hw=>?_) λ_ _ h=>h.elim;obtain⟨hJ,X⟩:=hw;rw[h3]at hJ;exact⟨_,by rw[g];rfl,X,⟨λW=>(hb W).2,a,rfl,hJ⟩,rfl⟩;rw[hi]at hs;obtain⟨_,b,u,n⟩:=hs;have:(C.map λt=>b.eval (.tmp t))=C.map λt=>a.eval (.tmp t):=List.map_congr_left λt z=>(Ke u (O t z)).symm;rw[this]at n;exact n
def Nm(x:n5 P T)(g:∀c a w,a.tmps.size=N->a.defers=a0.defers->pn c w->Q (.panic c) a w)(n:lN ops N m=true){i:Nat}{S:Nat->Bool->fW}{l:L}{u ps:List (Nat×fW)}{y:List A4}{z:List Nat}{o:Oper}{go:fW->Prop}(q:Cons ops a0 i S l u ps y)(J:ops[i]? =some o) (h:UK P T pn E E' ops.toList w0 o z l u ps go):∃R:fW,(∀v a b,R v a->E a b->R v b)/\go R/\
  (∀S':Nat->Bool->fW,(∀j,j<i->S' j=S j)->∀a w,At ops a0 N i S' false (oE o) a w->E w0 w->o.wp P a w (λA w'=>∃v,A=a.put o.dst v/\E' w w'/\R v w') Q):=by
 obtain⟨R,B,h,k⟩:=h;refine⟨R,B,k,λS' r a w e C=>?_⟩;obtain⟨s,D,F,K⟩:=vW (a:=a) (h w C) λp d=>by rcases gl.1 d with d|d;exact(nw n q r e (fa d).2).2.2 rfl p (fa d).1 rfl;exact(nw n q r e (fa d).2).2.1 p (fa d).1 rfl
 have G:vE N (s++rr (xM ops.toList o) l (zp ops.toList o)) a:=by refine⟨e.size,λt v H=>?_⟩;rcases C4 H with h|h;exact F t v h;exact rz (λt I v f=>(nw n q r e I).1 v f) _ t v h
 refine iz x G D (λv w' f=>?_) (λ_ h=>h.elim) λc w' h=>g c a w' e.size e.defers h;exact⟨v,rfl,f.2,f.1⟩
def Hx{a:Act}{g d:Nat}{b:Bool}(f:(ops[g]?).bind (·.dst)=some d)(c:a.eval (.tmp d)=.bool b):yielded ops a.tmps g=some b:=by
 rw[kH]at c;unfold yielded;rw[f];simp only[vI];cases e:a.tmps[d]? with
 |none=>rw[e]at c;simp[undef]at c
 |some x=>rw[e]at c;simp at c;subst c;rfl
def Nn(ops:Array Oper)(i:Nat)(S:Nat->Bool->fW)(a:List Nat):Prop:=∀j∈a,∃o d,j<i/\ops[j]? =some o/\o.dst=some d/\∀u w,¬S j false u w
def Nn.next{ops:Array Oper}{i:Nat}{S S':Nat->Bool->fW}{a:List Nat}(h:Nn ops i S a)(b:∀j,j<i->S' j=S j):Nn ops (i+1) S' a:=λj c=>by obtain⟨o,d,e,f,g,k⟩:=h j c;exact⟨o,d,by omega,f,g,by rw[b j e];exact k⟩
theorem mem_iff{n:Nat}:∀{l:List Nat},mem n l=true->n∈l
 |x::r,h=>by simp only[mem]at h;split at h;rename_i a;rw[gE a];exact eR;exact eI _ (mem_iff h)
def S6{l0:L}(aL:∀t v,lk l0 t=some v->a0.eval (.tmp t)=v)(hT:n5 P T)(aB:∀c a w,a.tmps.size=N->a.defers=a0.defers->pn c w->Q (.panic c) a w)(hE:fw E)(ae:∀a b,E a b->E' a b)(hB:lN ops N m=true)(hK:∀l a w,rp a0.defers N l a->K l w->Q .normal a w):∀(r:List Oper) (i:Nat) (z:List Nat) (l:L) (J ps:List (Nat×fW)) (H:List A4) (lt:List Nat) (S:Nat->Bool->fW),(∀j,r[j]? =ops[i+j]?)->i+sV r=m->Cons ops a0 i S l J ps H->(∀j,Told E E' (S j))->Nn ops i S lt->DW P T N pn E E' sp ops.toList w0 l0 K i r z l J ps H lt->
  ∃S':Nat->Bool->fW,(∀j,j<i->S' j=S j)/\(∀j,Told E E' (S' j))/\(∀j o,i<=j->j<m->ops[j]? =some o->mJ E E' (λb w=>(b=true\/E w0 w)/\E' w0 w) sp P ops Q a0 N (λb j=>S' j b) j o)/\rq (λb w=>(b=true\/E w0 w)/\E' w0 w) P ops Q a0 N m (λb j=>S' j b):=by
 have aC:∀(b:Bool) (i:Nat) (S:Nat->Bool->fW) (l:L) (J ps:List (Nat×fW)) (H:List A4),i=m->Cons ops a0 i S l J ps H->∀a w,a.tmps.size=N->a.defers=a0.defers->(∀j,wrote ops j=false->a.eval (.tmp j)=a0.eval (.tmp j))->
  (∀i d,i<m->((ops[i]?).bind (·.dst))=some d->S i b (a.eval (.tmp d)) w)->(∀i o,i<m->ops[i]? =some o->o.dst=none->S i b (gR ops o a) w)->∀X:L->Prop,(xN J w λY=>zq H Y w (X Y))->∃Y,X Y/\rp a0.defers N (Y++l) a:=by
  rintro b i S l J ps H rfl A a w hz s hk hv ag X hf;obtain⟨Y,Z,h2⟩:=zu (a:=a) hf λp hp=>by obtain⟨j,o,I,G,s,h⟩:=A.r p hp;exact h _ _ _ (hv j p.1 I (by rw[G];exact s))
  refine⟨Y,vV h2 Z (λp hp=>?_),⟨hz,λt v ht=>?_⟩,s⟩;obtain⟨j,o,I,G,s,h⟩:=A.j p hp;exact h _ _ _ (ag j o I G s);rcases C4 ht with h|h;exact h2 t v h;rcases A.l t v h with⟨hw,h⟩|⟨j,o,I,G,s,h⟩;rw[hk t hw];exact h;exact h _ _ _ (hv j t I (by rw[G];exact s))
 intro r;induction r with
 |nil=>
  intro i z l J ps H lt S hr hi A an F h;have ao:i=m:=by simpa[sV]using hi
  refine⟨S,λ_ _=>rfl,an,λj o Z h2=>by omega,λb a w hz s hk hv ag he=>?_⟩;have aT:ops.size<=m:=by have:=hr 0;simp only[List.getElem?_nil,mT]at this;have:=Array.getElem?_eq_none_iff.1 this.symm;omega
  refine⟨λ_=>?_,λh=>by omega⟩;obtain⟨Y,Z,hF⟩:=aC b i S l J ps H ao A a w hz s hk hv ag _ (h w he.2);exact hK _ a w hF Z
 |cons o r ih=>
  intro i z l J ps H lt S hr hi A an F h;have G:ops[i]? =some o:=(hr 0).symm;have aU:i<ops.size:=(eP.1 G).1;have aM:∀j,r[j]? =ops[i+1+j]? :=λj=>by have:=hr (j+1);simpa[yz,Nat.add_comm 1 j]using this
  unfold DW at h;split at h;rename_i ht;have ao:i=m:=by simpa[sV,ht]using hi
  refine⟨S,λ_ _=>rfl,an,λj o Z h2=>by omega,λb a w hz s hk hv ag he=>⟨λh=>by omega,λ_=>?_⟩⟩;obtain⟨Y,Z,hF⟩:=aC b i S l J ps H ao A a w hz s hk hv ag _ (h w he.2);have aD:o.dst=none/\o.guard=none:=by unfold Hv at ht;split at ht;rename_i Z h2;exact⟨Z,h2⟩;cases ht
  unfold wpOp;rw[<-ao,G];simp only[Region.wanted,aD.2,cX];refine .inl (iz hT hF.b Z (λ_ _ h=>h.elim) (λM h'=>?_) λ_ _ h=>h.elim);rw[aD.1];exact hK _ a M hF h';rename_i ht;have aN:i+1+sV r=m:=by simp only[sV,ht]at hi;omega
  have aa:∀(R:Bool->fW) (ax:List Nat) (Y:L) (ab ac:List (Nat×fW)) (ap:List A4) (aq:List Nat),Told E E' R->(∀S':Nat->Bool->fW,(∀j,j<i->S' j=S j)->S' i=R->Cons ops a0 (i+1) S' Y ab ac ap)->(∀S':Nat->Bool->fW,(∀j,j<i->S' j=S j)->S' i=R->Nn ops (i+1) S' aq)->DW P T N pn E E' sp ops.toList w0 l0 K (i+1) r ax Y ab ac ap aq->
   (∀S':Nat->Bool->fW,(∀j,j<i->S' j=S j)->S' i=R->mJ E E' (λb w=>(b=true\/E w0 w)/\E' w0 w) sp P ops Q a0 N (λb j=>S' j b) i o)->
   ∃S':Nat->Bool->fW,(∀j,j<i->S' j=S j)/\(∀j,Told E E' (S' j))/\(∀j o,i<=j->j<m->ops[j]? =some o->mJ E E' (λb w=>(b=true\/E w0 w)/\E' w0 w) sp P ops Q a0 N (λb j=>S' j b) j o)/\rq (λb w=>(b=true\/E w0 w)/\E' w0 w) P ops Q a0 N m (λb j=>S' j b):=by
   intro R ax Y ab ac ap aq hR af aE h' f;let S1:Nat->Bool->fW:=λj=>if j=i then R else S j
   have ay:∀j,j<i->S1 j=S j:=λj I=>by simp only[S1];rw[cr (by omega)]
   have ah:S1 i=R:=by show(if i=i then _ else _)=_;rw[cx rfl]
   obtain⟨S',Z,h2,h3,h4⟩:=ih (i+1) ax Y ab ac ap aq S1 aM aN (af S1 ay ah) (λj=>by simp only[S1];split;exact hR;exact an j) (aE S1 ay ah) h';have y:∀j,j<i->S' j=S j:=λj I=>(Z j (by omega)).trans (ay j I);refine⟨S',y,h2,λj o' I aO az=>?_,h4⟩;rcases Nat.eq_or_lt_of_le I with rfl|I;rw[G]at az;obtain rfl:=cE az;exact f S' y ((Z i (by omega)).trans ah);exact h3 j o' I aO az
  split at h;rename_i ai;have ar:o.dst=none/\o.guard=none:=by unfold I3 at ai;split at ai;rename_i Z h2;exact⟨Z,h2⟩;cases ai
  split at h;rename_i q;have q:=gE q;unfold runT at h;obtain⟨R,hR,f,p,h',af⟩:=BI (E:=E) (Q:=Q) (go:=λp=>DW P T N pn E E' sp ops.toList w0 l0 K (i+1) r z l (zt ps J) [] (p::H) lt) hT hB ae true (λ_ _ h=>h) (λh=>by cases h) (λp hp=>(gl.1 hp).elim (λh=>⟨.inr ⟨rfl,(fa h).1⟩,(fa h).2⟩) λh=>⟨.inl (fa h).1,(fa h).2⟩) A G ar.1 h;refine aa R z l (zt ps J) [] (p::H) lt hR (λS' n hi=>(af S' n hi).X4) (λS' n _=>F.next n) h' λS' y O b a w hb hz U hk hv he=>?_;obtain rfl:=hb (.inl q);have hs:=f S' false true (λ_=>⟨rfl,rfl⟩) y a w ⟨hz,U,hk,hv⟩ (he.1.resolve_left (by simp));unfold wpOp;rw[G];simp only[Region.wanted,ar.2,cX];refine .inl ?_;simp only[cx q];rw[O];refine Oper.wp_mono (λa' M hx=>?_) hs;obtain⟨v,q1,q2,q3,q4⟩:=hx;exact⟨v,q1,q2,by simpa[q]using q3,λ_=>q4⟩;rename_i q;have q:=vH q;unfold UJ at h;obtain⟨R,hR,f,p,h',af⟩:=BI (E:=E) (Q:=Q) (go:=λp=>DW P T N pn E E' sp ops.toList w0 l0 K (i+1) r z l J ps (p::H) lt) hT hB ae false ae (λ_ _ _ h=>h) (λp hp=>⟨.inl (fa hp).1,(fa hp).2⟩) A G ar.1 h;refine aa R z l J ps (p::H) lt hR af (λS' n _=>F.next n) h' λS' y O b a w hb hz U hk hv he=>?_;have hs:=f S' b b (λh=>by cases h) y a w ⟨hz,U,hk,hv⟩ he.2;unfold wpOp;rw[G];simp only[Region.wanted,ar.2,cX];refine .inl ?_;simp only[cr q];rw[O];refine Oper.wp_mono (λa' M hx=>?_) hs;obtain⟨v,q1,q2,q3,q4⟩:=hx;exact⟨v,q1,q2,by simpa[q]using q3,λ_=>q4⟩;rename_i aS;obtain⟨h,s⟩:=I2 h
  have aj:∀(z:List Nat) (l:L),Cons ops a0 i S l J ps H->(∀(S':Nat->Bool->fW) (b:Bool),(∀j,j<i->S' j=S j)->∀a w,At ops a0 N i S' b (oE o) a w->Region.wanted o (yielded ops a.tmps)=true)->Fv P T N pn E E' ops.toList w0 i l0 o z l J ps (uE lt o) (ry ops.toList sp i) (λY ab ac lb=>DW P T N pn E E' sp ops.toList w0 l0 K (i+1) r z Y ab ac H (Hw lb i lt))->
   ∃S':Nat->Bool->fW,(∀j,j<i->S' j=S j)/\(∀j,Told E E' (S' j))/\(∀j o,i<=j->j<m->ops[j]? =some o->mJ E E' (λb w=>(b=true\/E w0 w)/\E' w0 w) sp P ops Q a0 N (λb j=>S' j b) j o)/\rq (λb w=>(b=true\/E w0 w)/\E' w0 w) P ops Q a0 N m (λb j=>S' j b):=by
   intro z l A hw h;obtain⟨R,hR,f,Y,ab,ac,aF,h',aG,af⟩:=Nl (Q:=Q) hT aB hE ae hB aL A G h;let R1:Bool->fW:=λb v w=>o.dst=none\/R b v w;have aH:∀d,o.dst=some d->R1=R:=λd s=>by funext b v w;simp only[R1,s];simp
   refine aa R1 z Y ab ac H (Hw aF i lt) ⟨λb v w M h e=>h.imp id λh=>hR.e b v w M h e,λv w M h e=>h.imp id λh=>hR.x v w M h e⟩ (λS' n hi=>af S' n λd s=>hi.trans (aH d s)) (λS' n hi=>by
    cases aF with
    |false=>exact F.next n
    |true=>
     obtain⟨Z,h2⟩:=aG rfl;intro j I;rcases eQ.1 I with rfl|I;cases s:o.dst with
     |none=>unfold uE at Z;rw[s]at Z;cases Z
     |some d=>exact⟨o,d,Nat.lt_succ_self _,G,s,by rw[hi,aH d s];exact h2⟩
     exact F.next n j I) h' λS' y O b a w hb hz U hk hv he=>?_
   have D:At ops a0 N i S' b (oE o) a w:=⟨hz,U,hk,hv⟩
   have aP:uE lt o=true->b=true:=λau=>by
    unfold uE at au;split at au;obtain⟨e,ak,C⟩:=lO au;split at C;rename_i al;obtain⟨o2,d2,g1,g2,g3,g4⟩:=F _ (mem_iff C);have av:=hv e.on d2 (sE.2 ⟨e,by simpa using ak,by simp[al]⟩) (by rw[g2];exact g3);cases b with
    |true=>rfl
    |false=>
     simp only[y _ g1]at av;exact absurd av (g4 _ _)
    cases C
    cases au
   have aQ:ry ops.toList sp i=true->b=false/\E w0 w:=λB=>by
    skip
    have aR:∀{k j:Nat},Nj ops.toList k j=true->waits ops k j=true:=λ{k j} B=>by
     unfold Nj at B;unfold waits;rw[x6]at B;have hg:ops.toList[k]? =ops[k]? :=by simp
     rw[hg]at B;split at B;rename_i o2 aA;obtain⟨e,ak,C⟩:=lO B;rw[aA];split at C;rename_i al;exact sE.2 ⟨e,by simpa using ak,by simp[gE C,al]⟩;cases C;cases B
    have hw:RB ops sp i:=by
     unfold ry at B;rw[x6]at B;have hg:ops.toList[sp]? =ops[sp]? :=by simp
     rw[hg]at B;split at B;rename_i o2 aA;obtain⟨e,ak,C⟩:=lO B;split at C;rename_i al;have aI:waits ops sp e.on=true:=by unfold waits;rw[aA];exact sE.2 ⟨e,by simpa using ak,by simp[al]⟩
     split at C;rename_i hx;rw[<-gE hx];exact .inl aI;exact .inr ⟨e.on,aI,aR C⟩;cases C;cases B
    exact⟨hb (.inr hw),he.1.resolve_left (by rw[hb (.inr hw)];simp)⟩
   have hs:=f S' b aP y a w D aQ he.2;unfold wpOp;rw[G];simp only[hw S' b y a w D,cX];refine .inl ?_;rw[O];refine Oper.wp_mono (λa' M hx=>?_) hs;obtain⟨v,q1,q2,q3⟩:=hx;have q5:if i=sp then E' w M else E w M:=by split;exact ae _ _ q2;exact q2
   have q6:R1 (b||decide (i=sp)) v M:=by by_cases e:i=sp;rw[hb (.inl e)]at q3;have:=hR.x v M M q3 (ae _ _ (hE.refl M));simpa[e,hb (.inl e)]using(Or.inr this:R1 true v M);simpa[e]using(Or.inr q3:R1 b v M)
   cases ad:o.dst with
   |none=>exact⟨gR ops o a,by rw[q1,ad];rfl,q5,.inl ad,λ_=>rfl⟩
   |some d=>exact⟨v,by rw[q1,ad],q5,q6,λh=>by cases h⟩
  have skip:∀(z:List Nat) (l:L),Cons ops a0 i S l J ps H->(∀(S':Nat->Bool->fW) (b:Bool),(∀j,j<i->S' j=S j)->∀a w,At ops a0 N i S' b (oE o) a w->Region.wanted o (yielded ops a.tmps)=false)->DW P T N pn E E' sp ops.toList w0 l0 K (i+1) r z (W.ins N o.dst undef l) J ps H lt->
   ∃S':Nat->Bool->fW,(∀j,j<i->S' j=S j)/\(∀j,Told E E' (S' j))/\(∀j o,i<=j->j<m->ops[j]? =some o->mJ E E' (λb w=>(b=true\/E w0 w)/\E' w0 w) sp P ops Q a0 N (λb j=>S' j b) j o)/\rq (λb w=>(b=true\/E w0 w)/\E' w0 w) P ops Q a0 N m (λb j=>S' j b):=by
   intro z l A hw h';let R1:Bool->fW:=λ_ u _=>o.dst=none\/u=undef;refine aa R1 z _ J ps H lt ⟨λ_ _ _ _ h _=>h,λ_ _ _ h _=>h⟩ (λS' n hi=>A.ins n G λd s b u w hu=>by rw[hi]at hu;rcases hu with hu|hu;rw[s]at hu;cases hu;exact hu) (λS' n _=>F.next n) h' λS' y O b a w hb hz U hk hv he=>?_;have D:At ops a0 N i S' b (oE o) a w:=⟨hz,U,hk,hv⟩;unfold wpOp;rw[G];simp only[hw S' b y a w D,iq,eo];rw[O];have q5:if i=sp then E' w w else E w w:=by split;exact ae _ _ (hE.refl w);exact hE.refl w
   cases ad:o.dst with
   |none=>exact⟨gR ops o a,rfl,q5,.inl ad,λ_=>rfl⟩
   |some d=>exact⟨undef,rfl,q5,.inr rfl,λh=>by cases h⟩
  split at h;rename_i hg;split at h;rename_i q;have q:=gE q;obtain⟨R,hR,h',f⟩:=Nm (Q:=Q) hT aB hB A G h
  refine aa (λb v w=>o.dst=none\/(b=true/\R v w)) z l _ [] H _ ⟨λb v w M h e=>h.imp (λh=>h) λh=>⟨h.1,hR _ _ _ h.2 e⟩,λv w M h _=>h.imp (λh=>h) λh=>by cases h.1⟩ (λS' n hi=>A.X4.A5 n G λd s b u w hu=>by
   rw[hi]at hu;rcases hu with hu|hu;rw[s]at hu;cases hu;exact hu.2) (λS' n hi=>by
   intro j I;cases s:o.dst with
   |none=>rw[s]at I;cases I
   |some d=>
    rw[s]at I;obtain rfl:=fD.1 I;exact⟨o,d,Nat.lt_succ_self _,G,s,λu w hx=>by rw[hi]at hx;rcases hx with hx|hx;rw[s]at hx;cases hx;cases hx.1⟩) h' λS' y O b a w hb hz U hk hv he=>?_
  obtain rfl:=hb (.inl q);have hs:=f S' y a w ⟨hz,U,hk,hv⟩ (he.1.resolve_left (by simp));unfold wpOp;rw[G];simp only[Region.wanted,hg,cX];refine .inl ?_;simp only[cx q];rw[O];refine Oper.wp_mono (λa' M hx=>?_) hs;obtain⟨v,q1,q2,q3⟩:=hx;cases ad:o.dst with
  |none=>exact⟨gR ops o a,by rw[q1,ad];rfl,q2,.inl rfl,λ_=>rfl⟩
  |some d=>exact⟨v,by rw[q1,ad],q2,.inr ⟨by simp[q],q3⟩,λh=>by cases h⟩
  exact aj z l A (λ_ _ _ _ _ _=>by simp[Region.wanted,hg]) h;rename_i g am hg;split at h;exact h.elim;rename_i d aJ;rw[pf]at aJ;have aK:(ops[g]?).bind (·.dst)=some d:=by simpa using aJ
  split at h;exact h.elim;rename_i aw;split at h;rename_i b hb;have hw:∀(S':Nat->Bool->fW) (V:Bool),(∀j,j<i->S' j=S j)->∀a w,At ops a0 N i S' V (oE o) a w->Region.wanted o (yielded ops a.tmps)=(b==am):=λS' V n a w D=>by have:=(nw hB A n D aw).1 _ hb;simp[Region.wanted,hg,Hx aK this]
  split at h;cases b<;>cases am<;>simp only at h;exact aj z l A (λS' V n a w D=>by rw[hw S' V n a w D];rfl) h;exact skip z l A (λS' V n a w D=>by rw[hw S' V n a w D];rfl) h;exact skip z l A (λS' V n a w D=>by rw[hw S' V n a w D];rfl) h;exact aj z l A (λS' V n a w D=>by rw[hw S' V n a w D];rfl) h;cases am<;>simp only at h<;>cases b;exact aj (d::z) ((d,.bool false)::l) (A.zk hb) (λS' V n a w D=>by rw[hw S' V n a w D];rfl) (h.2 rfl);exact skip (d::z) ((d,.bool true)::l) (A.zk hb) (λS' V n a w D=>by rw[hw S' V n a w D];rfl) (h.1 rfl);exact skip (d::z) ((d,.bool false)::l) (A.zk hb) (λS' V n a w D=>by rw[hw S' V n a w D];rfl) (h.2 rfl);exact aj (d::z) ((d,.bool true)::l) (A.zk hb) (λS' V n a w D=>by rw[hw S' V n a w D];rfl) (h.1 rfl);rename_i vs hb;exact skip z l A (λS' V n a w D=>by have:=wZ aK ((nw hB A n D aw).1 _ hb);simp[Region.wanted,hg,this]) h;exact h.elim
def Fx(F:n5 P T)(q:∀c a w,a.tmps.size=N->a.defers=a0.defers->pn c w->Q (.panic c) a w)(s:fw E)(f:fw E')(g:∀a b,E a b->E' a b)(G:P.follows .mixedOrders=true){l:L}{id:Nat}(A:lN ops N m=true)(u:sV ops.toList=m)(y:vE N l a0)(H:∀l a w,rp a0.defers N l a->K l w->Q .normal a w) (h:DW P T N pn E E' sp ops.toList w0 l K 0 ops.toList [] (xe ops.toList l) [] [] [] []):(Code.region id ops true).wp P Q a0 w0:=by
 have drop:∀(l:L),∀t v,lk (xe ops.toList l) t=some v->wrote ops t=false/\lk l t=some v:=by
  intro l;induction l with
  |nil=>intro t v h;cases h
  |cons p r B=>
   intro t v h;simp only[xe]at h;split at h;rename_i d;obtain⟨C,n⟩:=B t v h;refine⟨C,?_⟩;simp only[lk];split;rename_i z;obtain rfl:=gE z;rw[si,C]at d;cases d;exact n;rename_i d;simp only[lk]at h⊢;split at h;rename_i z;obtain rfl:=gE z;rw[si]at d;exact⟨d,h⟩;exact B t v h
 obtain⟨S,_,n,I,J⟩:=S6 (Q:=Q) (a0:=a0) (sp:=sp) y.at_ F q s g A H ops.toList 0 [] _ [] [] [] [] (λ_ _ _ _=>True) (λj=>by simp) (by simpa using u)
  ⟨λt v D=>.inl ⟨(drop l t v D).1,y.at_ t v (drop l t v D).2⟩,(λp d=>by cases d),(λp d=>by cases d),λp d=>by cases d⟩ (λ_=>⟨λ_ _ _ _ _ _=>trivial,λ_ _ _ _ _=>trivial⟩) (λj M=>by cases M) h
 refine xL (E:=E) (E':=E') (sp:=sp) (Rch:=λb w=>(b=true\/E w0 w)/\E' w0 w) G A ⟨λb i v w k=>(n i).e b v w k,λi v w k=>(n i).x v w k,λb w k h e=>⟨h.1.imp (λh=>h) λh=>s.trans _ _ _ h e,f.trans _ _ _ h.2 (g _ _ e)⟩,λw k h e=>⟨.inl rfl,f.trans _ _ _ h.2 e⟩⟩ ⟨.inr (s.drew _),f.drew _⟩ y.size (λi o O R=>I i o (fN _) O R) J
end
end Go.Proofs.W
