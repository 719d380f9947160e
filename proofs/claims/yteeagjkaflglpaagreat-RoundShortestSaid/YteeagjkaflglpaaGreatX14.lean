/- Laws that the proof needs, part 14. Conditions: none. -/
import Derived.Test.YteeagjkaflglpaaGreatX12
import Derived.Test.YteeagjkaflglpaaGreatX13
set_option maxRecDepth 100000
set_option maxHeartbeats 8000000
set_option linter.all false
namespace Go.Proofs.W
open Go.RowKit
abbrev ew:=Value->World->Prop
def uo{α:Type}(f:α->Bool):List α->Bool
 |[]=>false
 |x::r=>match f x with
  |true=>true
  |false=>uo f r
def Ml:Option Nat->Nat->Bool
 |some d,t=>Nat.beq d t
 |none,_=>false
def Nc(a:List Oper)(t:Nat):Bool:=uo (λo=>Ml o.dst t) a
def pP(a:List Oper)(o:Oper)(t:Nat):Bool:=match Nc a t with
 |false=>true
 |true=>uo (λe=>match Region.binds .any e with
  |true=>Ml (u4 a e.on) t
  |false=>false) o.after.toList
def rd:Operand->List Nat
 | .tmp t=>[t]
 |_=>[]
def NS:List Operand->List Nat
 |[]=>[]
 |x::r=>rd x++NS r
def OL:List (Nat×Operand)->List Nat
 |[]=>[]
 |x::r=>rd x.2++OL r
def NT:Option Operand->List Nat
 |none=>[]
 |some x=>rd x
def Ip:Op->List Nat
 | .move x=>rd x
 | .assign x=>rd x
 | .nilCheck x=>rd x
 | .fieldAddr _ x _=>rd x
 | .extract x _=>rd x
 | .field _ x _=>rd x
 | .load _ x=>rd x
 | .box _ x=>rd x
 | .unOp _ _ x=>rd x
 | .convert _ _ x=>rd x
 | .pick c x y=>rd c++(rd x++rd y)
 | .store _ x y=>rd x++rd y
 | .binOp _ _ x y _=>rd x++rd y
 | .makeSlice _ x y=>rd x++rd y
 | .indexAddr _ x y=>rd x++rd y
 | .index _ x y=>rd x++rd y
 | .lookup _ x y _=>rd x++rd y
 | .mapUpdate _ m x y=>rd m++(rd x++rd y)
 | .build _ ps=>OL ps.toList
 | .buildSlice _ _ ps=>OL ps.toList
 | .makeFunc _ a b=>NS a.toList++NS b.toList
 | .makeMap _ r=>NT r
 | .slice _ x a b c=>rd x++(NT a++(NT b++NT c))
 | .call c=>(match c.callee with
  | .value f=>rd f
  |_=>[])++NS c.args.toList
 |_=>[]
def Iq(a:List Oper)(o:Oper):List Nat:=match o.guard with
 |none=>[]
 |some (g,_)=>match u4 a g with
  |some d=>[d]
  |none=>[]
def jK(c:Nat->Bool)(l:L):List Nat->L
 |[]=>[]
 |t::r=>match c t with
  |true=>(match lk l t with
   |some v=>(t,v)::jK c l r
   |none=>jK c l r)
  |false=>jK c l r
def iY(c:Nat->Bool):List (Nat×ew)->List (Nat×ew)
 |[]=>[]
 |p::r=>match c p.1 with
  |true=>p::iY c r
  |false=>iY c r
def n7(a:List Oper)(o:Oper):List Nat:=Ip o.op++Iq a o
def rr:List (Nat×ew)->World->(L->Prop)->Prop
 |[],_,f=>f []
 |p::r,w,f=>∀v,p.2 v w->rr r w λl=>f ((p.1,v)::l)
def yJ(l:L):List Nat->Option (List Value)
 |[]=>some []
 |t::r=>match lk l t with
  |some v=>(match yJ l r with
   |some vs=>some (v::vs)
   |none=>none)
  |none=>none
abbrev uq:=List Nat×(List Value->World->Prop)
def sV:List uq->L->World->Prop->Prop
 |[],_,_,X=>X
 |p::r,l,w,X=>match yJ l p.1 with
  |some vs=>p.2 vs w->sV r l w X
  |none=>sV r l w X
inductive sW (E E':World->World->Prop) (w:World) (f:World->(Value->World->Prop)->Prop) (kx:Value->Prop) (kr:ew->Prop) (kp:ew->Prop) (lb:Bool) (kl:ew->Prop) (ea:Bool):Prop
 |exact(v:Value) (h:∀w1,E' w w1->f w1 λu w2=>u=v/\E w1 w2) (k:kx v)
 |rel (R:ew) (st:∀v a b,R v a->E' a b->R v b) (h:∀w1,E' w w1->f w1 λu w2=>R u w2/\E w1 w2) (k:kr R)
 |Db (R:ew) (st:∀v a b,R v a->E a b->R v b) (h:∀w1,E' w w1->f w1 λu w2=>R u w2/\E w1 w2) (k:kp R)
 |late (hb:lb=true) (R:ew) (st:∀v a b,R v a->E a b->R v b) (h:∀w1,E' w w1->f w1 λu w2=>R u w2/\E w1 w2) (k:kl R)
 |early (he:ea=true) (R:ew) (st:∀v a b,R v a->E a b->R v b) (h:∀w1,E w w1->f w1 λu w2=>R u w2/\E w1 w2) (k:kp R)
 |wu (he:ea=true) (v:Value) (h:∀w1,E w w1->f w1 λu w2=>u=v/\E w1 w2) (k:kx v)
inductive OM (E1 E2 Es:World->World->Prop) (w:World) (f:World->(List Value->World->Prop)->Prop) (kj:(List Value->World->Prop)->Prop):Prop
 |qN (J:List Value->World->Prop) (st:∀vs a b,J vs a->Es a b->J vs b) (h:∀w1,E1 w w1->f w1 λvs w2=>J vs w2/\E2 w1 w2) (k:kj J)
def yK:List (Nat×ew)->List Nat
 |[]=>[]
 |p::r=>p.1::yK r
def Dc:L->List Value
 |[]=>[]
 |p::r=>p.2::Dc r
def FP(T:uY)(a:List Nat)(l:L):Op->Option Value
 | .move x=>ev l x
 | .assign x=>ev l x
 | .pick (.tmp c) x y=>match lk l c with
  |some (.bool b)=>(match mem c a with
   |true=>(match b with
    |true=>ev l x
    |false=>ev l y)
   |false=>none)
  |_=>none
 | .nilCheck x=>match ev l x with
  |some (.pointer (some ad))=>some (.pointer (some ad))
  |_=>none
 | .fieldAddr S x i=>match ev l x with
  |some (.pointer (some ⟨b,o,none⟩))=>(match T.off S i with
   |some d=>some (.pointer (some ⟨b,o+d,none⟩))
   |none=>none)
  |_=>none
 | .extract x i=>match ev l x with
  |some (.tuple vs)=>nth vs.toList i
  |_=>none
 | .makeFunc fn first cap=>match evs l first.toList with
  |some xs=>(match evs l cap.toList with
   |some ys=>some (.func fn xs.toArray ys.toArray)
   |none=>none)
  |none=>none
 |_=>none
theorem yL{P:Program}{T:uY}{g:List Nat}{l:L}{w:World}{o:Oper}{k:Value->World->Prop}{s:World->Prop}{pan:List PanicEntry->World->Prop}{v:Value}(h:FP T g l o.op=some v)(e:k v w):zX P T g l w o k s pan:=by
 unfold zX;unfold FP at h;split at h;case h_1 x a=>simp only[a,h];exact e
 case h_2 x a=>simp only[a,h];exact e
 case h_3 c x y a=>
  simp only[a];split at h
  ·rename_i b j;simp only[j];split at h
   ·rename_i m;simp only[m];cases b with
    |true=>simp only at h⊢;simp only[h];exact e
    |false=>simp only at h⊢;simp only[h];exact e
   ·cases h
  ·cases h
 case h_4 x a=>
  simp only[a];split at h
  ·rename_i t f;obtain rfl:=Option.some.inj h;simp only[f];exact e
  ·cases h
 case h_5 S x i a=>
  simp only[a];split at h
  ·rename_i b n f;split at h
   ·rename_i d p;obtain rfl:=Option.some.inj h;simp only[f,p];exact e
   ·cases h
  ·cases h
 case h_6 x i a=>
  simp only[a];split at h
  ·rename_i u f;simp only[f,h];exact e
  ·cases h
 case h_7 z first cap a=>
  simp only[a];split at h
  ·rename_i A q;split at h
   ·rename_i B r;obtain rfl:=Option.some.inj h;simp only[q,r];exact e
   ·cases h
  ·cases h
 case h_8=>cases h
def AQ(o:Oper)(r:List Oper):Bool:=match r,o.dst,o.guard with
 |[],none,none=>true
 |_,_,_=>false
def RM{α:Type}(f:α->Bool):List α->Bool
 |[]=>true
 |x::r=>match f x with
  |true=>RM f r
  |false=>false
def early0(a:List Oper)(i t:Nat):Bool:=match Nc a t with
 |false=>false
 |true=>RM (λo=>match Ml o.dst t with
  |true=>uo (λe=>match Region.binds .any e with
   |true=>Nat.beq e.on i
   |false=>false) o.after.toList
  |false=>true) a
def RG(c e:Nat->Bool)(l l0:L):List Nat->L
 |[]=>[]
 |t::r=>match c t with
  |true=>(match lk l t with
   |some v=>(t,v)::RG c e l l0 r
   |none=>RG c e l l0 r)
  |false=>(match e t with
   |true=>(match lk l0 t with
    |some v=>(t,v)::RG c e l l0 r
    |none=>RG c e l l0 r)
   |false=>RG c e l l0 r)
def RN(a:List Oper)(i:Nat)(o:Oper)(l l0:L):L:=RG (pP a o) (early0 a i) l l0 (n7 a o)
def ur(d:Option Nat)(R:ew)(a:List (Nat×ew)):List (Nat×ew):=match d with
 |some d=>(d,R)::a
 |none=>a
def FQ(a:List Oper)(sp i:Nat):Bool:=match nth a sp with
 |some o=>uo (λe=>match Region.binds .any e with
  |true=>Nat.beq e.on i
  |false=>false) o.after.toList
 |none=>false
def nd(a:List Oper)(sp i:Nat):Bool:=match nth a sp with
 |some o=>uo (λe=>match Region.binds .any e with
  |true=>(match Nat.beq e.on i with
   |true=>true
   |false=>FQ a e.on i)
  |false=>false) o.after.toList
 |none=>false
def Lf(b:Bool):List (Nat×ew)->List (Nat×ew)->List (Nat×ew)
 |[],a=>a
 |p::r,a=>match b with
  |true=>p::(r++a)
  |false=>a
theorem FR{a:Bool}{ps b:List (Nat×ew)}{p:Nat×ew}(h:p∈Lf a ps b):p∈b\/(a=true/\p∈ps):=by
 cases ps with
 |nil=>exact .inl h
 |cons q r=>
  cases a with
  |false=>exact .inl h
  |true=>
   rcases List.mem_cons.1 h with rfl|h
   ·exact .inr ⟨rfl,List.mem_cons_self⟩
   ·rcases List.mem_append.1 h with h|h
    ·exact .inr ⟨rfl,List.mem_cons_of_mem _ h⟩
    ·exact .inl h
def yM(P:Program)(T:uY)(N:Nat)(pn:List PanicEntry->World->Prop)(E E':World->World->Prop)(a:List Oper)(w:World)(i:Nat)(l0:L)(o:Oper)(c:List Nat)(l:L)(b ps:List (Nat×ew))(f d:Bool)(go:L->List (Nat×ew)->List (Nat×ew)->Bool->Prop):Prop:=
 match FP T c (RN a i o l l0) o.op with
 |some v=>go (ins N o.dst v l) b ps false
 |none=>sW E E' w (λe g=>rr (Lf d (iY (pP a o) ps) (iY (pP a o) b)) e λh=>zX P T c (h++RN a i o l l0) e o g (λ_=>False) pn)
  (λv=>go (ins N o.dst v l) b ps false) (λR=>go l (ur o.dst R b) ps false) (λR=>go l b (ur o.dst R ps) false) f (λR=>go l (ur o.dst R b) ps true) d
def Nd(P:Program)(T:uY)(E E':World->World->Prop)(a:List Oper)(w:World)(o:Oper)(e:List Nat)(l:L)(b:List (Nat×ew))(go:uq->Prop):Prop:=
 OM E' E E' w (λc f=>rr (iY (pP a o) b) c λd=>zX P T e (d++jK (pP a o) l (n7 a o)) c o (λ_ _=>False) (λg=>f (Dc d) g) λ_ _=>False)
  (λJ=>go (yK (iY (pP a o) b),J))
def runT(P:Program)(T:uY)(E E':World->World->Prop)(a:List Oper)(w:World)(o:Oper)(e:List Nat)(l:L)(b ps:List (Nat×ew))(go:uq->Prop):Prop:=
 OM E E' E w (λc f=>rr (iY (pP a o) ps++iY (pP a o) b) c λd=>zX P T e (d++jK (pP a o) l (n7 a o)) c o (λ_ _=>False) (λg=>f (Dc d) g) λ_ _=>False)
  (λJ=>go (yK (iY (pP a o) ps++iY (pP a o) b),J))
inductive QG (E E':World->World->Prop) (w:World) (f:World->(Value->World->Prop)->Prop) (kr:ew->Prop):Prop
 |spec (R:ew) (st:∀v a b,R v a->E a b->R v b) (h:∀w1,E w w1->f w1 λu w2=>R u w2/\E' w1 w2) (k:kr R)
def Nf(P:Program)(T:uY)(pn:List PanicEntry->World->Prop)(E E':World->World->Prop)(a:List Oper)(w:World)(o:Oper)(c:List Nat)(l:L)(d ps:List (Nat×ew))(go:ew->Prop):Prop:=
 QG E E' w (λb e=>rr (iY (pP a o) ps++iY (pP a o) d) b λf=>zX P T c (f++jK (pP a o) l (n7 a o)) b o e (λ_=>False) pn) go
def sX:List (Nat×ew)->List (Nat×ew)->List (Nat×ew)
 |[],a=>a
 |p::r,a=>(p.1,λ_ _=>True)::sX r a
def pq(a:List Nat)(o:Oper):Bool:=match o.dst with
 |some _=>uo (λe=>match Region.binds .any e with
  |true=>mem e.on a
  |false=>false) o.after.toList
 |none=>false
def AS(b:Bool)(i:Nat)(a:List Nat):List Nat:=match b with
 |true=>i::a
 |false=>a
def B3(o:Oper):Bool:=match o.dst,o.guard with
 |none,none=>(match o.op with
  | .store _ _ _=>true
  | .mapUpdate _ _ _ _=>true
  |_=>false)
 |_,_=>false
def DW(P:Program)(T:uY)(N:Nat)(pn:List PanicEntry->World->Prop)(E E':World->World->Prop)(sp:Nat)(a:List Oper)(w:World)(l0:L)(K:L->World->Prop):Nat->List Oper->List Nat->L->List (Nat×ew)->List (Nat×ew)->List uq->List Nat->Prop
 |_,[],_,l,h,ps,k,j=>∀w1,E' w w1->rr h w1 λl'=>sV k l' w1 (K (l'++l) w1)
 |i,o::r,c,l,h,ps,k,j=>match AQ o r with
  |true=>∀w1,E' w w1->rr h w1 λl'=>sV k l' w1 (zX P T [] (l'++l) w1 o (λ_ _=>False) (λq=>K (l'++l) q) λ_ _=>False)
  |false=>match B3 o with
  |true=>(match Nat.beq i sp with
   |true=>runT P T E E' a w o c l h ps λp=>DW P T N pn E E' sp a w l0 K (i+1) r c l (sX ps h) [] (p::k) j
   |false=>Nd P T E E' a w o c l h λp=>DW P T N pn E E' sp a w l0 K (i+1) r c l h ps (p::k) j)
  |false=>NR N o.dst (match o.guard with
   |none=>(match Nat.beq i sp with
    |true=>Nf P T pn E E' a w o c l h ps λR=>DW P T N pn E E' sp a w l0 K (i+1) r c l (ur o.dst R (sX ps h)) [] k (match o.dst with
     |some _=>[i]
     |none=>[])
    |false=>yM P T N pn E E' a w i l0 o c l h ps (pq j o) (nd a sp i) λl' e f m=>DW P T N pn E E' sp a w l0 K (i+1) r c l' e f k (AS m i j))
   |some (g,n)=>(match u4 a g with
    |none=>False
    |some d=>match pP a o d with
     |false=>False
     |true=>match lk l d with
      |some (.bool b)=>(match mem d c with
       |true=>(match b,n with
        |true,true=>yM P T N pn E E' a w i l0 o c l h ps (pq j o) (nd a sp i) λl' e f m=>DW P T N pn E E' sp a w l0 K (i+1) r c l' e f k (AS m i j)
        |false,false=>yM P T N pn E E' a w i l0 o c l h ps (pq j o) (nd a sp i) λl' e f m=>DW P T N pn E E' sp a w l0 K (i+1) r c l' e f k (AS m i j)
        |_,_=>DW P T N pn E E' sp a w l0 K (i+1) r c (ins N o.dst undef l) h ps k j)
       |false=>(match n with
        |true=>(b=true->yM P T N pn E E' a w i l0 o (d::c) ((d,.bool true)::l) h ps (pq j o) (nd a sp i) λl' e f m=>DW P T N pn E E' sp a w l0 K (i+1) r (d::c) l' e f k (AS m i j))/\
         (b=false->DW P T N pn E E' sp a w l0 K (i+1) r (d::c) (ins N o.dst undef ((d,.bool false)::l)) h ps k j)
        |false=>(b=true->DW P T N pn E E' sp a w l0 K (i+1) r (d::c) (ins N o.dst undef ((d,.bool true)::l)) h ps k j)/\
         (b=false->yM P T N pn E E' a w i l0 o (d::c) ((d,.bool false)::l) h ps (pq j o) (nd a sp i) λl' e f m=>DW P T N pn E E' sp a w l0 K (i+1) r (d::c) l' e f k (AS m i j))))
      |some (.tuple _)=>DW P T N pn E E' sp a w l0 K (i+1) r c (ins N o.dst undef l) h ps k j
      |_=>False))
def qO(a:List Oper):L->L
 |[]=>[]
 |p::r=>match Nc a p.1 with
  |true=>qO a r
  |false=>p::qO a r
def n8:List Oper->Nat
 |[]=>0
 |o::r=>match AQ o r with
  |true=>0
  |false=>n8 r+1
section
variable{P:Program}{T:uY}{N m sp:Nat}{pn:List PanicEntry->World->Prop}{E E':World->World->Prop}{ops:Array Oper}{w0:World}{a0:Act}{K:L->World->Prop}{Q:Exit->Act->World->Prop}
theorem jL{α:Type}{f:α->Bool}:∀{l:List α},uo f l=true->∃x∈l,f x=true
 |x::r,h=>by
  simp only[uo]at h;split at h
  ·rename_i a;exact⟨x,List.mem_cons_self,a⟩
  ·obtain⟨y,b,c⟩:=jL h;exact⟨y,List.mem_cons_of_mem _ b,c⟩
theorem B4{α:Type}{f:α->Bool}:∀{l:List α} {x:α},x∈l->f x=true->uo f l=true
 |y::r,x,h,a=>by
  simp only[uo];rcases List.mem_cons.1 h with rfl|h
  ·rw[a]
  ·split
   ·rfl
   ·exact B4 h a
theorem rK{d:Option Nat}{t:Nat}:Ml d t=true↔d=some t:=by
 cases d with
 |none=>simp[Ml]
 |some d=>
  simp only[Ml,Option.some.injEq];exact⟨Nat.eq_of_beq_eq_true,λh=>by rw[h];exact Nat.beq_refl t⟩
theorem nN{ops:Array Oper}{t:Nat}:Nc ops.toList t=wrote ops t:=by
 cases h:Nc ops.toList t with
 |true=>
  obtain⟨o,a,b⟩:=jL h;exact(Array.any_eq_true'.2 ⟨o,by simpa using a,by simpa using rK.1 b⟩).symm
 |false=>
  cases b:wrote ops t with
  |false=>rfl
  |true=>
   obtain⟨o,a,c⟩:=Array.any_eq_true'.1 b;have:=B4 (f:=λo=>Ml o.dst t) (by simpa using a:o∈ops.toList) (rK.2 (by simpa using c));unfold Nc at h;rw[h]at this;cases this
theorem Dd(e:iN ops N m=true){i j t:Nat}{o o':Oper}(f:ops[i]? =some o)(c:ops[j]? =some o')(h:o.dst=some t)(g:o'.dst=some t):i=j:=by
 have k:i<ops.size:=(Array.getElem?_eq_some_iff.1 f).1;have l:j<ops.size:=(Array.getElem?_eq_some_iff.1 c).1;simp only[iN,Bool.and_eq_true]at e;have a:=List.all_eq_true.1 e.1 i (List.mem_range.2 k);rw[f]at a;simp only[Bool.and_eq_true]at a;have d:=a.2;rw[h]at d;simp only[Bool.and_eq_true,decide_eq_true_eq]at d;have b:=List.all_eq_true.1 d.2 j (List.mem_range.2 l);rw[c]at b;simp only[g,Bool.or_eq_true,decide_eq_true_eq]at b;rcases b with b|b
 ·exact b.symm
 ·simp at b
structure Cons(ops:Array Oper)(a0:Act)(i:Nat)(S:Nat->Bool->ew)(l:L)(rs ps:List (Nat×ew))(js:List uq):Prop where
 l:∀t v,lk l t=some v->(wrote ops t=false/\a0.eval (.tmp t)=v)\/∃j o,j<i/\ops[j]? =some o/\o.dst=some t/\∀b u w,S j b u w->u=v
 r:∀p∈rs,∃j o,j<i/\ops[j]? =some o/\o.dst=some p.1/\∀b u w,S j b u w->p.2 u w
 p:∀p∈ps,∃j o,j<i/\ops[j]? =some o/\o.dst=some p.1/\∀u w,S j false u w->p.2 u w
 j:∀p∈js,∃j o,j<i/\ops[j]? =some o/\o.dst=none/\∀b a w,S j b (eT ops o a) w->p.2 (p.1.map λt=>a.eval (.tmp t)) w
structure At(ops:Array Oper)(a0:Act)(N i:Nat)(S:Nat->Bool->ew)(b:Bool)(D:Nat->Prop)(a:Act)(w:World):Prop where
 size:a.tmps.size=N
 defers:a.defers=a0.defers
 keep:∀j,Before ops i j->a.eval (.tmp j)=a0.eval (.tmp j)
 val:∀j d,D j->((ops[j]?).bind (·.dst))=some d->S j b (a.eval (.tmp d)) w
theorem jM(G:iN ops N m=true){i:Nat}{S S':Nat->Bool->ew}{l:L}{H:List uq}{C ps:List (Nat×ew)}{b:Bool}(q:Cons ops a0 i S l C ps H)(s:∀j,j<i->S' j=S j){o:Oper}{a:Act}{w:World}
 (D:At ops a0 N i S' b (λj=>(o.after.any λe=>e.on==j&&Region.binds .any e)=true) a w){t:Nat}(u:pP ops.toList o t=true):(∀v,lk l t=some v->a.eval (.tmp t)=v)/\(∀p∈C,p.1=t->p.2 (a.eval (.tmp t)) w)/\(b=false->∀p∈ps,p.1=t->p.2 (a.eval (.tmp t)) w):=by
 have k:wrote ops t=true->∀j g,ops[j]? =some g->g.dst=some t->S' j b (a.eval (.tmp t)) w:=λx j g c d=>by
  unfold pP at u;rw[nN,x]at u;obtain⟨e,I,y⟩:=jL u;split at y
  ·rename_i J;have E:=rK.1 y;rw[lq]at E;have F:(ops[e.on]?).bind (·.dst)=some t:=by simpa using E
   obtain⟨M,z,A⟩:=Option.bind_eq_some_iff.1 F;obtain rfl:=Dd G z c A d;exact D.val _ _ (Array.any_eq_true'.2 ⟨e,by simpa using I,by simp[J]⟩) F
  ·cases y
 have f:∀{j:Nat} {g:Oper},ops[j]? =some g->g.dst=some t->wrote ops t=true:=λc d=>Array.any_eq_true'.2 ⟨_,Array.mem_of_getElem? c,by simp[d]⟩;refine⟨λv K=>?_,?_,?_⟩
 ·rcases q.l t v K with⟨x,h⟩|⟨j,g,n,c,d,h⟩
  ·rw[D.keep t (RJ x)];exact h
  ·have:=k (f c d) j g c d;rw[s j n]at this;exact h _ _ _ this
 ·rintro p B rfl;obtain⟨j,g,n,c,d,h⟩:=q.r p B;have:=k (f c d) j g c d;rw[s j n]at this;exact h _ _ _ this
 ·rintro rfl p B rfl;obtain⟨j,g,n,c,d,h⟩:=q.p p B;have:=k (f c d) j g c d;rw[s j n]at this;exact h _ _ this
theorem lx{c:Nat->Bool}{l:L}{a:Act}(h:∀t,c t=true->∀v,lk l t=some v->a.eval (.tmp t)=v):∀(d:List Nat) (t:Nat) (v:Value),lk (jK c l d) t=some v->a.eval (.tmp t)=v
 |[],t,v,b=>by cases b
 |x::r,t,v,b=>by
  simp only[jK]at b;split at b
  ·rename_i e;split at b
   ·rename_i u f;simp only[lk]at b;split at b
    ·rename_i g;obtain rfl:=Nat.eq_of_beq_eq_true g;obtain rfl:=Option.some.inj b;exact h x e _ f
    ·exact lx h r t v b
   ·exact lx h r t v b
  ·exact lx h r t v b
theorem sY{a:Act}{w:World}:∀{c:List (Nat×ew)} {f:L->Prop},rr c w f->(∀p∈c,p.2 (a.eval (.tmp p.1)) w)->∃l',f l'/\∀t v,lk l' t=some v->a.eval (.tmp t)=v
 |[],f,h,_=>⟨[],h,λt v b=>by cases b⟩
 |p::r,f,h,d=>by
  obtain⟨l',e,g⟩:=sY (h _ (d p List.mem_cons_self)) λq i=>d q (List.mem_cons_of_mem _ i);refine⟨_,e,λt v b=>?_⟩;simp only[lk]at b;split at b
  ·rename_i j;obtain rfl:=Nat.eq_of_beq_eq_true j;exact Option.some.inj b
  ·exact g t v b
theorem wv{l l':L}{t:Nat}{v:Value}(h:lk (l'++l) t=some v):lk l' t=some v\/lk l t=some v:=by
 induction l' with
 |nil=>exact .inr h
 |cons p r a=>
  simp only[List.cons_append,lk]at h⊢;split at h
  ·exact .inl h
  ·exact a h
theorem dE{c:Nat->Bool}:∀{a:List (Nat×ew)} {p:Nat×ew},p∈iY c a->p∈a/\c p.1=true
 |q::r,p,h=>by
  simp only[iY]at h;split at h
  ·rename_i b;rcases List.mem_cons.1 h with rfl|h
   ·exact⟨List.mem_cons_self,b⟩
   ·exact⟨List.mem_cons_of_mem _ (dE h).1,(dE h).2⟩
  ·exact⟨List.mem_cons_of_mem _ (dE h).1,(dE h).2⟩
def kK(o:Oper)(j:Nat):Prop:=(o.after.any λe=>e.on==j&&Region.binds .any e)=true
theorem Cons.ins{i:Nat}{S S':Nat->Bool->ew}{l:L}{A:List uq}{B ps:List (Nat×ew)}(s:Cons ops a0 i S l B ps A)(y:∀j,j<i->S' j=S j){o:Oper}(C:ops[i]? =some o){v:Value}(D:∀d,o.dst=some d->∀b u w,S' i b u w->u=v):Cons ops a0 (i+1) S' (W.ins N o.dst v l) B ps A:=by
 have e:∀t u,lk l t=some u->(wrote ops t=false/\a0.eval (.tmp t)=u)\/∃j o,j<i+1/\ops[j]? =some o/\o.dst=some t/\∀b x w,S' j b x w->x=u:=λt u h=>by
  rcases s.l t u h with h|⟨j,f,g,k,m,n⟩
  ·exact .inl h
  ·exact .inr ⟨j,f,by omega,k,m,by rw[y j g];exact n⟩
 refine⟨λt u c=>?_,λp q=>?_,λp q=>?_,λp q=>?_⟩
 ·cases z:o.dst with
  |none=>rw[z]at c;exact e t u c
  |some d=>
   rw[z]at c;simp only[W.ins]at c;split at c
   ·simp only[lk]at c;split at c
    ·rename_i E;obtain rfl:=Nat.eq_of_beq_eq_true E;obtain rfl:=Option.some.inj c;exact .inr ⟨i,o,by omega,C,z,D _ z⟩
    ·exact e t u c
   ·exact e t u c
 ·obtain⟨j,f,g,k,m,n⟩:=s.r p q;exact⟨j,f,by omega,k,m,by rw[y j g];exact n⟩
 ·obtain⟨j,f,g,k,m,n⟩:=s.p p q;exact⟨j,f,by omega,k,m,by rw[y j g];exact n⟩
 ·obtain⟨j,f,g,k,m,n⟩:=s.j p q;exact⟨j,f,by omega,k,m,λb a w h=>n b a w (by rw[<-y j g];exact h)⟩
theorem Cons.sQ{i:Nat}{S:Nat->Bool->ew}{l:L}{c:List uq}{e ps:List (Nat×ew)}(a:Cons ops a0 i S l e ps c){d:Nat}{v:Value}(f:lk l d=some v):Cons ops a0 i S ((d,v)::l) e ps c:=by
 refine⟨λt u b=>?_,a.r,a.p,a.j⟩;simp only[lk]at b;split at b
 ·rename_i g;obtain rfl:=Nat.eq_of_beq_eq_true g;obtain rfl:=Option.some.inj b;exact a.l _ _ f
 ·exact a.l t u b
theorem Cons.ur{i:Nat}{S S':Nat->Bool->ew}{l:L}{y:List uq}{x ps:List (Nat×ew)}(q:Cons ops a0 i S l x ps y)(s:∀j,j<i->S' j=S j){o:Oper}(z:ops[i]? =some o){R:ew}(A:∀d,o.dst=some d->∀b u w,S' i b u w->R u w):Cons ops a0 (i+1) S' l (W.ur o.dst R x) ps y:=by
 have n:∀p∈x,∃j o,j<i+1/\ops[j]? =some o/\o.dst=some p.1/\∀b u w,S' j b u w->p.2 u w:=λp c=>by obtain⟨j,e,f,g,k,m⟩:=q.r p c;exact⟨j,e,by omega,g,k,by rw[s j f];exact m⟩
 refine⟨λt u h=>?_,λp c=>?_,λp c=>?_,λp c=>?_⟩
 ·rcases q.l t u h with h|⟨j,e,f,g,k,m⟩
  ·exact .inl h
  ·exact .inr ⟨j,e,by omega,g,k,by rw[s j f];exact m⟩
 ·cases v:o.dst with
  |none=>rw[v]at c;exact n p c
  |some d=>
   rw[v]at c;rcases List.mem_cons.1 c with rfl|c
   ·exact⟨i,o,by omega,z,v,A _ v⟩
   ·exact n p c
 ·obtain⟨j,e,f,g,k,m⟩:=q.p p c;exact⟨j,e,by omega,g,k,by rw[s j f];exact m⟩
 ·obtain⟨j,e,f,g,k,m⟩:=q.j p c;exact⟨j,e,by omega,g,k,λb a w h=>m b a w (by rw[<-s j f];exact h)⟩
theorem Cons.ON{i:Nat}{S S':Nat->Bool->ew}{l:L}{s ps:List (Nat×ew)}{v:List uq}(m:Cons ops a0 i S l s ps v)(n:∀j,j<i->S' j=S j){o:Oper}(x:ops[i]? =some o)(y:o.dst=none){q:uq}(z:∀b a w,S' i b (eT ops o a) w->q.2 (q.1.map λt=>a.eval (.tmp t)) w):Cons ops a0 (i+1) S' l s ps (q::v):=by
 refine⟨λt u h=>?_,λp c=>?_,λp c=>?_,λp c=>?_⟩
 ·rcases m.l t u h with h|⟨j,d,e,f,g,k⟩
  ·exact .inl h
  ·exact .inr ⟨j,d,by omega,f,g,by rw[n j e];exact k⟩
 ·obtain⟨j,d,e,f,g,k⟩:=m.r p c;exact⟨j,d,by omega,f,g,by rw[n j e];exact k⟩
 ·obtain⟨j,d,e,f,g,k⟩:=m.p p c;exact⟨j,d,by omega,f,g,by rw[n j e];exact k⟩
 ·rcases List.mem_cons.1 c with rfl|c
  ·exact⟨i,o,by omega,x,y,z⟩
  ·obtain⟨j,d,e,f,g,k⟩:=m.j p c;exact⟨j,d,by omega,f,g,λb a w h=>k b a w (by rw[<-n j e];exact h)⟩
theorem u5:∀{ps a:List (Nat×ew)} {p:Nat×ew},p∈sX ps a->p∈a\/∃q∈ps,p=(q.1,λ_ _=>True)
 |[],a,p,h=>.inl h
 |q::r,a,p,h=>by
  rcases List.mem_cons.1 h with rfl|h
  ·exact .inr ⟨q,List.mem_cons_self,rfl⟩
  ·rcases u5 h with h|⟨x,b,c⟩
   ·exact .inl h
   ·exact .inr ⟨x,List.mem_cons_of_mem _ b,c⟩
theorem Cons.PQ{i:Nat}{S:Nat->Bool->ew}{l:L}{c ps:List (Nat×ew)}{d:List uq}(a:Cons ops a0 i S l c ps d):Cons ops a0 i S l (sX ps c) [] d:=by
 refine⟨a.l,λp b=>?_,(λp b=>by cases b),a.j⟩;rcases u5 b with h|⟨q,e,rfl⟩
 ·exact a.r p h
 ·obtain⟨j,o,f,g,k,_⟩:=a.p q e;exact⟨j,o,f,g,k,λ_ _ _ _=>trivial⟩
theorem Cons.Ng{i:Nat}{S S':Nat->Bool->ew}{l:L}{x ps:List (Nat×ew)}{y:List uq}(q:Cons ops a0 i S l x ps y)(s:∀j,j<i->S' j=S j){o:Oper}(z:ops[i]? =some o){R:ew}(A:∀d,o.dst=some d->S' i false=R):Cons ops a0 (i+1) S' l x (W.ur o.dst R ps) y:=by
 have n:∀p∈ps,∃j o,j<i+1/\ops[j]? =some o/\o.dst=some p.1/\∀u w,S' j false u w->p.2 u w:=λp c=>by obtain⟨j,e,f,g,k,m⟩:=q.p p c;exact⟨j,e,by omega,g,k,by rw[s j f];exact m⟩
 refine⟨λt u h=>?_,λp c=>?_,λp c=>?_,λp c=>?_⟩
 ·rcases q.l t u h with h|⟨j,e,f,g,k,m⟩
  ·exact .inl h
  ·exact .inr ⟨j,e,by omega,g,k,by rw[s j f];exact m⟩
 ·obtain⟨j,e,f,g,k,m⟩:=q.r p c;exact⟨j,e,by omega,g,k,by rw[s j f];exact m⟩
 ·cases v:o.dst with
  |none=>rw[v]at c;exact n p c
  |some d=>
   rw[v]at c;rcases List.mem_cons.1 c with rfl|c
   ·exact⟨i,o,by omega,z,v,λu w h=>by rw[A _ v]at h;exact h⟩
   ·exact n p c
 ·obtain⟨j,e,f,g,k,m⟩:=q.j p c;exact⟨j,e,by omega,g,k,λb a w h=>m b a w (by rw[<-s j f];exact h)⟩
structure Told(E E':World->World->Prop)(R:Bool->ew):Prop where
 e:∀b v w w',R b v w->E w w'->R b v w'
 x:∀v w w',R false v w->E' w w'->R true v w'
theorem RI{α:Type}{f:α->Bool}:∀{l:List α},RM f l=true->∀x∈l,f x=true
 |y::r,h,x,a=>by
  simp only[RM]at h;split at h
  ·rename_i b;rcases List.mem_cons.1 a with rfl|a
   ·exact b
   ·exact RI h x a
  ·cases h
theorem RL{i t:Nat}(h:early0 ops.toList i t=true):Before ops i t:=λk o b c=>by
 unfold early0 at h;split at h
 ·cases h
 ·have:=RI h o (by simpa using Array.mem_of_getElem? b);rw[c,show Ml (some t) t=true from Nat.beq_refl t]at this;obtain⟨e,d,a⟩:=jL this;split at a
  ·rename_i f;unfold waits;rw[b];exact Array.any_eq_true'.2 ⟨e,by simpa using d,by simp[Nat.eq_of_beq_eq_true a,f]⟩
  ·cases a
theorem RH{c e:Nat->Bool}{l l0:L}{a:Act}(h:∀t,c t=true->∀v,lk l t=some v->a.eval (.tmp t)=v)(j:∀t,e t=true->∀v,lk l0 t=some v->a.eval (.tmp t)=v):∀(k:List Nat) (t:Nat) (v:Value),lk (RG c e l l0 k) t=some v->a.eval (.tmp t)=v
 |[],t,v,b=>by cases b
 |x::r,t,v,b=>by
  have g:=RH h j r t v
  have d:∀u,a.eval (.tmp x)=u->lk ((x,u)::RG c e l l0 r) t=some v->a.eval (.tmp t)=v:=λu f h=>by
   simp only[lk]at h;split at h
   ·rename_i m;obtain rfl:=Nat.eq_of_beq_eq_true m;obtain rfl:=Option.some.inj h;exact f
   ·exact g h
  simp only[RG]at b;split at b
  ·rename_i i;split at b
   ·rename_i u f;exact d u (h x i u f) b
   ·exact g b
  ·split at b
   ·rename_i i;split at b
    ·rename_i u f;exact d u (j x i u f) b
    ·exact g b
   ·exact g b
theorem FT(J:ki P T)(y:∀c a w,a.tmps.size=N->a.defers=a0.defers->pn c w->Q (.panic c) a w)(hE:dR E)(ab:∀a b,E a b->E' a b)(hB:iN ops N m=true){i:Nat}{S:Nat->Bool->ew}{l:L}{rs ps:List (Nat×ew)}{js:List uq}{ks:List Nat}{o:Oper}{lb ea:Bool}{l0:L}(ac:∀t v,lk l0 t=some v->a0.eval (.tmp t)=v){go:L->List (Nat×ew)->List (Nat×ew)->Bool->Prop}(G:Cons ops a0 i S l rs ps js)(K:ops[i]? =some o) (h:yM P T N pn E E' ops.toList w0 i l0 o ks l rs ps lb ea go):∃R:Bool->ew,Told E E' R/\
  (∀(S':Nat->Bool->ew) (b:Bool),(lb=true->b=true)->(∀j,j<i->S' j=S j)->∀a w,At ops a0 N i S' b (kK o) a w->(ea=true->b=false/\E w0 w)->E' w0 w->o.wp P a w (λa' w'=>∃v,a'=a.put o.dst v/\E w w'/\R b v w') Q)/\
  ∃l' V W X,go l' V W X/\(X=true->lb=true/\∀u w,¬R false u w)/\∀S':Nat->Bool->ew,(∀j,j<i->S' j=S j)->(∀d,o.dst=some d->S' i=R)->Cons ops a0 (i+1) S' l' V W js:=by
 have frame:∀(S':Nat->Bool->ew) (b:Bool),(∀j,j<i->S' j=S j)->∀a w,At ops a0 N i S' b (kK o) a w->∀r:L,(∀t v,lk r t=some v->a.eval (.tmp t)=v)->pO N (r++RN ops.toList i o l l0) a:=λS' b g a w n r Y=>by
  refine⟨n.size,λt v ht=>?_⟩;rcases wv ht with h|h
  ·exact Y t v h
  ·exact RH (λt hc v Z=>(jM hB G g n hc).1 v Z) (λt hc v Z=>(n.keep t (RL hc)).trans (ac t v Z)) _ t v h
 have x:∀(S':Nat->Bool->ew) (b:Bool),(∀j,j<i->S' j=S j)->∀a w,At ops a0 N i S' b (kK o) a w->(ea=true->b=false)->∀f:L->Prop,rr (Lf ea (iY (pP ops.toList o) ps) (iY (pP ops.toList o) rs)) w f->∃r,f r/\pO N (r++RN ops.toList i o l l0) a:=λS' b g a w n q f hf=>by
  obtain⟨r,z,A⟩:=sY (a:=a) hf λp M=>by
   rcases FR M with M|⟨D,M⟩
   ·exact(jM hB G g n (dE M).2).2.1 p (dE M).1 rfl
   ·exact(jM hB G g n (dE M).2).2.2 (q D) p (dE M).1 rfl
  exact⟨r,z,frame S' b g a w n r A⟩
 unfold yM at h;split at h
 ·rename_i v Z;refine⟨λ_ u _=>u=v,⟨λ_ _ _ _ h _=>h,λ_ _ _ h _=>h⟩,λS' b _ g a w n q D=>?_,_,_,_,_,h,(λh=>by cases h),λS' g B=>G.ins g K λd C b u w H=>by rw[B d C]at H;exact H⟩;refine ft J (frame S' b g a w n [] λt v ht=>by cases ht) (yL (k:=λu w2=>u=v/\w2=w) (s:=λ_=>False) (pan:=λ_ _=>False) Z ⟨rfl,rfl⟩) ?_ (λ_ h=>h.elim) λ_ _ h=>h.elim;rintro u w' ⟨rfl,rfl⟩;exact⟨u,rfl,hE.refl _,rfl⟩
 ·cases h with
  |exact v h k=>
   refine⟨λ_ u _=>u=v,⟨λ_ _ _ _ h _=>h,λ_ _ _ h _=>h⟩,λS' b _ g a w n q D=>?_,_,_,_,_,k,(λh=>by cases h),λS' g B=>G.ins g K λd C b u w H=>by rw[B d C]at H;exact H⟩;obtain⟨r,z,F⟩:=x S' b g a w n (λe=>(q e).1) _ (h w D);refine ft J F z ?_ (λ_ h=>h.elim) λc w' h=>y c a w' n.size n.defers h;rintro u w' ⟨rfl,A⟩;exact⟨u,rfl,A,rfl⟩
  |rel R I h k=>
   refine⟨λ_=>R,⟨λ_ _ _ _ h e=>I _ _ _ h (ab _ _ e),λ_ _ _ h e=>I _ _ _ h e⟩,λS' b _ g a w n q D=>?_,_,_,_,_,k,(λh=>by cases h),λS' g B=>G.ur g K λd C b u w h=>by rw[B d C]at h;exact h⟩;obtain⟨r,z,F⟩:=x S' b g a w n (λe=>(q e).1) _ (h w D);refine ft J F z ?_ (λ_ h=>h.elim) λc w' h=>y c a w' n.size n.defers h;rintro u w' ⟨A,O⟩;exact⟨u,rfl,O,A⟩
  |Db R I h k=>
   refine⟨λb u w=>b=true\/R u w,⟨λ_ _ _ _ h e=>h.imp id λh=>I _ _ _ h e,λ_ _ _ _ _=>.inl rfl⟩,λS' b _ g a w n q D=>?_,_,_,_,_,k,(λh=>by cases h),λS' g B=>G.Ng g K λd C=>by rw[B d C];funext u w;simp⟩;obtain⟨r,z,F⟩:=x S' b g a w n (λe=>(q e).1) _ (h w D);refine ft J F z ?_ (λ_ h=>h.elim) λc w' h=>y c a w' n.size n.defers h;rintro u w' ⟨A,O⟩;exact⟨u,rfl,O,.inr A⟩
  |late aa R I h k=>
   refine⟨λb u w=>b=true/\R u w,⟨λ_ _ _ _ h e=>⟨h.1,I _ _ _ h.2 e⟩,λ_ _ _ h _=>by cases h.1⟩,λS' b hb g a w n q D=>?_,_,_,_,_,k,λ_=>⟨aa,λu w h=>by cases h.1⟩,λS' g B=>G.ur g K λd C b u w h=>by rw[B d C]at h;exact h.2⟩;obtain⟨r,z,F⟩:=x S' b g a w n (λe=>(q e).1) _ (h w D);refine ft J F z ?_ (λ_ h=>h.elim) λc w' h=>y c a w' n.size n.defers h;rintro u w' ⟨A,O⟩;exact⟨u,rfl,O,hb aa,A⟩
  |early U R I h k=>
   refine⟨λb u w=>b=true\/R u w,⟨λ_ _ _ _ h e=>h.imp id λh=>I _ _ _ h e,λ_ _ _ _ _=>.inl rfl⟩,λS' b _ g a w n q D=>?_,_,_,_,_,k,(λh=>by cases h),λS' g B=>G.Ng g K λd C=>by rw[B d C];funext u w;simp⟩;obtain⟨r,z,F⟩:=x S' b g a w n (λe=>(q e).1) _ (h w (q U).2);refine ft J F z ?_ (λ_ h=>h.elim) λc w' h=>y c a w' n.size n.defers h;rintro u w' ⟨A,O⟩;exact⟨u,rfl,O,.inr A⟩
  |wu U v h k=>
   refine⟨λ_ u _=>u=v,⟨λ_ _ _ _ h _=>h,λ_ _ _ h _=>h⟩,λS' b _ g a w n q D=>?_,_,_,_,_,k,(λh=>by cases h),λS' g B=>G.ins g K λd C b u w H=>by rw[B d C]at H;exact H⟩;obtain⟨r,z,F⟩:=x S' b g a w n (λe=>(q e).1) _ (h w (q U).2);refine ft J F z ?_ (λ_ h=>h.elim) λc w' h=>y c a w' n.size n.defers h;rintro u w' ⟨rfl,A⟩;exact⟨u,rfl,A,rfl⟩
theorem qe{a:Act}{w:World}{l':L}{X:Prop}(c:∀t v,lk l' t=some v->a.eval (.tmp t)=v):∀{g:List uq},sV g l' w X->(∀p∈g,p.2 (p.1.map λt=>a.eval (.tmp t)) w)->X
 |[],h,_=>h
 |p::r,h,d=>by
  have b:∀(ss:List Nat) (vs:List Value),yJ l' ss=some vs->(ss.map λt=>a.eval (.tmp t))=vs:=by
   intro ss;induction ss with
   |nil=>intro vs h;simp only[yJ,Option.some.injEq]at h;subst h;rfl
   |cons t r i=>
    intro vs h;simp only[yJ]at h;split at h
    ·rename_i v j;split at h
     ·rename_i k l;simp only[Option.some.injEq]at h;subst h;simp[c t v j,i k l]
     ·cases h
    ·cases h
  simp only[sV]at h;split at h
  ·rename_i vs e;exact qe c (h (b _ _ e▸d p List.mem_cons_self)) λq f=>d q (List.mem_cons_of_mem _ f)
  ·exact qe c h λq f=>d q (List.mem_cons_of_mem _ f)
theorem qf{a:Act}{w:World}:∀{c:List (Nat×ew)} {f:L->Prop},rr c w f->(∀p∈c,p.2 (a.eval (.tmp p.1)) w)->∃l',f l'/\(∀t v,lk l' t=some v->a.eval (.tmp t)=v)/\Dc l'=(yK c).map λt=>a.eval (.tmp t)
 |[],f,h,_=>⟨[],h,(λt v b=>by cases b),rfl⟩
 |p::r,f,h,d=>by
  obtain⟨l',e,g,i⟩:=qf (h _ (d p List.mem_cons_self)) λq j=>d q (List.mem_cons_of_mem _ j);refine⟨_,e,λt v b=>?_,by simp[Dc,yK,i]⟩;simp only[lk]at b;split at b
  ·rename_i k;obtain rfl:=Nat.eq_of_beq_eq_true k;exact Option.some.inj b
  ·exact g t v b
theorem yN:∀{a:List (Nat×ew)} {t:Nat},t∈yK a->∃p∈a,p.1=t
 |p::r,t,h=>by
  rcases List.mem_cons.1 h with rfl|h
  ·exact⟨p,List.mem_cons_self,rfl⟩
  ·obtain⟨q,b,c⟩:=yN h;exact⟨q,List.mem_cons_of_mem _ b,c⟩
theorem B5{o:Oper}{t:Nat}(d:wrote ops t=true)(a:pP ops.toList o t=true):t∈AP ops o:=by
 unfold pP at a;rw[nN,d]at a;obtain⟨e,f,b⟩:=jL a;split at b
 ·rename_i g;have c:=rK.1 b;rw[lq]at c;have h:(ops[e.on]?).bind (·.dst)=some t:=by simpa using c
  exact List.mem_filterMap.2 ⟨e,f,by rw[if_pos g];exact h⟩
 ·cases b
theorem u6(hT:ki P T)(F:iN ops N m=true){Y Z G:World->World->Prop}(aa:∀a b,E a b->E' a b){i:Nat}{S:Nat->Bool->ew}{l:L}{H ps:List (Nat×ew)}{js:List uq}{ks:List Nat}{o:Oper}(x:Bool)(I:∀a b,E a b->G a b)(K:x=false->∀a b,E' a b->G a b){B:List (Nat×ew)}(hq:∀p∈B,(p∈H\/(x=true/\p∈ps))/\pP ops.toList o p.1=true){go:uq->Prop}(u:Cons ops a0 i S l H ps js)(ho:ops[i]? =some o)(f:o.dst=none)
 (h:OM Y Z G w0 (λw1 κ=>rr B w1 λl'=>zX P T ks (l'++jK (pP ops.toList o) l (n7 ops.toList o)) w1 o (λ_ _=>False) (λw2=>κ (Dc l') w2) λ_ _=>False) (λJ=>go (yK B,J))):∃R:Bool->ew,Told E E' R/\
  (∀(S':Nat->Bool->ew) (b M:Bool),(x=true->b=false/\M=true)->(∀j,j<i->S' j=S j)->∀a w,At ops a0 N i S' b (kK o) a w->Y w0 w->o.wp P a w (λa' w'=>∃v,a'=a.put o.dst v/\Z w w'/\R M v w'/\v=eT ops o a) Q)/\
  ∃p,go p/\∀S':Nat->Bool->ew,(∀j,j<i->S' j=S j)->S' i=R->Cons ops a0 (i+1) S' l H ps (p::js):=by
 obtain⟨J,st,h,k⟩:=h;let C:=yK B
 have O:∀t∈C,t∈AP ops o:=λt y=>by
  obtain⟨p,U,rfl⟩:=yN y;obtain⟨d,e⟩:=hq p U;rcases d with d|⟨_,d⟩
  ·obtain⟨j,o',hj,n,q,_⟩:=u.r p d;exact B5 (Array.any_eq_true'.2 ⟨_,Array.mem_of_getElem? n,by simp[q]⟩) e
  ·obtain⟨j,o',hj,n,q,_⟩:=u.p p d;exact B5 (Array.any_eq_true'.2 ⟨_,Array.mem_of_getElem? n,by simp[q]⟩) e
 refine⟨λb v w=>(x=true->b=true)/\∃a:Act,v=eT ops o a/\J (C.map λt=>a.eval (.tmp t)) w,⟨λ_ v a b ⟨h0,c,s,g⟩ z=>⟨h0,c,s,st _ _ _ g (I _ _ z)⟩,λv a b ⟨h0,c,s,g⟩ z=>⟨λ_=>rfl,c,s,st _ _ _ g (K (by cases x<;>simp_all) _ _ z)⟩⟩,λS' b M hb A a w D z=>?_,_,k,λS' A hi=>u.ON A ho f λb a w hs=>?_⟩
 ·obtain⟨V,s,g,h3⟩:=qf (a:=a) (h w z) λp U=>by
   obtain⟨d,e⟩:=hq p U;rcases d with d|⟨W,d⟩
   ·exact(jM F u A D e).2.1 p d rfl
   ·exact(jM F u A D e).2.2 (hb W).1 p d rfl
  have hF:pO N (V++jK (pP ops.toList o) l (n7 ops.toList o)) a:=by
   refine⟨D.size,λt v y=>?_⟩;rcases wv y with h|h
   ·exact g t v h
   ·exact lx (λt hc v hv=>(jM F u A D hc).1 v hv) _ t v h
  refine ft hT hF s (λ_ _ h=>h.elim) (λw' hw=>?_) λ_ _ h=>h.elim;obtain⟨hJ,X⟩:=hw;rw[h3]at hJ;exact⟨_,by rw[f];rfl,X,⟨λW=>(hb W).2,a,rfl,hJ⟩,rfl⟩
 ·rw[hi]at hs;obtain⟨_,b,s,g⟩:=hs;have:(C.map λt=>b.eval (.tmp t))=C.map λt=>a.eval (.tmp t):=List.map_congr_left λt y=>(Da s (O t y)).symm;rw[this]at g;exact g
theorem FU(x:ki P T)(g:∀c a w,a.tmps.size=N->a.defers=a0.defers->pn c w->Q (.panic c) a w)(n:iN ops N m=true){i:Nat}{S:Nat->Bool->ew}{l:L}{u ps:List (Nat×ew)}{y:List uq}{z:List Nat}{o:Oper}{go:ew->Prop}(q:Cons ops a0 i S l u ps y)(J:ops[i]? =some o) (h:Nf P T pn E E' ops.toList w0 o z l u ps go):∃R:ew,(∀v a b,R v a->E a b->R v b)/\go R/\
  (∀S':Nat->Bool->ew,(∀j,j<i->S' j=S j)->∀a w,At ops a0 N i S' false (kK o) a w->E w0 w->o.wp P a w (λA w'=>∃v,A=a.put o.dst v/\E' w w'/\R v w') Q):=by
 obtain⟨R,B,h,k⟩:=h;refine⟨R,B,k,λS' r a w e C=>?_⟩
 obtain⟨s,D,F,K⟩:=qf (a:=a) (h w C) λp d=>by
  rcases List.mem_append.1 d with d|d
  ·exact(jM n q r e (dE d).2).2.2 rfl p (dE d).1 rfl
  ·exact(jM n q r e (dE d).2).2.1 p (dE d).1 rfl
 have G:pO N (s++jK (pP ops.toList o) l (n7 ops.toList o)) a:=by
  refine⟨e.size,λt v H=>?_⟩;rcases wv H with h|h
  ·exact F t v h
  ·exact lx (λt I v f=>(jM n q r e I).1 v f) _ t v h
 refine ft x G D (λv w' f=>?_) (λ_ h=>h.elim) λc w' h=>g c a w' e.size e.defers h;exact⟨v,rfl,f.2,f.1⟩
theorem AT{a:Act}{g d:Nat}{b:Bool}(f:(ops[g]?).bind (·.dst)=some d)(c:a.eval (.tmp d)=.bool b):yielded ops a.tmps g=some b:=by
 rw[ig]at c;unfold yielded;rw[f];simp only[Option.bind_some];cases e:a.tmps[d]? with
 |none=>rw[e]at c;simp[undef]at c
 |some x=>rw[e]at c;simp at c;subst c;rfl
def FV(ops:Array Oper)(i:Nat)(S:Nat->Bool->ew)(a:List Nat):Prop:=∀j∈a,∃o d,j<i/\ops[j]? =some o/\o.dst=some d/\∀u w,¬S j false u w
theorem FV.next{ops:Array Oper}{i:Nat}{S S':Nat->Bool->ew}{a:List Nat}(h:FV ops i S a)(b:∀j,j<i->S' j=S j):FV ops (i+1) S' a:=λj c=>by obtain⟨o,d,e,f,g,k⟩:=h j c;exact⟨o,d,by omega,f,g,by rw[b j e];exact k⟩
theorem mem_iff{n:Nat}:∀{l:List Nat},mem n l=true->n∈l
 |x::r,h=>by
  simp only[mem]at h;split at h
  ·rename_i a;rw[Nat.eq_of_beq_eq_true a];exact List.mem_cons_self
  ·exact List.mem_cons_of_mem _ (mem_iff h)
theorem Lg{l0:L}(aL:∀t v,lk l0 t=some v->a0.eval (.tmp t)=v)(hT:ki P T)(aB:∀c a w,a.tmps.size=N->a.defers=a0.defers->pn c w->Q (.panic c) a w)(hE:dR E)(ae:∀a b,E a b->E' a b)(hB:iN ops N m=true)(hK:∀l a w,na a0.defers N l a->K l w->Q .normal a w):∀(r:List Oper) (i:Nat) (z:List Nat) (l:L) (J ps:List (Nat×ew)) (H:List uq) (lt:List Nat) (S:Nat->Bool->ew),(∀j,r[j]? =ops[i+j]?)->i+n8 r=m->Cons ops a0 i S l J ps H->(∀j,Told E E' (S j))->FV ops i S lt->DW P T N pn E E' sp ops.toList w0 l0 K i r z l J ps H lt->
  ∃S':Nat->Bool->ew,(∀j,j<i->S' j=S j)/\(∀j,Told E E' (S' j))/\(∀j o,i<=j->j<m->ops[j]? =some o->jo E E' (λb w=>(b=true\/E w0 w)/\E' w0 w) sp P ops Q a0 N (λb j=>S' j b) j o)/\nc (λb w=>(b=true\/E w0 w)/\E' w0 w) P ops Q a0 N m (λb j=>S' j b):=by
 have aC:∀(b:Bool) (i:Nat) (S:Nat->Bool->ew) (l:L) (J ps:List (Nat×ew)) (H:List uq),i=m->Cons ops a0 i S l J ps H->∀a w,a.tmps.size=N->a.defers=a0.defers->(∀j,wrote ops j=false->a.eval (.tmp j)=a0.eval (.tmp j))->
  (∀i d,i<m->((ops[i]?).bind (·.dst))=some d->S i b (a.eval (.tmp d)) w)->(∀i o,i<m->ops[i]? =some o->o.dst=none->S i b (eT ops o a) w)->∀X:L->Prop,(rr J w λY=>sV H Y w (X Y))->∃Y,X Y/\na a0.defers N (Y++l) a:=by
  rintro b i S l J ps H rfl A a w hz s hk hv ag X hf;obtain⟨Y,Z,h2⟩:=sY (a:=a) hf λp hp=>by obtain⟨j,o,I,G,s,h⟩:=A.r p hp;exact h _ _ _ (hv j p.1 I (by rw[G];exact s))
  refine⟨Y,qe h2 Z (λp hp=>?_),⟨hz,λt v ht=>?_⟩,s⟩
  ·obtain⟨j,o,I,G,s,h⟩:=A.j p hp;exact h _ _ _ (ag j o I G s)
  rcases wv ht with h|h
  ·exact h2 t v h
  ·rcases A.l t v h with⟨hw,h⟩|⟨j,o,I,G,s,h⟩
   ·rw[hk t hw];exact h
   ·exact h _ _ _ (hv j t I (by rw[G];exact s))
 intro r;induction r with
 |nil=>
  intro i z l J ps H lt S hr hi A an F h;have ao:i=m:=by simpa[n8]using hi
  refine⟨S,λ_ _=>rfl,an,λj o Z h2=>by omega,λb a w hz s hk hv ag he=>?_⟩;have aT:ops.size<=m:=by have:=hr 0;simp only[List.getElem?_nil,Nat.add_zero]at this;have:=Array.getElem?_eq_none_iff.1 this.symm;omega
  refine⟨λ_=>?_,λh=>by omega⟩;obtain⟨Y,Z,hF⟩:=aC b i S l J ps H ao A a w hz s hk hv ag _ (h w he.2);exact hK _ a w hF Z
 |cons o r ih=>
  intro i z l J ps H lt S hr hi A an F h;have G:ops[i]? =some o:=(hr 0).symm;have aU:i<ops.size:=(Array.getElem?_eq_some_iff.1 G).1;have aM:∀j,r[j]? =ops[i+1+j]? :=λj=>by have:=hr (j+1);simpa[Nat.add_assoc,Nat.add_comm 1 j]using this
  unfold DW at h;split at h
  ·rename_i ht;have ao:i=m:=by simpa[n8,ht]using hi
   refine⟨S,λ_ _=>rfl,an,λj o Z h2=>by omega,λb a w hz s hk hv ag he=>⟨λh=>by omega,λ_=>?_⟩⟩;obtain⟨Y,Z,hF⟩:=aC b i S l J ps H ao A a w hz s hk hv ag _ (h w he.2);have aD:o.dst=none/\o.guard=none:=by
    unfold AQ at ht;split at ht
    ·rename_i Z h2;exact⟨Z,h2⟩
    ·cases ht
   unfold wpOp;rw[<-ao,G];simp only[Region.wanted,aD.2,if_true];refine .inl (ft hT hF.b Z (λ_ _ h=>h.elim) (λM h'=>?_) λ_ _ h=>h.elim);rw[aD.1];exact hK _ a M hF h'
  ·rename_i ht;have aN:i+1+n8 r=m:=by
    simp only[n8,ht]at hi;omega
   have aa:∀(R:Bool->ew) (ax:List Nat) (Y:L) (ab ac:List (Nat×ew)) (ap:List uq) (aq:List Nat),Told E E' R->(∀S':Nat->Bool->ew,(∀j,j<i->S' j=S j)->S' i=R->Cons ops a0 (i+1) S' Y ab ac ap)->(∀S':Nat->Bool->ew,(∀j,j<i->S' j=S j)->S' i=R->FV ops (i+1) S' aq)->DW P T N pn E E' sp ops.toList w0 l0 K (i+1) r ax Y ab ac ap aq->
    (∀S':Nat->Bool->ew,(∀j,j<i->S' j=S j)->S' i=R->jo E E' (λb w=>(b=true\/E w0 w)/\E' w0 w) sp P ops Q a0 N (λb j=>S' j b) i o)->
    ∃S':Nat->Bool->ew,(∀j,j<i->S' j=S j)/\(∀j,Told E E' (S' j))/\(∀j o,i<=j->j<m->ops[j]? =some o->jo E E' (λb w=>(b=true\/E w0 w)/\E' w0 w) sp P ops Q a0 N (λb j=>S' j b) j o)/\nc (λb w=>(b=true\/E w0 w)/\E' w0 w) P ops Q a0 N m (λb j=>S' j b):=by
    intro R ax Y ab ac ap aq hR af aE h' f;let S1:Nat->Bool->ew:=λj=>if j=i then R else S j
    have ay:∀j,j<i->S1 j=S j:=λj I=>by simp only[S1];rw[if_neg (by omega)]
    have ah:S1 i=R:=by show(if i=i then _ else _)=_;rw[if_pos rfl]
    obtain⟨S',Z,h2,h3,h4⟩:=ih (i+1) ax Y ab ac ap aq S1 aM aN (af S1 ay ah) (λj=>by
     simp only[S1];split
     ·exact hR
     ·exact an j) (aE S1 ay ah) h'
    have y:∀j,j<i->S' j=S j:=λj I=>(Z j (by omega)).trans (ay j I);refine⟨S',y,h2,λj o' I aO az=>?_,h4⟩;rcases Nat.eq_or_lt_of_le I with rfl|I
    ·rw[G]at az;obtain rfl:=Option.some.inj az;exact f S' y ((Z i (by omega)).trans ah)
    ·exact h3 j o' I aO az
   split at h
   ·rename_i ai;have ar:o.dst=none/\o.guard=none:=by
     unfold B3 at ai;split at ai
     ·rename_i Z h2;exact⟨Z,h2⟩
     ·cases ai
    split at h
    ·rename_i q;have q:=Nat.eq_of_beq_eq_true q;unfold runT at h;obtain⟨R,hR,f,p,h',af⟩:=u6 (E:=E) (Q:=Q) (go:=λp=>DW P T N pn E E' sp ops.toList w0 l0 K (i+1) r z l (sX ps J) [] (p::H) lt) hT hB ae true (λ_ _ h=>h) (λh=>by cases h) (λp hp=>(List.mem_append.1 hp).elim (λh=>⟨.inr ⟨rfl,(dE h).1⟩,(dE h).2⟩) λh=>⟨.inl (dE h).1,(dE h).2⟩) A G ar.1 h;refine aa R z l (sX ps J) [] (p::H) lt hR (λS' n hi=>(af S' n hi).PQ) (λS' n _=>F.next n) h' λS' y O b a w hb hz U hk hv he=>?_;obtain rfl:=hb (.inl q);have hs:=f S' false true (λ_=>⟨rfl,rfl⟩) y a w ⟨hz,U,hk,hv⟩ (he.1.resolve_left (by simp));unfold wpOp;rw[G];simp only[Region.wanted,ar.2,if_true];refine .inl ?_;simp only[if_pos q];rw[O];refine Oper.wp_mono (λa' M hx=>?_) hs;obtain⟨v,q1,q2,q3,q4⟩:=hx;exact⟨v,q1,q2,by simpa[q]using q3,λ_=>q4⟩
    ·rename_i q;have q:=Nat.ne_of_beq_eq_false q;unfold Nd at h;obtain⟨R,hR,f,p,h',af⟩:=u6 (E:=E) (Q:=Q) (go:=λp=>DW P T N pn E E' sp ops.toList w0 l0 K (i+1) r z l J ps (p::H) lt) hT hB ae false ae (λ_ _ _ h=>h) (λp hp=>⟨.inl (dE hp).1,(dE hp).2⟩) A G ar.1 h;refine aa R z l J ps (p::H) lt hR af (λS' n _=>F.next n) h' λS' y O b a w hb hz U hk hv he=>?_;have hs:=f S' b b (λh=>by cases h) y a w ⟨hz,U,hk,hv⟩ he.2;unfold wpOp;rw[G];simp only[Region.wanted,ar.2,if_true];refine .inl ?_;simp only[if_neg q];rw[O];refine Oper.wp_mono (λa' M hx=>?_) hs;obtain⟨v,q1,q2,q3,q4⟩:=hx;exact⟨v,q1,q2,by simpa[q]using q3,λ_=>q4⟩
   rename_i aS;obtain⟨h,s⟩:=B2 h
   have aj:∀(z:List Nat) (l:L),Cons ops a0 i S l J ps H->(∀(S':Nat->Bool->ew) (b:Bool),(∀j,j<i->S' j=S j)->∀a w,At ops a0 N i S' b (kK o) a w->Region.wanted o (yielded ops a.tmps)=true)->yM P T N pn E E' ops.toList w0 i l0 o z l J ps (pq lt o) (nd ops.toList sp i) (λY ab ac lb=>DW P T N pn E E' sp ops.toList w0 l0 K (i+1) r z Y ab ac H (AS lb i lt))->
    ∃S':Nat->Bool->ew,(∀j,j<i->S' j=S j)/\(∀j,Told E E' (S' j))/\(∀j o,i<=j->j<m->ops[j]? =some o->jo E E' (λb w=>(b=true\/E w0 w)/\E' w0 w) sp P ops Q a0 N (λb j=>S' j b) j o)/\nc (λb w=>(b=true\/E w0 w)/\E' w0 w) P ops Q a0 N m (λb j=>S' j b):=by
    intro z l A hw h;obtain⟨R,hR,f,Y,ab,ac,aF,h',aG,af⟩:=FT (Q:=Q) hT aB hE ae hB aL A G h;let R1:Bool->ew:=λb v w=>o.dst=none\/R b v w;have aH:∀d,o.dst=some d->R1=R:=λd s=>by funext b v w;simp only[R1,s];simp
    refine aa R1 z Y ab ac H (AS aF i lt) ⟨λb v w M h e=>h.imp id λh=>hR.e b v w M h e,λv w M h e=>h.imp id λh=>hR.x v w M h e⟩ (λS' n hi=>af S' n λd s=>hi.trans (aH d s)) (λS' n hi=>by
     cases aF with
     |false=>exact F.next n
     |true=>
      obtain⟨Z,h2⟩:=aG rfl;intro j I;rcases List.mem_cons.1 I with rfl|I
      ·cases s:o.dst with
       |none=>unfold pq at Z;rw[s]at Z;cases Z
       |some d=>exact⟨o,d,Nat.lt_succ_self _,G,s,by rw[hi,aH d s];exact h2⟩
      ·exact F.next n j I) h' λS' y O b a w hb hz U hk hv he=>?_
    have D:At ops a0 N i S' b (kK o) a w:=⟨hz,U,hk,hv⟩
    have aP:pq lt o=true->b=true:=λau=>by
     unfold pq at au;split at au
     ·obtain⟨e,ak,C⟩:=jL au;split at C
      ·rename_i al;obtain⟨o2,d2,g1,g2,g3,g4⟩:=F _ (mem_iff C);have av:=hv e.on d2 (Array.any_eq_true'.2 ⟨e,by simpa using ak,by simp[al]⟩) (by rw[g2];exact g3);cases b with
       |true=>rfl
       |false=>
        simp only[y _ g1]at av;exact absurd av (g4 _ _)
      ·cases C
     ·cases au
    have aQ:nd ops.toList sp i=true->b=false/\E w0 w:=λB=>by
     skip
     have aR:∀{k j:Nat},FQ ops.toList k j=true->waits ops k j=true:=λ{k j} B=>by
      unfold FQ at B;unfold waits;rw[rJ]at B;have hg:ops.toList[k]? =ops[k]? :=by simp
      rw[hg]at B;split at B
      ·rename_i o2 aA;obtain⟨e,ak,C⟩:=jL B;rw[aA];split at C
       ·rename_i al;exact Array.any_eq_true'.2 ⟨e,by simpa using ak,by simp[Nat.eq_of_beq_eq_true C,al]⟩
       ·cases C
      ·cases B
     have hw:J1 ops sp i:=by
      unfold nd at B;rw[rJ]at B;have hg:ops.toList[sp]? =ops[sp]? :=by simp
      rw[hg]at B;split at B
      ·rename_i o2 aA;obtain⟨e,ak,C⟩:=jL B;split at C
       ·rename_i al;have aI:waits ops sp e.on=true:=by
         unfold waits;rw[aA];exact Array.any_eq_true'.2 ⟨e,by simpa using ak,by simp[al]⟩
        split at C
        ·rename_i hx;rw[<-Nat.eq_of_beq_eq_true hx];exact .inl aI
        ·exact .inr ⟨e.on,aI,aR C⟩
       ·cases C
      ·cases B
     exact⟨hb (.inr hw),he.1.resolve_left (by rw[hb (.inr hw)];simp)⟩
    have hs:=f S' b aP y a w D aQ he.2;unfold wpOp;rw[G];simp only[hw S' b y a w D,if_true];refine .inl ?_;rw[O];refine Oper.wp_mono (λa' M hx=>?_) hs;obtain⟨v,q1,q2,q3⟩:=hx
    have q5:if i=sp then E' w M else E w M:=by
     split
     ·exact ae _ _ q2
     ·exact q2
    have q6:R1 (b||decide (i=sp)) v M:=by
     by_cases e:i=sp
     ·rw[hb (.inl e)]at q3;have:=hR.x v M M q3 (ae _ _ (hE.refl M));simpa[e,hb (.inl e)]using(Or.inr this:R1 true v M)
     ·simpa[e]using(Or.inr q3:R1 b v M)
    cases ad:o.dst with
    |none=>exact⟨eT ops o a,by rw[q1,ad];rfl,q5,.inl ad,λ_=>rfl⟩
    |some d=>exact⟨v,by rw[q1,ad],q5,q6,λh=>by cases h⟩
   have skip:∀(z:List Nat) (l:L),Cons ops a0 i S l J ps H->(∀(S':Nat->Bool->ew) (b:Bool),(∀j,j<i->S' j=S j)->∀a w,At ops a0 N i S' b (kK o) a w->Region.wanted o (yielded ops a.tmps)=false)->DW P T N pn E E' sp ops.toList w0 l0 K (i+1) r z (W.ins N o.dst undef l) J ps H lt->
    ∃S':Nat->Bool->ew,(∀j,j<i->S' j=S j)/\(∀j,Told E E' (S' j))/\(∀j o,i<=j->j<m->ops[j]? =some o->jo E E' (λb w=>(b=true\/E w0 w)/\E' w0 w) sp P ops Q a0 N (λb j=>S' j b) j o)/\nc (λb w=>(b=true\/E w0 w)/\E' w0 w) P ops Q a0 N m (λb j=>S' j b):=by
    intro z l A hw h';let R1:Bool->ew:=λ_ u _=>o.dst=none\/u=undef
    refine aa R1 z _ J ps H lt ⟨λ_ _ _ _ h _=>h,λ_ _ _ h _=>h⟩ (λS' n hi=>A.ins n G λd s b u w hu=>by
     rw[hi]at hu;rcases hu with hu|hu
     ·rw[s]at hu;cases hu
     ·exact hu) (λS' n _=>F.next n) h' λS' y O b a w hb hz U hk hv he=>?_
    have D:At ops a0 N i S' b (kK o) a w:=⟨hz,U,hk,hv⟩;unfold wpOp;rw[G];simp only[hw S' b y a w D,Bool.false_eq_true,if_false];rw[O]
    have q5:if i=sp then E' w w else E w w:=by
     split
     ·exact ae _ _ (hE.refl w)
     ·exact hE.refl w
    cases ad:o.dst with
    |none=>exact⟨eT ops o a,rfl,q5,.inl ad,λ_=>rfl⟩
    |some d=>exact⟨undef,rfl,q5,.inr rfl,λh=>by cases h⟩
   split at h
   ·rename_i hg;split at h
    ·rename_i q;have q:=Nat.eq_of_beq_eq_true q;obtain⟨R,hR,h',f⟩:=FU (Q:=Q) hT aB hB A G h
     refine aa (λb v w=>o.dst=none\/(b=true/\R v w)) z l _ [] H _ ⟨λb v w M h e=>h.imp (λh=>h) λh=>⟨h.1,hR _ _ _ h.2 e⟩,λv w M h _=>h.imp (λh=>h) λh=>by cases h.1⟩ (λS' n hi=>A.PQ.ur n G λd s b u w hu=>by
      rw[hi]at hu;rcases hu with hu|hu
      ·rw[s]at hu;cases hu
      ·exact hu.2) (λS' n hi=>by
      intro j I;cases s:o.dst with
      |none=>rw[s]at I;cases I
      |some d=>
       rw[s]at I;obtain rfl:=List.mem_singleton.1 I
       exact⟨o,d,Nat.lt_succ_self _,G,s,λu w hx=>by
        rw[hi]at hx;rcases hx with hx|hx
        ·rw[s]at hx;cases hx
        ·cases hx.1⟩) h' λS' y O b a w hb hz U hk hv he=>?_
     obtain rfl:=hb (.inl q);have hs:=f S' y a w ⟨hz,U,hk,hv⟩ (he.1.resolve_left (by simp));unfold wpOp;rw[G];simp only[Region.wanted,hg,if_true];refine .inl ?_;simp only[if_pos q];rw[O];refine Oper.wp_mono (λa' M hx=>?_) hs;obtain⟨v,q1,q2,q3⟩:=hx;cases ad:o.dst with
     |none=>exact⟨eT ops o a,by rw[q1,ad];rfl,q2,.inl rfl,λ_=>rfl⟩
     |some d=>exact⟨v,by rw[q1,ad],q2,.inr ⟨by simp[q],q3⟩,λh=>by cases h⟩
    ·exact aj z l A (λ_ _ _ _ _ _=>by simp[Region.wanted,hg]) h
   ·rename_i g am hg;split at h
    ·exact h.elim
    ·rename_i d aJ;rw[lq]at aJ;have aK:(ops[g]?).bind (·.dst)=some d:=by simpa using aJ
     split at h
     ·exact h.elim
     ·rename_i aw;split at h
      ·rename_i b hb;have hw:∀(S':Nat->Bool->ew) (V:Bool),(∀j,j<i->S' j=S j)->∀a w,At ops a0 N i S' V (kK o) a w->Region.wanted o (yielded ops a.tmps)=(b==am):=λS' V n a w D=>by have:=(jM hB A n D aw).1 _ hb;simp[Region.wanted,hg,AT aK this]
       split at h
       ·cases b<;>cases am<;>simp only at h
        ·exact aj z l A (λS' V n a w D=>by rw[hw S' V n a w D];rfl) h
        ·exact skip z l A (λS' V n a w D=>by rw[hw S' V n a w D];rfl) h
        ·exact skip z l A (λS' V n a w D=>by rw[hw S' V n a w D];rfl) h
        ·exact aj z l A (λS' V n a w D=>by rw[hw S' V n a w D];rfl) h
       ·cases am<;>simp only at h<;>cases b
        ·exact aj (d::z) ((d,.bool false)::l) (A.sQ hb) (λS' V n a w D=>by rw[hw S' V n a w D];rfl) (h.2 rfl)
        ·exact skip (d::z) ((d,.bool true)::l) (A.sQ hb) (λS' V n a w D=>by rw[hw S' V n a w D];rfl) (h.1 rfl)
        ·exact skip (d::z) ((d,.bool false)::l) (A.sQ hb) (λS' V n a w D=>by rw[hw S' V n a w D];rfl) (h.2 rfl)
        ·exact aj (d::z) ((d,.bool true)::l) (A.sQ hb) (λS' V n a w D=>by rw[hw S' V n a w D];rfl) (h.1 rfl)
      ·rename_i vs hb;exact skip z l A (λS' V n a w D=>by have:=qM aK ((jM hB A n D aw).1 _ hb);simp[Region.wanted,hg,this]) h
      ·exact h.elim
theorem yO(F:ki P T)(q:∀c a w,a.tmps.size=N->a.defers=a0.defers->pn c w->Q (.panic c) a w)(s:dR E)(f:dR E')(g:∀a b,E a b->E' a b)(G:P.follows .mixedOrders=true){l:L}{id:Nat}(A:iN ops N m=true)(u:n8 ops.toList=m)(y:pO N l a0)(H:∀l a w,na a0.defers N l a->K l w->Q .normal a w) (h:DW P T N pn E E' sp ops.toList w0 l K 0 ops.toList [] (qO ops.toList l) [] [] [] []):(Code.region id ops true).wp P Q a0 w0:=by
 have drop:∀(l:L),∀t v,lk (qO ops.toList l) t=some v->wrote ops t=false/\lk l t=some v:=by
  intro l;induction l with
  |nil=>intro t v h;cases h
  |cons p r B=>
   intro t v h;simp only[qO]at h;split at h
   ·rename_i d;obtain⟨C,n⟩:=B t v h;refine⟨C,?_⟩;simp only[lk];split
    ·rename_i z;obtain rfl:=Nat.eq_of_beq_eq_true z;rw[nN,C]at d;cases d
    ·exact n
   ·rename_i d;simp only[lk]at h⊢;split at h
    ·rename_i z;obtain rfl:=Nat.eq_of_beq_eq_true z;rw[nN]at d;exact⟨d,h⟩
    ·exact B t v h
 obtain⟨S,_,n,I,J⟩:=Lg (Q:=Q) (a0:=a0) (sp:=sp) y.at_ F q s g A H ops.toList 0 [] _ [] [] [] [] (λ_ _ _ _=>True) (λj=>by simp) (by simpa using u)
  ⟨λt v D=>.inl ⟨(drop l t v D).1,y.at_ t v (drop l t v D).2⟩,(λp d=>by cases d),(λp d=>by cases d),λp d=>by cases d⟩ (λ_=>⟨λ_ _ _ _ _ _=>trivial,λ_ _ _ _ _=>trivial⟩) (λj M=>by cases M) h
 refine rq (E:=E) (E':=E') (sp:=sp) (Rch:=λb w=>(b=true\/E w0 w)/\E' w0 w) G A ⟨λb i v w k=>(n i).e b v w k,λi v w k=>(n i).x v w k,λb w k h e=>⟨h.1.imp (λh=>h) λh=>s.trans _ _ _ h e,f.trans _ _ _ h.2 (g _ _ e)⟩,λw k h e=>⟨.inl rfl,f.trans _ _ _ h.2 e⟩⟩ ⟨.inr (s.drew _),f.drew _⟩ y.size (λi o O R=>I i o (Nat.zero_le _) O R) J
end
end Go.Proofs.W
