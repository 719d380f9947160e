/- Laws that the proof needs, part 13. Conditions: none. -/
import Derived.Test.YteeagjkaflglpaaGreatX11
set_option maxRecDepth 100000
set_option maxHeartbeats 8000000
set_option linter.all false
namespace Go.Proofs.W
open Go.RowKit
def AP(ops:Array Oper)(o:Oper):List Nat:=o.after.toList.filterMap λe=>if Region.binds .any e then(ops[e.on]?).bind (·.dst)else none
def eT(ops:Array Oper)(o:Oper)(a:Act):Value:=.tuple ((AP ops o).map λt=>a.eval (.tmp t)).toArray
theorem wq{ops:Array Oper}{o:Oper}{a b:Act}(h:∀t∈AP ops o,a.eval (.tmp t)=b.eval (.tmp t)):eT ops o a=eT ops o b:=by unfold eT;rw[List.map_congr_left h]
theorem Da{ops:Array Oper}{o:Oper}{a b:Act}(h:eT ops o a=eT ops o b){t:Nat}(c:t∈AP ops o):a.eval (.tmp t)=b.eval (.tmp t):=by
 unfold eT at h;have d:((AP ops o).map λt=>a.eval (.tmp t))=(AP ops o).map λt=>b.eval (.tmp t):=by injection h with h;simpa using congrArg Array.toList h
 exact List.map_inj_left.1 d t c
def iN(ops:Array Oper)(N m:Nat):Bool:=
 (List.range ops.size).all (λi=>match ops[i]? with
  |some o=>(o.after.all λe=>decide (e.on<i)||!Region.binds .any e)&&(match o.dst with|some d=>decide (d<N)&&(List.range ops.size).all (λj=>decide (j=i)||match ops[j]? with|some a=>a.dst !=some d|none=>true)|none=>true)
  |none=>true)&&((decide (m=ops.size)||(List.range m).all λj=>(List.range (m+1)).any λk=>decide (j<k)&&waits ops k j)&&(decide (m=ops.size)||decide (m+1=ops.size)))
section
variable{P:Program}{ops:Array Oper}{Q:Exit->Act->World->Prop}{a0:Act}{w0:World}{N m sp:Nat}{n4:Bool->Nat->Value->World->Prop}{E E':World->World->Prop}{Rch:Bool->World->Prop}
structure ws(Rch:Bool->World->Prop)(sp:Nat)(ops:Array Oper)(a0:Act)(N m:Nat)(n4:Bool->Nat->Value->World->Prop)(L:Array Bool)(a:Act)(w:World):Prop where
 size:a.tmps.size=N
 defers:a.defers=a0.defers
 keep:∀j,wrote ops j=false->a.eval (.tmp j)=a0.eval (.tmp j)
 val:∀i o d,i<m->L.getD i false=true->ops[i]? =some o->o.dst=some d->n4 (L.getD sp false) i (a.eval (.tmp d)) w
 ext:Rch (L.getD sp false) w
 tail:∀i,m<=i->L.getD i false=false
 closed:∀i j,L.getD i false=true->waits ops i j=true->L.getD j false=true
 valn:∀i o,i<m->L.getD i false=true->ops[i]? =some o->o.dst=none->n4 (L.getD sp false) i (eT ops o a) w
 fresh:∀j,(∀k o,L.getD k false=true->ops[k]? =some o->o.dst≠some j)->a.eval (.tmp j)=a0.eval (.tmp j)
def Before(ops:Array Oper)(i j:Nat):Prop:=∀k o,ops[k]? =some o->o.dst=some j->waits ops k i=true
theorem RJ{ops:Array Oper}{i j:Nat}(h:wrote ops j=false):Before ops i j:=λk o a b=>by have:wrote ops j=true:=Array.any_eq_true'.2 ⟨o,Array.mem_of_getElem? a,by rw[b];simp⟩;rw[this]at h;cases h
def J1(ops:Array Oper)(k i:Nat):Prop:=waits ops k i=true\/∃j,waits ops k j=true/\waits ops j i=true
def jo(E E':World->World->Prop)(Rch:Bool->World->Prop)(sp:Nat)(P:Program)(ops:Array Oper)(Q:Exit->Act->World->Prop)(a0:Act)(N:Nat)(n4:Bool->Nat->Value->World->Prop)(i:Nat)(o:Oper):Prop:=
 ∀b a w,(i=sp\/J1 ops sp i->b=false)->a.tmps.size=N->a.defers=a0.defers->(∀j,Before ops i j->a.eval (.tmp j)=a0.eval (.tmp j))->
  (∀j d,(o.after.any λe=>e.on==j&&Region.binds .any e)=true->((ops[j]?).bind (·.dst))=some d->n4 b j (a.eval (.tmp d)) w)->Rch b w->
  wpOp P ops Q i (λf c=>∃v,f=a.put o.dst v/\(if i=sp then E' w c else E w c)/\n4 (b||decide (i=sp)) i v c/\(o.dst=none->v=eT ops o a)) a w
def nc(Rch:Bool->World->Prop)(P:Program)(ops:Array Oper)(Q:Exit->Act->World->Prop)(a0:Act)(N m:Nat)(n4:Bool->Nat->Value->World->Prop):Prop:=
 ∀b a w,a.tmps.size=N->a.defers=a0.defers->(∀j,wrote ops j=false->a.eval (.tmp j)=a0.eval (.tmp j))->(∀i d,i<m->((ops[i]?).bind (·.dst))=some d->n4 b i (a.eval (.tmp d)) w)->(∀i o,i<m->ops[i]? =some o->o.dst=none->n4 b i (eT ops o a) w)->Rch b w->
  (m=ops.size->Q .normal a w)/\(m+1=ops.size->wpOp P ops Q m (λc e=>Q .normal c e) a w)
structure J2(E E':World->World->Prop)(Rch:Bool->World->Prop)(n4:Bool->Nat->Value->World->Prop):Prop where
 v:∀b i v w w',n4 b i v w->E w w'->n4 b i v w'
 x:∀i v w w',n4 false i v w->E' w w'->n4 true i v w'
 r:∀b w w',Rch b w->E w w'->Rch b w'
 rx:∀w w',Rch false w->E' w w'->Rch true w'
theorem ws.next(T:iN ops N m=true)(K:J2 E E' Rch n4){L:Array Bool}{a:Act}{w:World}(f:ws Rch sp ops a0 N m n4 L a w)(Z:L.size=ops.size){i:Nat}{o:Oper}(y:ops[i]? =some o)(hm:i<m)
 {v:Value}{w':World}(q:if i=sp then E' w w' else E w w')(U:n4 (L.getD sp false||decide (i=sp)) i v w')(M:o.dst=none->v=eT ops o a)(z:L.getD i false=false)(A:∀j,waits ops i j=true->L.getD j false=true):ws Rch sp ops a0 N m n4 (L.setIfInBounds i true) (a.put o.dst v) w':=by
 have F:(L.setIfInBounds i true).getD sp false=(L.getD sp false||decide (i=sp)):=by
  rw[fL _ _ _ (by have:=(Array.getElem?_eq_some_iff.1 y).1;omega)];by_cases e:i=sp
  ·simp[e]
  ·simp[e]
 have last:∀k u,n4 (L.getD sp false) k u w->n4 (L.getD sp false||decide (i=sp)) k u w':=λk u h=>by
  by_cases e:i=sp
  ·subst e;rw[if_pos rfl]at q;rw[z]at h⊢;simpa using K.x _ _ _ _ h q
  ·rw[if_neg e]at q;simpa[e]using K.v _ _ _ _ _ h q
 have V:i<ops.size:=(Array.getElem?_eq_some_iff.1 y).1;simp only[iN,Bool.and_eq_true]at T;have g:=List.all_eq_true.1 T.1 i (List.mem_range.2 V);rw[y]at g;simp only[Bool.and_eq_true]at g;refine⟨by rw[iT,f.size],by rw[oB,f.defers],λj p=>?_,λk B d l c b s=>?_,?_,λk l=>?_,λk j l p=>?_,λk B l c b s=>?_,λj p=>?_⟩
 ·rw[mE,f.keep j p];intro e;have:wrote ops j=true:=Array.any_eq_true'.2 ⟨o,Array.mem_of_getElem? y,by rw[e];simp⟩;rw[this]at p;cases p
 ·rw[F];rw[fL _ _ _ (by omega)]at c;by_cases e:i=k
  ·subst e;rw[y]at b;obtain rfl:=Option.some.inj b;rw[s,po]
   ·exact U
   ·have n:=g.2;rw[s]at n;simp only[Bool.and_eq_true,decide_eq_true_eq]at n;rw[f.size];exact n.1
  ·rw[if_neg e]at c;have O:k<ops.size:=(Array.getElem?_eq_some_iff.1 b).1;rw[mE]
   ·exact last _ _ (f.val k B d l c b s)
   ·intro P;have n:=g.2;rw[P]at n;simp only[Bool.and_eq_true,decide_eq_true_eq]at n;have G:=List.all_eq_true.1 n.2 k (List.mem_range.2 O);rw[b]at G;simp[s,Ne.symm e]at G
 ·rw[F];have H:=f.ext;by_cases e:i=sp
  ·subst e;rw[if_pos rfl]at q;rw[z]at H⊢;simpa using K.rx _ _ H q
  ·rw[if_neg e]at q;simpa[e]using K.r _ _ _ H q
 ·rw[fL _ _ _ (by omega),if_neg (by omega)];exact f.tail k l
 ·rw[fL _ _ _ (by omega)]at l⊢;split
  ·rfl
  ·by_cases e:i=k
   ·subst e;exact A j p
   ·rw[if_neg e]at l;exact f.closed k j l p
 ·rw[F];rw[fL _ _ _ (by omega)]at c;by_cases e:i=k
  ·subst e;rw[y]at b;obtain rfl:=Option.some.inj b;have W:eT ops o (a.put o.dst v)=eT ops o a:=by rw[s];rfl
   rw[W,<-M s];exact U
  ·rw[if_neg e]at c;have C:eT ops B (a.put o.dst v)=eT ops B a:=by
    refine wq λt X=>?_;obtain⟨x,H,D⟩:=List.mem_filterMap.1 X;split at D
    ·rename_i F;refine mE _ _ _ _ λP=>?_;have Y:waits ops k x.on=true:=by
      unfold waits;rw[b];exact Array.any_eq_true'.2 ⟨x,by simpa using H,by simp[F]⟩
     have I:=f.closed k x.on c Y;have Q:i≠x.on:=λh=>by rw[<-h,z]at I;cases I
     obtain⟨o2,J,R⟩:=Option.bind_eq_some_iff.1 D;have S:x.on<ops.size:=(Array.getElem?_eq_some_iff.1 J).1;have n:=g.2;rw[P]at n;simp only[Bool.and_eq_true,decide_eq_true_eq]at n;have G:=List.all_eq_true.1 n.2 x.on (List.mem_range.2 S);rw[J]at G;simp[R,Ne.symm Q]at G
    ·cases D
   rw[C];exact last _ _ (f.valn k B l c b s)
 ·rw[mE _ _ _ _ λe=>p i o (by rw[fL _ _ _ (by omega),if_pos rfl]) y e];refine f.fresh j λk B l b=>p k B ?_ b;rw[fL _ _ _ (by omega)];split
  ·rfl
  ·exact l
theorem rq{id:Nat}(hm:P.follows .mixedOrders=true)(U:iN ops N m=true)(hV:J2 E E' Rch n4)(h0:Rch false w0.drew)(hN:a0.tmps.size=N) (hs:∀i o,i<m->ops[i]? =some o->jo E E' Rch sp P ops Q a0 N n4 i o)(h1:nc Rch P ops Q a0 N m n4):(Code.region id ops true).wp P Q a0 w0:=by
 refine wp_region_any hm ?_;have V:m=ops.size\/m+1=ops.size:=by simp only[iN,Bool.and_eq_true,Bool.or_eq_true,decide_eq_true_eq]at U;exact U.2.2
 have an:m<=ops.size:=by omega
 have M:m+1=ops.size->∀j,j<m->∃k,j<k/\k<=m/\waits ops k j=true:=λao j f=>by
  have h:=U;simp only[iN,Bool.and_eq_true]at h;rcases Bool.or_eq_true _ _▸h.2.1 with h|h
  ·have:=of_decide_eq_true h;omega
  ·have W:=List.all_eq_true.1 h j (List.mem_range.2 f);obtain⟨k,hk,H⟩:=List.any_eq_true.1 W;simp only[Bool.and_eq_true,decide_eq_true_eq]at H;have:=List.mem_range.1 hk;exact⟨k,H.1,by omega,H.2⟩
 have z:∀(i:Nat) (o:Oper),ops[i]? =some o->∀e∈o.after,Region.binds .any e=true->e.on<i:=λi o r e I hb=>by have q:i<ops.size:=(Array.getElem?_eq_some_iff.1 r).1;have X:=U;simp only[iN,Bool.and_eq_true]at X;have O:=List.all_eq_true.1 X.1 i (List.mem_range.2 q);rw[r]at O;simp only[Bool.and_eq_true]at O;have:=Array.all_eq_true_iff_forall_mem.1 O.1 e I;simpa[hb]using this
 have A:∀L:Array Bool,L.size=ops.size->Region.ready .any ops L=[]->∀i,i<ops.size->L.getD i false=true:=by
  intro L Y hr i;induction i using Nat.strongRecOn with
  |_ i ih=>
   intro q;refine Classical.byContradiction λaf=>?_;have r:ops[i]? =some ops[i]:=Array.getElem?_eq_getElem q;have t:i∈Region.ready .any ops L:=by
    unfold Region.ready;refine List.mem_filter.2 ⟨List.mem_range.2 q,?_⟩;simp only[Bool.and_eq_true,Bool.not_eq_true'];refine⟨?_,?_⟩
    ·have:L.getD i false=false:=by simpa using af
     have B:i<L.size:=by omega
     simp[B]at this⊢;exact this
    ·rw[r];simp only[Option.map_some,Option.getD_some];refine Array.all_eq_true_iff_forall_mem.2 λe I=>?_;cases ag:Region.binds .any e with
     |false=>simp
     |true=>
      have Z:=z i _ r e I ag;rw[ih e.on Z (by omega)];simp
   rw[hr]at t;cases t
 have ah:∀(p:Nat) (L:Array Bool) (a:Act) (w:World),L.size=ops.size->ws Rch sp ops a0 N m n4 L a w->((List.range ops.size).countP λi=>!L.getD i false)<=p->wpAny P .any ops Q p L a w:=by
  intro p;induction p with
  |zero=>
   intro L a w Y g hc
   have n:∀i,i<ops.size->L.getD i false=true:=λi q=>by
    have h0:(List.range ops.size).countP (λi=>!L.getD i false)=0:=by omega
    have:=List.countP_eq_zero.1 h0 i (List.mem_range.2 q);simpa using this
   refine⟨?_,?_⟩
   ·unfold Region.ready;refine List.filter_eq_nil_iff.2 λi q=>?_;have h:=n i (List.mem_range.1 q);have B:i<L.size:=by have:=List.mem_range.1 q;omega
    simp[B]at h⊢;intro W;rw[h]at W;cases W
   ·have R:m=ops.size:=by
     rcases V with h|h
     ·exact h
     ·have H:=n m (by omega);rw[g.tail m (Nat.le_refl _)]at H;cases H
    exact(h1 _ a w g.size g.defers g.keep (λi d q s=>by obtain⟨o,r,s⟩:=Option.bind_eq_some_iff.1 s;exact g.val i o d q (n i (by omega)) r s) (λi o q r s=>g.valn i o q (n i (by omega)) r s) g.ext).1 R
  |succ p ih=>
   intro L a w Y g hc;refine⟨λhr=>?_,λi q=>?_⟩
   ·have n:=A L Y hr;have R:m=ops.size:=by
     rcases V with h|h
     ·exact h
     ·have H:=n m (by omega);rw[g.tail m (Nat.le_refl _)]at H;cases H
    exact(h1 _ a w g.size g.defers g.keep (λi d q s=>by obtain⟨o,r,s⟩:=Option.bind_eq_some_iff.1 s;exact g.val i o d q (n i (by omega)) r s) (λi o q r s=>g.valn i o q (n i (by omega)) r s) g.ext).1 R
   ·unfold Region.ready at q;obtain⟨J,C⟩:=List.mem_filter.1 q;have J:=List.mem_range.1 J;simp only[Bool.and_eq_true,Bool.not_eq_true']at C;have r:ops[i]? =some ops[i]:=Array.getElem?_eq_getElem J;rw[r]at C;simp only[Option.map_some,Option.getD_some]at C;have b:L.getD i false=false:=by
     have h:=C.1;have B:i<L.size:=by omega
     simp[B]at h⊢;exact h
    have u:∀j,(ops[i].after.any λe=>e.on==j&&Region.binds .any e)=true->L.getD j false=true:=λj f=>by obtain⟨e,I,f⟩:=Array.any_eq_true'.1 f;simp only[Bool.and_eq_true,beq_iff_eq]at f;have h:=Array.all_eq_true_iff_forall_mem.1 C.2 e I;rw[f.2]at h;rw[<-f.1];simpa using h
    have aa:(List.range ops.size).countP (λj=>!(L.setIfInBounds i true).getD j false)<=p:=by
     have Z:(List.range ops.size).countP (λj=>!(L.setIfInBounds i true).getD j false)<(List.range ops.size).countP (λj=>!L.getD j false):=by
      have t:=List.mem_range.2 J;generalize List.range ops.size=l at t
      have S:∀l:List Nat,l.countP (λj=>!(L.setIfInBounds i true).getD j false)<=l.countP (λj=>!L.getD j false):=λl=>List.countP_mono_left λx _ hx=>by
       rw[fL _ _ _ (by omega)]at hx;split at hx
       ·cases hx
       ·exact hx
      induction l with
      |nil=>cases t
      |cons x l ai=>
       rcases List.mem_cons.1 t with rfl|D
       ·rw[List.countP_cons_of_neg (by rw[fL _ _ _ (by omega)];simp),List.countP_cons_of_pos (by rw[b];rfl)];exact Nat.lt_succ_of_le (S l)
       ·have W:=ai D;rw[List.countP_cons,List.countP_cons]
        have H:(if(!(L.setIfInBounds i true).getD x false)=true then 1 else 0)<=(if(!L.getD x false)=true then 1 else 0):=by
         rw[fL _ _ _ (by omega)];split
         ·simp
         ·exact Nat.le_refl _
        omega
     omega
    rcases Nat.lt_or_ge i m with D|D
    ·have aj:=hs i ops[i] D r (L.getD sp false) a w (λe=>by
      rcases e with e|e
      ·rw[<-e];exact b
      ·cases ab:L.getD sp false with
       |false=>rfl
       |true=>
        rcases e with e|⟨j,e1,e2⟩
        ·rw[g.closed sp i ab e]at b;cases b
        ·rw[g.closed j i (g.closed sp j ab e1) e2]at b;cases b) g.size g.defers (λj f=>g.fresh j λk o hk r e=>by
      have:=g.closed k i hk (f k o r e);rw[b]at this;cases this) (λj d f s=>by
      obtain⟨o',F,s⟩:=Option.bind_eq_some_iff.1 s;have ap:j<i:=by obtain⟨e,I,f⟩:=Array.any_eq_true'.1 f;simp only[Bool.and_eq_true,beq_iff_eq]at f;rw[<-f.1];exact z i _ r e I f.2
      exact g.val j o' d (by omega) (u j f) F s) g.ext
     refine wpOp_mono (λa' w' h=>?_) aj;obtain⟨v,rfl,I,hv,ak⟩:=h;exact ih _ _ _ (by simp[Y]) (g.next U hV Y r D I hv ak b λj f=>u j (by unfold waits at f;rw[r]at f;exact f)) aa
    ·have G:m+1=ops.size:=by omega
     obtain rfl:i=m:=by omega
     have y:∀c j,j+c=i->0<c->L.getD j false=true:=by
      intro c;induction c using Nat.strongRecOn with
      |_ c al=>
       intro j f aq;obtain⟨k,ar,au,K⟩:=M G j (by omega);rcases Nat.lt_or_ge k i with am|am
       ·exact g.closed k j (al (i-k) (by omega) k (by omega) (by omega)) K
       ·obtain rfl:k=i:=by omega
        refine u j ?_;unfold waits at K;rw[r]at K;exact K
     have ac:=(h1 _ a w g.size g.defers g.keep (λj d f s=>by obtain⟨o',F,s⟩:=Option.bind_eq_some_iff.1 s;exact g.val j o' d f (y (i-j) j (by omega) (by omega)) F s) (λj o' f F s=>g.valn j o' f (y (i-j) j (by omega) (by omega)) F s) g.ext).2 G;refine wpOp_mono (λa' w' h=>?_) ac
     have n:∀j,j<ops.size->(L.setIfInBounds i true).getD j false=true:=λj f=>by
      rw[fL _ _ _ (by omega)];split
      ·rfl
      ·exact y (i-j) j (by omega) (by omega)
     have ad:Region.ready .any ops (L.setIfInBounds i true)=[]:=by
      unfold Region.ready;refine List.filter_eq_nil_iff.2 λj f=>?_;have h:=n j (List.mem_range.1 f);have ae:j<(L.setIfInBounds i true).size:=by have:=List.mem_range.1 f;simp;omega
      rw[Array.getD_eq_getD_getElem?,Array.getElem?_eq_getElem ae]at h;rw[Array.getD_eq_getD_getElem?,Array.getElem?_eq_getElem ae];simp only[Option.getD_some]at h⊢;rw[h];simp
     cases p with
     |zero=>exact⟨ad,h⟩
     |succ p=>exact⟨λ_=>h,λj f=>by rw[ad]at f;cases f⟩
 refine ah _ _ _ _ (by simp) ⟨hN,rfl,λ_ _=>rfl,λi o d _ T _ _=>?_,?_,λi _=>?_,λi j q _=>?_,λi o _ T _ _=>?_,λ_ _=>rfl⟩ ?_
 ·simp[Array.getD_eq_getD_getElem?,Array.getElem?_replicate]at T;split at T<;>simp at T
 ·have:(Array.replicate ops.size false).getD sp false=false:=by
   simp only[Array.getD_eq_getD_getElem?,Array.getElem?_replicate];split<;>rfl
  rw[this];exact h0
 ·simp only[Array.getD_eq_getD_getElem?,Array.getElem?_replicate];split<;>rfl
 ·simp[Array.getD_eq_getD_getElem?,Array.getElem?_replicate]at q;split at q<;>simp at q
 ·simp[Array.getD_eq_getD_getElem?,Array.getElem?_replicate]at T;split at T<;>simp at T
 ·exact Nat.le_trans List.countP_le_length (by simp)
end
end Go.Proofs.W
