/- Laws that the proof needs, part 13. Conditions: none. -/
import Derived.Test.YteeagjkaflglpaaGreatX11
set_option maxRecDepth 100000
set_option maxHeartbeats 8000000
set_option linter.all false
namespace Go.Proofs.W
open Go.RowKit
def Hu(ops:Array Oper)(o:Oper):List Nat:=o.after.toList.filterMap λe=>if Region.binds .any e then(ops[e.on]?).bind (·.dst)else none
def gR(ops:Array Oper)(o:Oper)(a:Act):ce:=.tuple ((Hu ops o).map λt=>a.eval (.tmp t)).toArray
def C1{ops:Array Oper}{o:Oper}{a b:Act}(h:∀t∈Hu ops o,a.eval (.tmp t)=b.eval (.tmp t)):gR ops o a=gR ops o b:=by unfold gR;rw[List.map_congr_left h]
def Ke{ops:Array Oper}{o:Oper}{a b:Act}(h:gR ops o a=gR ops o b){t:Nat}(c:t∈Hu ops o):a.eval (.tmp t)=b.eval (.tmp t):=by
 unfold gR at h;have d:((Hu ops o).map λt=>a.eval (.tmp t))=(Hu ops o).map λt=>b.eval (.tmp t):=by injection h with h;simpa using cM Array.toList h
 exact List.map_inj_left.1 d t c
def lN(ops:Array Oper)(N m:Nat):Bool:=
 (List.range ops.size).all (λi=>match ops[i]? with
  |some o=>(o.after.all λe=>decide (e.on<i)||!Region.binds .any e)&&(match o.dst with|some d=>decide (d<N)&&(List.range ops.size).all (λj=>decide (j=i)||match ops[j]? with|some a=>a.dst !=some d|none=>true)|none=>true)
  |none=>true)&&((decide (m=ops.size)||(List.range m).all λj=>(List.range (m+1)).any λk=>decide (j<k)&&waits ops k j)&&(decide (m=ops.size)||decide (m+1=ops.size)))
section
variable{P:cf}{ops:Array Oper}{Q:Exit->Act->cd->Prop}{a0:Act}{w0:cd}{N m sp:Nat}{sS:Bool->Nat->ce->cd->Prop}{E E':cd->cd->Prop}{Rch:Bool->cd->Prop}
structure C2(Rch:Bool->cd->Prop)(sp:Nat)(ops:Array Oper)(a0:Act)(N m:Nat)(sS:Bool->Nat->ce->cd->Prop)(L:Array Bool)(a:Act)(w:cd):Prop where
 size:a.tmps.size=N
 defers:a.defers=a0.defers
 keep:∀j,wrote ops j=false->a.eval (.tmp j)=a0.eval (.tmp j)
 val:∀i o d,i<m->L.getD i false=true->ops[i]? =some o->o.dst=some d->sS (L.getD sp false) i (a.eval (.tmp d)) w
 ext:Rch (L.getD sp false) w
 tail:∀i,m<=i->L.getD i false=false
 closed:∀i j,L.getD i false=true->waits ops i j=true->L.getD j false=true
 valn:∀i o,i<m->L.getD i false=true->ops[i]? =some o->o.dst=none->sS (L.getD sp false) i (gR ops o a) w
 fresh:∀j,(∀k o,L.getD k false=true->ops[k]? =some o->o.dst≠some j)->a.eval (.tmp j)=a0.eval (.tmp j)
def Before(ops:Array Oper)(i j:Nat):Prop:=∀k o,ops[k]? =some o->o.dst=some j->waits ops k i=true
def Kf{ops:Array Oper}{i j:Nat}(h:wrote ops j=false):Before ops i j:=λk o a b=>by have:wrote ops j=true:=sE.2 ⟨o,l7 a,by rw[b];simp⟩;rw[this]at h;cases h
def RB(ops:Array Oper)(k i:Nat):Prop:=waits ops k i=true\/∃j,waits ops k j=true/\waits ops j i=true
def mJ(E E':cd->cd->Prop)(Rch:Bool->cd->Prop)(sp:Nat)(P:cf)(ops:Array Oper)(Q:Exit->Act->cd->Prop)(a0:Act)(N:Nat)(sS:Bool->Nat->ce->cd->Prop)(i:Nat)(o:Oper):Prop:=
 ∀b a w,(i=sp\/RB ops sp i->b=false)->a.tmps.size=N->a.defers=a0.defers->(∀j,Before ops i j->a.eval (.tmp j)=a0.eval (.tmp j))->
  (∀j d,(o.after.any λe=>e.on==j&&Region.binds .any e)=true->((ops[j]?).bind (·.dst))=some d->sS b j (a.eval (.tmp d)) w)->Rch b w->
  wpOp P ops Q i (λf c=>∃v,f=a.put o.dst v/\(if i=sp then E' w c else E w c)/\sS (b||decide (i=sp)) i v c/\(o.dst=none->v=gR ops o a)) a w
def rq(Rch:Bool->cd->Prop)(P:cf)(ops:Array Oper)(Q:Exit->Act->cd->Prop)(a0:Act)(N m:Nat)(sS:Bool->Nat->ce->cd->Prop):Prop:=
 ∀b a w,a.tmps.size=N->a.defers=a0.defers->(∀j,wrote ops j=false->a.eval (.tmp j)=a0.eval (.tmp j))->(∀i d,i<m->((ops[i]?).bind (·.dst))=some d->sS b i (a.eval (.tmp d)) w)->(∀i o,i<m->ops[i]? =some o->o.dst=none->sS b i (gR ops o a) w)->Rch b w->
  (m=ops.size->Q .normal a w)/\(m+1=ops.size->wpOp P ops Q m (λc e=>Q .normal c e) a w)
structure RD(E E':cd->cd->Prop)(Rch:Bool->cd->Prop)(sS:Bool->Nat->ce->cd->Prop):Prop where
 v:∀b i v w w',sS b i v w->E w w'->sS b i v w'
 x:∀i v w w',sS false i v w->E' w w'->sS true i v w'
 r:∀b w w',Rch b w->E w w'->Rch b w'
 rx:∀w w',Rch false w->E' w w'->Rch true w'
def C2.next(T:lN ops N m=true)(K:RD E E' Rch sS){L:Array Bool}{a:Act}{w:cd}(f:C2 Rch sp ops a0 N m sS L a w)(Z:L.size=ops.size){i:Nat}{o:Oper}(y:ops[i]? =some o)(hm:i<m)
 {v:ce}{w':cd}(q:if i=sp then E' w w' else E w w')(U:sS (L.getD sp false||decide (i=sp)) i v w')(M:o.dst=none->v=gR ops o a)(z:L.getD i false=false)(A:∀j,waits ops i j=true->L.getD j false=true):C2 Rch sp ops a0 N m sS (L.setIfInBounds i true) (a.put o.dst v) w':=by
 have F:(L.setIfInBounds i true).getD sp false=(L.getD sp false||decide (i=sp)):=by rw[hH _ _ _ (by have:=(eP.1 y).1;omega)];by_cases e:i=sp;simp[e];simp[e]
 have last:∀k u,sS (L.getD sp false) k u w->sS (L.getD sp false||decide (i=sp)) k u w':=λk u h=>by by_cases e:i=sp;subst e;rw[cx rfl]at q;rw[z]at h⊢;simpa using K.x _ _ _ _ h q;rw[cr e]at q;simpa[e]using K.v _ _ _ _ _ h q
 have V:i<ops.size:=(eP.1 y).1;simp only[lN,ez]at T;have g:=jF.1 T.1 i (eJ.2 V);rw[y]at g;simp only[ez]at g;refine⟨by rw[lZ,f.size],by rw[tA,f.defers],λj p=>?_,λk B d l c b s=>?_,?_,λk l=>?_,λk j l p=>?_,λk B l c b s=>?_,λj p=>?_⟩;rw[pI,f.keep j p];intro e;have:wrote ops j=true:=sE.2 ⟨o,l7 y,by rw[e];simp⟩;rw[this]at p;cases p;rw[F];rw[hH _ _ _ (by omega)]at c;by_cases e:i=k;subst e;rw[y]at b;obtain rfl:=cE b;rw[s,uD];exact U;have n:=g.2;rw[s]at n;simp only[ez,jk]at n;rw[f.size];exact n.1;rw[cr e]at c;have O:k<ops.size:=(eP.1 b).1;rw[pI];exact last _ _ (f.val k B d l c b s);intro P;have n:=g.2;rw[P]at n;simp only[ez,jk]at n;have G:=jF.1 n.2 k (eJ.2 O);rw[b]at G;simp[s,fO e]at G;rw[F];have H:=f.ext;by_cases e:i=sp;subst e;rw[cx rfl]at q;rw[z]at H⊢;simpa using K.rx _ _ H q;rw[cr e]at q;simpa[e]using K.r _ _ _ H q;rw[hH _ _ _ (by omega),cr (by omega)];exact f.tail k l;rw[hH _ _ _ (by omega)]at l⊢;split;rfl;by_cases e:i=k;subst e;exact A j p;rw[cr e]at l;exact f.closed k j l p;rw[F];rw[hH _ _ _ (by omega)]at c;by_cases e:i=k;subst e;rw[y]at b;obtain rfl:=cE b;have W:gR ops o (a.put o.dst v)=gR ops o a:=by rw[s];rfl
 rw[W,<-M s];exact U;rw[cr e]at c;have C:gR ops B (a.put o.dst v)=gR ops B a:=by
  refine C1 λt X=>?_;obtain⟨x,H,D⟩:=List.mem_filterMap.1 X;split at D;rename_i F;refine pI _ _ _ _ λP=>?_;have Y:waits ops k x.on=true:=by unfold waits;rw[b];exact sE.2 ⟨x,by simpa using H,by simp[F]⟩
  have I:=f.closed k x.on c Y;have Q:i≠x.on:=λh=>by rw[<-h,z]at I;cases I
  obtain⟨o2,J,R⟩:=ti.1 D;have S:x.on<ops.size:=(eP.1 J).1;have n:=g.2;rw[P]at n;simp only[ez,jk]at n;have G:=jF.1 n.2 x.on (eJ.2 S);rw[J]at G;simp[R,fO Q]at G;cases D
 rw[C];exact last _ _ (f.valn k B l c b s);rw[pI _ _ _ _ λe=>p i o (by rw[hH _ _ _ (by omega),cx rfl]) y e];refine f.fresh j λk B l b=>p k B ?_ b;rw[hH _ _ _ (by omega)];split;rfl;exact l
def xL{id:Nat}(hm:P.follows .mixedOrders=true)(U:lN ops N m=true)(hV:RD E E' Rch sS)(h0:Rch false w0.drew)(hN:a0.tmps.size=N) (hs:∀i o,i<m->ops[i]? =some o->mJ E E' Rch sp P ops Q a0 N sS i o)(h1:rq Rch P ops Q a0 N m sS):(Code.region id ops true).wp P Q a0 w0:=by
 refine wp_region_any hm ?_;have V:m=ops.size\/m+1=ops.size:=by simp only[lN,ez,L4,jk]at U;exact U.2.2
 have an:m<=ops.size:=by omega
 have M:m+1=ops.size->∀j,j<m->∃k,j<k/\k<=m/\waits ops k j=true:=λao j f=>by have h:=U;simp only[lN,ez]at h;rcases L4 _ _▸h.2.1 with h|h;have:=cY h;omega;have W:=jF.1 h j (eJ.2 f);obtain⟨k,hk,H⟩:=List.any_eq_true.1 W;simp only[ez,jk]at H;have:=eJ.1 hk;exact⟨k,H.1,by omega,H.2⟩
 have z:∀(i:Nat) (o:Oper),ops[i]? =some o->∀e∈o.after,Region.binds .any e=true->e.on<i:=λi o r e I hb=>by have q:i<ops.size:=(eP.1 r).1;have X:=U;simp only[lN,ez]at X;have O:=jF.1 X.1 i (eJ.2 q);rw[r]at O;simp only[ez]at O;have:=DU.1 O.1 e I;simpa[hb]using this
 have A:∀L:Array Bool,L.size=ops.size->Region.ready .any ops L=[]->∀i,i<ops.size->L.getD i false=true:=by
  intro L Y hr i;induction i using Nat.strongRecOn with
  |_ i ih=>
   intro q;refine L5 λaf=>?_;have r:ops[i]? =some ops[i]:=ji q;have t:i∈Region.ready .any ops L:=by
    unfold Region.ready;refine ug.2 ⟨eJ.2 q,?_⟩;simp only[ez,yu];refine⟨?_,?_⟩;have:L.getD i false=false:=by simpa using af
    have B:i<L.size:=by omega
    simp[B]at this⊢;exact this;rw[r];simp only[iX,kC];refine DU.2 λe I=>?_;cases ag:Region.binds .any e with
    |false=>simp
    |true=>
     have Z:=z i _ r e I ag;rw[ih e.on Z (by omega)];simp
   rw[hr]at t;cases t
 have ah:∀(p:Nat) (L:Array Bool) (a:Act) (w:cd),L.size=ops.size->C2 Rch sp ops a0 N m sS L a w->((List.range ops.size).countP λi=>!L.getD i false)<=p->wpAny P .any ops Q p L a w:=by
  intro p;induction p with
  |zero=>
   intro L a w Y g hc
   have n:∀i,i<ops.size->L.getD i false=true:=λi q=>by
    have h0:(List.range ops.size).countP (λi=>!L.getD i false)=0:=by omega
    have:=List.countP_eq_zero.1 h0 i (eJ.2 q);simpa using this
   refine⟨?_,?_⟩;unfold Region.ready;refine Rb.2 λi q=>?_;have h:=n i (eJ.1 q);have B:i<L.size:=by have:=eJ.1 q;omega
   simp[B]at h⊢;intro W;rw[h]at W;cases W;have R:m=ops.size:=by rcases V with h|h;exact h;have H:=n m (by omega);rw[g.tail m (cz _)]at H;cases H
   exact(h1 _ a w g.size g.defers g.keep (λi d q s=>by obtain⟨o,r,s⟩:=ti.1 s;exact g.val i o d q (n i (by omega)) r s) (λi o q r s=>g.valn i o q (n i (by omega)) r s) g.ext).1 R
  |succ p ih=>
   intro L a w Y g hc;refine⟨λhr=>?_,λi q=>?_⟩;have n:=A L Y hr;have R:m=ops.size:=by rcases V with h|h;exact h;have H:=n m (by omega);rw[g.tail m (cz _)]at H;cases H
   exact(h1 _ a w g.size g.defers g.keep (λi d q s=>by obtain⟨o,r,s⟩:=ti.1 s;exact g.val i o d q (n i (by omega)) r s) (λi o q r s=>g.valn i o q (n i (by omega)) r s) g.ext).1 R
   unfold Region.ready at q;obtain⟨J,C⟩:=ug.1 q;have J:=eJ.1 J;simp only[ez,yu]at C;have r:ops[i]? =some ops[i]:=ji J;rw[r]at C;simp only[iX,kC]at C;have b:L.getD i false=false:=by
    have h:=C.1;have B:i<L.size:=by omega
    simp[B]at h⊢;exact h
   have u:∀j,(ops[i].after.any λe=>e.on==j&&Region.binds .any e)=true->L.getD j false=true:=λj f=>by obtain⟨e,I,f⟩:=sE.1 f;simp only[ez,qM]at f;have h:=DU.1 C.2 e I;rw[f.2]at h;rw[<-f.1];simpa using h
   have aa:(List.range ops.size).countP (λj=>!(L.setIfInBounds i true).getD j false)<=p:=by
    have Z:(List.range ops.size).countP (λj=>!(L.setIfInBounds i true).getD j false)<(List.range ops.size).countP (λj=>!L.getD j false):=by
     have t:=eJ.2 J;generalize List.range ops.size=l at t;have S:∀l:List Nat,l.countP (λj=>!(L.setIfInBounds i true).getD j false)<=l.countP (λj=>!L.getD j false):=λl=>List.countP_mono_left λx _ hx=>by rw[hH _ _ _ (by omega)]at hx;split at hx;cases hx;exact hx
     induction l with
     |nil=>cases t
     |cons x l ai=>
      rcases eQ.1 t with rfl|D;rw[List.countP_cons_of_neg (by rw[hH _ _ _ (by omega)];simp),List.countP_cons_of_pos (by rw[b];rfl)];exact Nat.lt_succ_of_le (S l);have W:=ai D;rw[List.countP_cons,List.countP_cons];have H:(if(!(L.setIfInBounds i true).getD x false)=true then 1 else 0)<=(if(!L.getD x false)=true then 1 else 0):=by rw[hH _ _ _ (by omega)];split;simp;exact cz _
      omega
    omega
   rcases eA i m with D|D
   have aj:=hs i ops[i] D r (L.getD sp false) a w (λe=>by
    rcases e with e|e;rw[<-e];exact b;cases ab:L.getD sp false with
    |false=>rfl
    |true=>
     rcases e with e|⟨j,e1,e2⟩;rw[g.closed sp i ab e]at b;cases b;rw[g.closed j i (g.closed sp j ab e1) e2]at b;cases b) g.size g.defers (λj f=>g.fresh j λk o hk r e=>by
    have:=g.closed k i hk (f k o r e);rw[b]at this;cases this) (λj d f s=>by
    obtain⟨o',F,s⟩:=ti.1 s;have ap:j<i:=by obtain⟨e,I,f⟩:=sE.1 f;simp only[ez,qM]at f;rw[<-f.1];exact z i _ r e I f.2
    exact g.val j o' d (by omega) (u j f) F s) g.ext
   refine wpOp_mono (λa' w' h=>?_) aj;obtain⟨v,rfl,I,hv,ak⟩:=h;exact ih _ _ _ (by simp[Y]) (g.next U hV Y r D I hv ak b λj f=>u j (by unfold waits at f;rw[r]at f;exact f)) aa;have G:m+1=ops.size:=by omega
   obtain rfl:i=m:=by omega
   have y:∀c j,j+c=i->0<c->L.getD j false=true:=by
    intro c;induction c using Nat.strongRecOn with
    |_ c al=>
     intro j f aq;obtain⟨k,ar,au,K⟩:=M G j (by omega);rcases eA k i with am|am;exact g.closed k j (al (i-k) (by omega) k (by omega) (by omega)) K;obtain rfl:k=i:=by omega
     refine u j ?_;unfold waits at K;rw[r]at K;exact K
   have ac:=(h1 _ a w g.size g.defers g.keep (λj d f s=>by obtain⟨o',F,s⟩:=ti.1 s;exact g.val j o' d f (y (i-j) j (by omega) (by omega)) F s) (λj o' f F s=>g.valn j o' f (y (i-j) j (by omega) (by omega)) F s) g.ext).2 G;refine wpOp_mono (λa' w' h=>?_) ac;have n:∀j,j<ops.size->(L.setIfInBounds i true).getD j false=true:=λj f=>by rw[hH _ _ _ (by omega)];split;rfl;exact y (i-j) j (by omega) (by omega)
   have ad:Region.ready .any ops (L.setIfInBounds i true)=[]:=by
    unfold Region.ready;refine Rb.2 λj f=>?_;have h:=n j (eJ.1 f);have ae:j<(L.setIfInBounds i true).size:=by have:=eJ.1 f;simp;omega
    rw[yq,ji ae]at h;rw[yq,ji ae];simp only[kC]at h⊢;rw[h];simp
   cases p with
   |zero=>exact⟨ad,h⟩
   |succ p=>exact⟨λ_=>h,λj f=>by rw[ad]at f;cases f⟩
 refine ah _ _ _ _ (by simp) ⟨hN,rfl,λ_ _=>rfl,λi o d _ T _ _=>?_,?_,λi _=>?_,λi j q _=>?_,λi o _ T _ _=>?_,λ_ _=>rfl⟩ ?_;simp[yq,ue]at T;split at T<;>simp at T;have:(Array.replicate ops.size false).getD sp false=false:=by simp only[yq,ue];split<;>rfl
 rw[this];exact h0;simp only[yq,ue];split<;>rfl;simp[yq,ue]at q;split at q<;>simp at q;simp[yq,ue]at T;split at T<;>simp at T;exact cJ List.countP_le_length (by simp)
end
end Go.Proofs.W
