/- Laws that the proof needs, part 6. Conditions: none. -/
import Derived.Test.YteeagjkaflglpaaGreatX05
set_option maxRecDepth 100000
set_option maxHeartbeats 8000000
set_option linter.all false
namespace Go.ck.Cr
open Go.Conc Go.ck Go.ck.Kn
open Go.ConcR (KK wgBlock WgAt stA smA mk)
open Go.ConcN (sumTo upd sumTo_upd upd_ne upd_same sumTo_congr le_sumTo sumTo_le)
section
variable{n m0:Nat}{ro:Nat->cN}{cl:Bool}{G:Gh}{size:Nat}{st sm:Int}{r':cN}
theorem oy:∀n,sumTo n (λ_=>0)=0
 |0=>rfl
 |n+1=>by simp[sumTo,oy n]
theorem uK:∀n,sumTo n (λ_=>1)=n
 |0=>rfl
 |n+1=>by simp[sumTo,uK n]
theorem BI{s:Nat}(h:5<=s):cnt s=1:=if_pos h
theorem vV{s:Nat}(h:¬5<=s):cnt s=0:=if_neg h
theorem Pl.KZ{G':Gh}(h:Pl n m0 ro cl G size st sm)(g:ro 0=.nW)(x:∀k,G'.user k↔G.user k\/k=size)(o:G'.sayer=m0+n)(A:G'.done=G.done):
 size=m0+n/\Pl n m0 (upd (upd ro (m0+n) (.cl .kd)) 0 (.rc n (λ_=>false) 2)) cl G' (m0+n+1) st sm/\
  meas n m0 (upd (upd ro (m0+n) (.cl .kd)) 0 (.rc n (λ_=>false) 2))<meas n m0 ro:=by
 have p:=h.pos;cases h.lay with
 |st B C c D F b q r H=>rw[g]at c;cases c
 |rc B S C c b q r I D=>rw[g]at c;cases c
 |nW c b q r=>
 subst q;have j:∀i,i<n->upd (upd ro (m0+n) (cN.cl .kd)) 0 (.rc n (λ_=>false) 2) (m0+i)=ro (m0+i):=by intro i d;rw[upd_ne _ _ (by omega),upd_ne _ _ (by omega)]
 have f:upd (upd ro (m0+n) (cN.cl .kd)) 0 (.rc n (λ_=>false) 2) (m0+n)=.cl .kd:=by rw[upd_ne _ _ (by omega),upd_same]
 have u:V n m0 (upd (upd ro (m0+n) (cN.cl .kd)) 0 (.rc n (λ_=>false) 2))=V n m0 ro:=by rw[kY (.inl p),kY (.inr (Nat.le_refl _))]
 have E:Sg n m0 (upd (upd ro (m0+n) (cN.cl .kd)) 0 (.rc n (λ_=>false) 2))=Sg n m0 ro:=by rw[mN (.inl p),mN (.inr (Nat.le_refl _))]
 have l:cl=false:=by
  cases t:cl with
  |false=>rfl
  |true=>have:=h.clq.1 t;rw[b]at this;cases this
 refine⟨rfl,⟨p,.rc n (λ_=>false) 2 (upd_same _ _ _) ⟨_,f⟩ rfl (λi d=>?_) (by have:=oy n;simpa using this) (.inl rfl),λk a m=>by rw[upd_ne _ _ (by omega),upd_ne _ _ (by omega)];exact h.old k a m,by rw[f,l];simp,?_,λk=>by rw[x,h.usr];omega,by rw[f];exact o,λk=>?_⟩,?_⟩
 ·obtain⟨s,a,m⟩:=r i d;exact⟨s,by rw[j i d];exact a,by omega,by omega,by simp;omega⟩
 ·cases J:h.mode with
  |opn a m K=>
   have:=Mode.opn (n:=n) (m0:=m0) (ro:=upd (upd ro (m0+n) (cN.cl .kd)) 0 (.rc n (λ_=>false) 2)) (by rw[f];trivial) (λi d=>by rw[j i d];exact m i d) (λM v=>by rw[f]at v;cases v);rw[u,upd_same]at this;rw[g];exact this
  |reg a _ _=>rw[b]at a;exact a.elim
  |last L a _ _ _=>rw[b]at a;exact a.elim
  |sema a _=>rw[b]at a;rcases a with a|a<;>cases a
  |fin a _=>rw[b]at a;exact a.elim
 ·rw[A,h.done];refine or_congr Iff.rfl ?_;by_cases e:k=0
  ·subst e;rw[upd_same,g];exact⟨λ⟨i,s,y,_⟩=>(nomatch y),λ⟨i,s,y,_⟩=>(nomatch y)⟩
  ·rw[upd_ne _ _ e];by_cases w:k=m0+n
   ·subst w;rw[upd_same,b];exact⟨λ⟨i,s,y,_⟩=>(nomatch y),λ⟨i,s,y,z⟩=>(nomatch y)⟩
   ·rw[upd_ne _ _ w]
 ·unfold meas;rw[u,E,f,upd_same,b,g];simp only[ow,kH];omega
theorem Mode.counted(m:0<m0)(o:Mode n m0 ro st sm){i:Nat}(d:i<n)(p:5<=fV (ro (m0+i)))(k:5<=fV r'):Mode n m0 (upd ro (m0+i) r') st sm:=by
 have f:V n m0 (upd ro (m0+i) r')=V n m0 ro:=by have:=EX (ro:=ro) (m0:=m0) i d r';simp only[cnt,if_pos p,if_pos k]at this;omega
 have q:upd ro (m0+i) r' 0=ro 0:=upd_ne ro r' (by omega);have j:upd ro (m0+i) r' (m0+n)=ro (m0+n):=upd_ne ro r' (by omega)
 have l:OpenSt n m0 ro->OpenSt n m0 (upd ro (m0+i) r'):=λh a r=>by
  by_cases e:a=i
  ·subst e;rw[upd_same];exact .inr (.inl k)
  ·rw[upd_ne ro r' (by omega)];exact h a r
 cases o with
 |opn c b g=>
  have:=Mode.opn (n:=n) (m0:=m0) (ro:=upd ro (m0+i) r') (by rw[j];exact c) (l b) (λs e=>by rw[f];rw[j]at e;exact g s e);rwa[f,q]at this
 |reg c b g=>
  have:=Mode.reg (n:=n) (m0:=m0) (ro:=upd ro (m0+i) r') (by rw[j];exact c) (l b) (by rw[f];exact g);rwa[f]at this
 |last L c b g t=>
  by_cases e:i=L
  ·subst e;omega
  ·have:=t i d e;omega
 |sema c b=>have:=b i d;omega
 |fin c b=>have:=b i d;omega
theorem Mh.wk(h:Mh n m0 ro cl size)(E:0<m0){i s s':Nat}(F:i<n)(e:ro (m0+i)=.wk i s)(v:(s=9/\s'=8/\(∀r S,ro 0≠ .rc r S 1))\/(s<=7/\1<=s'/\s'<=7)):Mh n m0 (upd ro (m0+i) (.wk i s')) cl size:=by
 have l:upd ro (m0+i) (cN.wk i s') 0=ro 0:=upd_ne ro _ (by omega);have m:upd ro (m0+i) (cN.wk i s') (m0+n)=ro (m0+n):=upd_ne ro _ (by omega);have c:∀a,upd ro (m0+i) (cN.wk i s') (m0+a)=if a=i then .wk i s' else ro (m0+a):=λa=>by rw[nI];rfl
 cases h with
 |st o p g q w j k d A=>
  refine .st o p (l.trans g) q w (m.trans j) k (λa b=>?_) λa b B=>?_
  ·rw[c];split
   ·next x=>
    subst x;obtain⟨t,f,u⟩:=d a b;rw[e]at f;cases f;exact⟨s',rfl,by omega⟩
   ·exact d a b
  ·have:=A a b B;rw[c,if_neg (λx=>by subst x;rw[e]at this;cases this)];exact this
 |nW g j k d=>
  refine .nW (l.trans g) (m.trans j) k λa b=>?_;rw[c];split
  ·next x=>
   subst x;obtain⟨t,f,u⟩:=d a b;rw[e]at f;cases f;exact⟨s',rfl,by omega⟩
  ·exact d a b
 |rc o S p g j k d C q=>
  refine .rc o S p (l.trans g) (by rw[m];exact j) k (λa b=>?_) C (q.imp id λ⟨x,y,z⟩=>⟨x,y,λa b=>?_⟩)
  ·rw[c];split
   ·next x=>
    subst x;obtain⟨t,f,u,G,D⟩:=d a b;rw[e]at f;cases f;exact⟨s',rfl,by omega,by omega,D.trans (by omega)⟩
   ·exact d a b
  ·rw[c];split
   ·subst x;simp only[fV];rcases v with⟨_,_,x⟩|x
    ·exact absurd g (x _ _)
    ·omega
   ·exact z a b
theorem Pl.wk(h:Pl n m0 ro cl G size st sm){i s s':Nat}(g:i<n)(e:ro (m0+i)=.wk i s)(j:(s=9/\s'=8/\(∀r S,ro 0≠ .rc r S 1))\/(s<=7/\1<=s'/\s'<=7)){st' sm':Int}(l:Mode n m0 (upd ro (m0+i) (.wk i s')) st' sm'):Pl n m0 (upd ro (m0+i) (.wk i s')) cl G size st' sm':=by
 have c:=h.pos;have d:upd ro (m0+i) (cN.wk i s') (m0+n)=ro (m0+n):=upd_ne ro _ (by omega);refine⟨c,h.lay.wk c g e j,λk m o=>by rw[upd_ne ro _ (by omega)];exact h.old k m o,by rw[d];exact h.clq,l,h.usr,by rw[d];exact h.say,λk=>?_⟩;rw[h.done];refine or_congr Iff.rfl ?_;by_cases f:k=m0+i
 ·subst f;rw[upd_same,e];constructor
  ·rintro⟨a,b,x,y⟩;cases x;exact⟨i,s',rfl,by omega⟩
  ·rintro⟨a,b,x,y⟩;cases x;exact⟨i,s,rfl,by omega⟩
 ·rw[upd_ne ro _ f]
theorem Pl.MK(h:Pl n m0 ro cl G size st sm){i:Nat}(a:i<n)(e:ro (m0+i)=.wk i 9)(b:∀r S,ro 0≠ .rc r S 1):Pl n m0 (upd ro (m0+i) (.wk i 8)) cl G size st sm:=
 h.wk a e (.inl ⟨rfl,rfl,b⟩) (h.mode.counted h.pos a (by rw[e];simp[fV]) (by simp[fV]))
theorem Pl.ML(h:Pl n m0 ro cl G size st sm){i s s':Nat}(b:i<n)(e:ro (m0+i)=.wk i s)(c:5<=s/\s<=7)(a:5<=s'/\s'<=7):Pl n m0 (upd ro (m0+i) (.wk i s')) cl G size st sm:=
 h.wk b e (.inr ⟨c.2,by omega,a.2⟩) (h.mode.counted h.pos b (by rw[e];exact c.1) (by exact a.1))
theorem Pl.heard(h:Pl n m0 ro cl G size st sm){i s:Nat}(c:i<n)(e:ro (m0+i)=.wk i s)(o:s<=7):∃r S p,ro 0=.rc r S p/\S i=true/\size=m0+n+1:=by
 cases h.lay with
 |st d j f q v k g b t=>
  rcases Nat.lt_or_ge i (n-(d+1))with x|x
  ·obtain⟨l,a,m⟩:=b i x;rw[e]at a;cases a;omega
  ·have:=t i x c;rw[e]at this;cases this
 |nW f k g b=>
  obtain⟨l,a,m⟩:=b i c;rw[e]at a;cases a;omega
 |rc d S j f k g b w q=>
  obtain⟨l,a,m,y,u⟩:=b i c;rw[e]at a;cases a;exact⟨d,S,j,f,u.2 o,g⟩
theorem Pl.hand{G':Gh}(h:Pl n m0 ro cl G size st sm){i s r K:Nat}{S:Nat->Bool}(t:i<n)(e:ro (m0+i)=.wk i s)(o:ro 0=.rc r S K)(U:s=9\/s=8) (L:G'.user=G.user)(w:G'.sayer=G.sayer)(M:∀k,G'.done k↔G.done k\/k=m0+i):S i=false/\∃r',r=r'+1/\Pl n m0 (upd (upd ro (m0+i) (.wk i 7)) 0 (.rc r' (upd S i true) 2)) cl G' size st sm/\meas n m0 (upd (upd ro (m0+i) (.wk i 7)) 0 (.rc r' (upd S i true) 2))<meas n m0 ro:=by
 have p:=h.pos;cases h.lay with
 |st N O d D V z A u W=>rw[o]at d;cases d
 |nW d z A u=>rw[o]at d;cases d
 |rc N X O d z A u Y D=>
 rw[o]at d;cases d;have q:S i=false:=by
  obtain⟨Z,E,x2,x3,P⟩:=u i t;rw[e]at E;cases E;cases Q:S i with
  |false=>rfl
  |true=>have:=P.1 Q;omega
 have g:=sumTo_upd S true (λb=>if b then 1 else 0) t;rw[q]at g;simp only[Bool.false_eq_true,if_false,if_true,Nat.add_zero]at g
 have R:sumTo n (λa=>if upd S i true a then 1 else 0)<=n:=by
  have:=sumTo_le (f:=λa=>if upd S i true a then 1 else 0) (c:=1) (j:=n) λa _=>by split<;>omega
  simpa using this
 obtain⟨l,rfl⟩:∃l,r=l+1:=⟨r-1,by omega⟩;refine⟨q,l,rfl,?_,?_⟩
 ·have v:∀k,k≠0->k≠m0+i->upd (upd ro (m0+i) (cN.wk i 7)) 0 (.rc l (upd S i true) 2) k=ro k:=λk m B=>by rw[upd_ne _ _ m,upd_ne _ _ B]
  have F:upd (upd ro (m0+i) (cN.wk i 7)) 0 (.rc l (upd S i true) 2) (m0+i)=.wk i 7:=by rw[upd_ne _ _ (by omega),upd_same]
  have C:=v (m0+n) (by omega) (by omega);refine⟨p,.rc l (upd S i true) 2 (upd_same _ _ _) (by rw[C];exact z) A (λa T=>?_) (by omega) (.inl rfl),λk m B=>by rw[v k (by omega) (by omega)];exact h.old k m B,by rw[C];exact h.clq,?_,by rw[L];exact h.usr,by rw[C,w];exact h.say,λk=>?_⟩
  ·by_cases H:a=i
   ·subst H;exact⟨7,F,by omega,by omega,by simp[upd_same]⟩
   ·rw[v _ (by omega) (by omega),upd_ne S _ H];exact u a T
  ·have I:=h.mode.counted p t (r':=.wk i 7) (by rw[e];simp only[fV];omega) (by simp[fV]);exact I.zero p (by rw[upd_ne _ _ (by omega),o];rfl)
  ·rw[M,h.done,or_assoc];refine or_congr Iff.rfl ?_;by_cases J:k=0
   ·subst J;rw[upd_same,o];exact⟨λx=>x.elim (λ⟨_,_,y,_⟩=>(nomatch y)) (λx=>by omega),λ⟨_,_,y,_⟩=>(nomatch y)⟩
   ·by_cases m:k=m0+i
    ·subst m;rw[F];exact⟨λ_=>⟨i,7,rfl,by omega⟩,λ_=>.inr rfl⟩
    ·rw[v k J m];exact⟨λx=>x.elim id λx=>absurd x m,.inl⟩
 ·have I:=jc (n:=n) (ro:=ro) p t (r':=.wk i 7) (by rw[e];simp only[fV];omega);have m2:=jB (n:=n) (ro:=upd ro (m0+i) (.wk i 7)) p (r':=.rc l (upd S i true) 2) (by
   rw[upd_ne _ _ (by omega),o];simp only[ow];rcases D with rfl|⟨rfl,_⟩<;>omega)
  omega
theorem Pl.MM(h:Pl n m0 ro cl G size st sm){r:Nat}{S:Nat->Bool}(c:ro 0=.rc r S 2)(j:cl=false)(k:∀i,i<n->fV (ro (m0+i))≠8):Pl n m0 (upd ro 0 (.rc r S 1)) cl G size st sm:=by
 have l:=h.pos;refine h.zero ?_ (by simp) (by simp[c]) (h.mode.zero l (by rw[c];rfl));cases h.lay with
 |st m o b p s d e f t=>rw[c]at b;cases b
 |nW b d e f=>rw[c]at b;cases b
 |rc m u o b d e f q p=>
  rw[c]at b;cases b;exact .rc r S 1 (upd_same _ _ _) (by rw[upd_ne ro _ (by omega)];exact d) e (λa g=>by rw[upd_ne ro _ (by omega)];exact f a g) q (.inr ⟨rfl,j,λa g=>by rw[upd_ne ro _ (by omega)];exact k a g⟩)
theorem Pl.P9(h:Pl n m0 ro cl G size st sm){r s:Nat}{S:Nat->Bool}(c:ro 0=.rc r S s):Pl n m0 (upd ro 0 (.rc r S 2)) cl G size st sm:=by
 have g:=h.pos;refine h.zero ?_ (by simp) (by simp[c]) (h.mode.zero g (by rw[c];rfl));cases h.lay with
 |st i j b k o d e f p=>rw[c]at b;cases b
 |nW b d e f=>rw[c]at b;cases b
 |rc i q j b d e f l k=>
  rw[c]at b;cases b;exact .rc r S 2 (upd_same _ _ _) (by rw[upd_ne ro _ (by omega)];exact d) e (λa m=>by rw[upd_ne ro _ (by omega)];exact f a m) l (.inl rfl)
theorem others_uncounted{i:Nat}(b:i<n)(h:V n m0 ro=1)(c:5<=fV (ro (m0+i))):∀a,a<n->a≠i->¬5<=fV (ro (m0+a)):=by intro a d e f;have g:=EX (ro:=ro) (m0:=m0) i b .none;have j:=EZ (ro:=upd ro (m0+i) .none) (m0:=m0) d (by rw[upd_ne ro _ (by omega)];exact f);rw[BI c,vV (show¬5<=fV cN.none by simp[fV])]at g;omega
theorem Pl.d1(h:Pl n m0 ro cl G size st sm){i:Nat}(b:i<n)(e:ro (m0+i)=.wk i 5):∃v j:Nat,j<=1/\v<n/\st=((v:Int)+1)*KK+(j:Int)/\sm=0/\((v=0/\j=1)->Pl n m0 (upd ro (m0+i) (.wk i 4)) cl G size ((v:Int)*KK+(j:Int)) 0)/\(¬(v=0/\j=1)->Pl n m0 (upd ro (m0+i) (.wk i 1)) cl G size ((v:Int)*KK+(j:Int)) 0):=by
 have O:=h.pos;obtain⟨r,S,P,s,B,Q⟩:=h.heard b e (by omega);have t:5<=fV (ro (m0+i)):=by rw[e];simp[fV]
 have R:=EZ b t;have C:=EY n m0 ro;have l:pend (ro 0)=0:=by rw[s];rfl
 have D:∀x,upd ro (m0+i) x 0=ro 0:=λx=>upd_ne ro x (by omega);have q:∀x,upd ro (m0+i) x (m0+n)=ro (m0+n):=λx=>upd_ne ro x (by omega)
 have w:OpenSt n m0 ro->OpenSt n m0 (upd ro (m0+i) (.wk i 1)):=λh a f=>by
  by_cases m:a=i
  ·subst m;rw[upd_same];exact .inr (.inr rfl)
  ·rw[upd_ne ro _ (by omega)];exact h a f
 have E:V n m0 (upd ro (m0+i) (.wk i 1))+1=V n m0 ro:=by have:=EX (ro:=ro) (m0:=m0) i b (.wk i 1);rw[BI t,vV (show¬5<=fV (cN.wk i 1) by simp[fV])]at this;omega
 cases T:h.mode with
 |opn g c o=>
  refine⟨V n m0 ro-1,0,by omega,by omega,?_,rfl,λx=>by omega,λ_=>h.wk b e (.inr ⟨by omega,by omega,by omega⟩) ?_⟩
  ·rw[l];have:((V n m0 ro-1:Nat):Int)+1=((V n m0 ro:Nat):Int):=by omega
   rw[this];simp
  ·have:=Mode.opn (n:=n) (m0:=m0) (ro:=upd ro (m0+i) (.wk i 1)) (by rw[q];exact g) (w c) (λF x=>by rw[q]at x;have:=o F x;omega);rw[D,l,show V n m0 (upd ro (m0+i) (.wk i 1))=V n m0 ro-1 by omega]at this;simpa using this
 |reg g c o=>
  refine⟨V n m0 ro-1,1,by omega,by omega,?_,rfl,λx=>?_,λx=>?_⟩
  ·have:((V n m0 ro-1:Nat):Int)+1=((V n m0 ro:Nat):Int):=by omega
   rw[this];simp
  ·have d:V n m0 ro=1:=by omega
   refine h.wk b e (.inr ⟨by omega,by omega,by omega⟩) ?_
   have p:∀a,a<n->a≠i->fV (ro (m0+a))=1:=λa f m=>by
    have H:=others_uncounted b d t a f m;rcases c a f with y|y|y
    ·exfalso;cases h.lay with
     |st I J k K U z A u W=>rw[s]at k;cases k
     |nW k z A u=>rw[s]at k;cases k
     |rc I X J k z A u Y K=>
      obtain⟨Z,M,x2,_⟩:=u a f;rw[M]at y;simp only[fV]at y;omega
    ·exact absurd y H
    ·exact y
   have:=Mode.last (n:=n) (m0:=m0) (ro:=upd ro (m0+i) (.wk i 4)) i (by rw[q];exact g) b (by rw[upd_same];simp[fV]) (λa f m=>by rw[upd_ne ro _ (by omega)];exact p a f m);rw[upd_same]at this;simp only[d,Nat.sub_self];simpa[fV]using this
  ·refine h.wk b e (.inr ⟨by omega,by omega,by omega⟩) ?_;have:=Mode.reg (n:=n) (m0:=m0) (ro:=upd ro (m0+i) (.wk i 1)) (by rw[q];exact g) (w c) (by omega);rw[show V n m0 (upd ro (m0+i) (.wk i 1))=V n m0 ro-1 by omega]at this;simpa using this
 |last L g c o N=>
  by_cases x:i=L
  ·subst x;rw[e]at o;simp[fV]at o
  ·have:=N i b x;omega
 |sema g c=>have:=c i b;omega
 |fin g c=>have:=c i b;omega
theorem Pl.isLast(h:Pl n m0 ro cl G size st sm){i s:Nat}(c:i<n)(e:ro (m0+i)=.wk i s)(j:s=4\/s=3\/s=2):
 isW3 (ro (m0+n))/\(∀a,a<n->a≠i->fV (ro (m0+a))=1)/\st=(if s=2 then 0 else 1)/\sm=0:=by
 have f:fV (ro (m0+i))=s:=by rw[e];rfl
 cases k:h.mode with
 |opn _ b _=>have:=b i c;omega
 |reg _ b _=>have:=b i c;omega
 |last L g b l d=>
  by_cases x:i=L
  ·subst x;rw[f];exact⟨g,d,rfl,rfl⟩
  ·have:=d i c x;omega
 |sema _ b=>have:=b i c;omega
 |fin _ b=>have:=b i c;omega
theorem Pl.last(h:Pl n m0 ro cl G size st sm){i s s':Nat}(b:i<n)(e:ro (m0+i)=.wk i s)(j:(s=4/\s'=3)\/(s=3/\s'=2)):
 Pl n m0 (upd ro (m0+i) (.wk i s')) cl G size (if s'=2 then 0 else 1) 0:=by
 have k:=h.pos;obtain⟨c,d,_,_⟩:=h.isLast b e (by omega);refine h.wk b e (.inr ⟨by omega,by omega,by omega⟩) ?_;have:=Mode.last (n:=n) (m0:=m0) (ro:=upd ro (m0+i) (.wk i s')) i (by rw[upd_ne ro _ (by omega)];exact c) b (by rw[upd_same];simp only[fV];omega) (λa f g=>by rw[upd_ne ro _ (by omega)];exact d a f g);rw[upd_same]at this;exact this
theorem Pl.raise(h:Pl n m0 ro cl G size st sm){i:Nat}(d:i<n)(e:ro (m0+i)=.wk i 2)(c:ro (m0+n)≠ .cl .blk):Pl n m0 (upd ro (m0+i) (.wk i 1)) cl G size 0 1:=by
 have k:=h.pos;obtain⟨b,g,_,_⟩:=h.isLast d e (by omega);refine h.wk d e (.inr ⟨by omega,by omega,by omega⟩) (.sema ?_ λa j=>?_)
 ·rw[upd_ne ro _ (by omega)];revert b c;generalize ro (m0+n)=x;intro c b;unfold isW3 at b;split at b
  ·exact .inl rfl
  ·exact .inr rfl
  ·exact absurd rfl c
  ·exact b.elim
 ·by_cases f:a=i
  ·subst f;rw[upd_same];rfl
  ·rw[upd_ne ro _ (by omega)];exact g a j f
theorem Pl.Mi(h:Pl n m0 ro cl G size st sm){c c':CT}(g:ro (m0+n)=.cl c){cl':Bool}(t:cl'=true↔c'=.quit)(b:cl'=cl\/∀r S,ro 0≠ .rc r S 1){st' sm':Int}(u:Mode n m0 (upd ro (m0+n) (.cl c')) st' sm'):Pl n m0 (upd ro (m0+n) (.cl c')) cl' G size st' sm':=by
 have v:=h.pos;have w:upd ro (m0+n) (cN.cl c') 0=ro 0:=upd_ne ro _ (by omega);have o:∀i,i<n->upd ro (m0+n) (cN.cl c') (m0+i)=ro (m0+i):=λi E=>upd_ne ro _ (by omega);refine⟨v,?_,λk A B=>by rw[upd_ne ro _ (by omega)];exact h.old k A B,by rw[upd_same];simpa using t,u,h.usr,by rw[upd_same,h.say,g];rfl,λk=>?_⟩
 ·cases h.lay with
  |st p q j s F d l m H=>rw[g]at d;cases d
  |nW j d l m=>rw[g]at d;cases d
  |rc p C q j d l m D s=>
   refine .rc p C q (w.trans j) ⟨_,upd_same _ _ _⟩ l (λa f=>by rw[o a f];exact m a f) D (s.imp id λ⟨x,y,z⟩=>⟨x,?_,λa f=>by rw[o a f];exact z a f⟩);rcases b with b|b
   ·rw[b];exact y
   ·subst x;exact absurd j (b _ _)
 ·rw[h.done];refine or_congr Iff.rfl ?_;by_cases e:k=m0+n
  ·subst e;rw[upd_same,g];exact⟨λ⟨_,_,y,_⟩=>(nomatch y),λ⟨_,_,y,_⟩=>(nomatch y)⟩
  ·rw[upd_ne ro _ e]
theorem Pl.recv(h:Pl n m0 ro cl G size st sm){c:CT}(f:ro (m0+n)=.cl c):∃r S s,ro 0=.rc r S s/\size=m0+n+1/\pend (ro 0)=0/\∀i,i<n->1<=fV (ro (m0+i)):=by
 cases h.lay with
 |st g j b k q a d e t=>rw[f]at a;cases a
 |nW b a d e=>rw[f]at a;cases a
 |rc g l j b a d e u k=>
  refine⟨g,l,j,b,d,by rw[b];rfl,λi m=>?_⟩;obtain⟨v,o,p,_⟩:=e i m;rw[o];exact p
theorem Mode.sd(h:Mode n m0 ro st sm)(b:isOpen (ro (m0+n))):OpenSt n m0 ro/\(∀vs,ro (m0+n)=.cl (.w2 vs)->V n m0 ro<=vs/\1<=vs)/\st=((V n m0 ro+pend (ro 0):Nat):Int)*KK/\sm=0:=by
 cases h with
 |opn a c d=>exact⟨c,d,rfl,rfl⟩
 |reg a _ _=>revert a b;generalize ro (m0+n)=x;unfold isW3 isOpen;split<;>simp
 |last L a _ _ _=>revert a b;generalize ro (m0+n)=x;unfold isW3 isOpen;split<;>simp
 |sema a _=>rcases a with a|a<;>rw[a]at b<;>exact b.elim
 |fin a _=>revert a b;generalize ro (m0+n)=x;unfold isFin isOpen;split<;>simp
theorem Mode.se(c:0<m0)(h:Mode n m0 ro st sm)(d:isOpen (ro (m0+n)))(a:isOpen r')(e:∀vs,r'=.cl (.w2 vs)->V n m0 ro<=vs/\1<=vs):Mode n m0 (upd ro (m0+n) r') st sm:=by obtain⟨f,_,rfl,rfl⟩:=h.sd d;have g:upd ro (m0+n) r' 0=ro 0:=upd_ne ro _ (by omega);have b:V n m0 (upd ro (m0+n) r')=V n m0 ro:=kY (.inr (Nat.le_refl _)) _;have:=Mode.opn (n:=n) (m0:=m0) (ro:=upd ro (m0+n) r') (by rw[upd_same];exact a) (λi j=>by rw[upd_ne ro _ (by omega)];exact f i j) (λvs x=>by rw[b];rw[upd_same]at x;exact e vs x);rwa[g,b]at this
theorem Pl.K3(h:Pl n m0 ro cl G size st sm)(b:ro (m0+n)=.cl .w1)(f:V n m0 ro=0):st=0/\sm=0/\Pl n m0 (upd ro (m0+n) (.cl .ke)) cl G size 0 0:=by
 have k:=h.pos;obtain⟨r,S,s,l,m,c,g⟩:=h.recv b;obtain⟨j,_,a,d⟩:=h.mode.sd (by rw[b];trivial);rw[c,f]at a;refine⟨by simpa using a,d,h.Mi b ?_ (.inl rfl) (.fin (by rw[upd_same];trivial) λi e=>?_)⟩
 ·have:=h.clq;rw[b]at this;simpa using this
 ·rw[upd_ne ro _ (by omega)];rcases j i e with x|x|x
  ·have:=g i e;omega
  ·have:=EZ e x;omega
  ·exact x
theorem Pl.se(h:Pl n m0 ro cl G size st sm){c c':CT}(b:ro (m0+n)=.cl c)(d:isOpen (.cl c))(a:isOpen (.cl c'))(e:∀vs,c'=.w2 vs->V n m0 ro<=vs/\1<=vs):Pl n m0 (upd ro (m0+n) (.cl c')) cl G size st sm:=by
 refine h.Mi b ?_ (.inl rfl) (h.mode.se h.pos (by rw[b];exact d) a λvs x=>e vs (by cases x;rfl));have:=h.clq;rw[b]at this;have f:c≠ .quit:=by rintro rfl;exact d
 have g:c'≠ .quit:=by rintro rfl;exact a
 simp[f]at this;simp[this,g]
theorem Pl.Qa(h:Pl n m0 ro cl G size st sm){vs:Nat}(a:ro (m0+n)=.cl (.w2 vs))(c:V n m0 ro=vs):Pl n m0 (upd ro (m0+n) (.cl .sw)) cl G size ((vs:Int)*KK+1) 0:=by
 obtain⟨d,e,_,_⟩:=h.mode.sd (by rw[a];trivial);have j:=h.pos;have f:=e vs a;have b:V n m0 (upd ro (m0+n) (cN.cl .sw))=V n m0 ro:=kY (.inr (Nat.le_refl _)) _;refine h.Mi a ?_ (.inl rfl) ?_
 ·have:=h.clq;rw[a]at this;simpa using this
 ·have:=Mode.reg (n:=n) (m0:=m0) (ro:=upd ro (m0+n) (.cl .sw)) (by rw[upd_same];trivial) (λi g=>by rw[upd_ne ro _ (by omega)];exact d i g) (by rw[b];omega);rwa[b,c]at this
theorem Pl.MN(h:Pl n m0 ro cl G size st sm){c c':CT}(d:ro (m0+n)=.cl c)(f:isW3 (.cl c))(e:isW3 (.cl c'))(l:c'=.blk->sm=0):Pl n m0 (upd ro (m0+n) (.cl c')) cl G size st sm:=by
 have p:=h.pos;have k:∀x,V n m0 (upd ro (m0+n) x)=V n m0 ro:=kY (.inr (Nat.le_refl _));have b:∀x i,i<n->upd ro (m0+n) x (m0+i)=ro (m0+i):=λx i a=>upd_ne ro _ (by omega);refine h.Mi d ?_ (.inl rfl) ?_
 ·have:=h.clq;rw[d]at this;have m:c≠ .quit:=by rintro rfl;exact f
  have o:c'≠ .quit:=by rintro rfl;exact e
  simp[m]at this;simp[this,o]
 ·cases q:h.mode with
  |opn x _ _=>rw[d]at x;revert x f;cases c<;>simp[isOpen,isW3]
  |reg x y z=>
   have:=Mode.reg (n:=n) (m0:=m0) (ro:=upd ro (m0+n) (.cl c')) (by rw[upd_same];exact e) (λi a=>by rw[b _ i a];exact y i a) (by rw[k];exact z);rwa[k]at this
  |last L x g y z=>
   have:=Mode.last (n:=n) (m0:=m0) (ro:=upd ro (m0+n) (.cl c')) L (by rw[upd_same];exact e) g (by rw[b _ L g];exact y) (λi a j=>by rw[b _ i a];exact z i a j);rwa[b _ L g]at this
  |sema x y=>
   refine .sema ?_ λi a=>by rw[b _ i a];exact y i a
   rw[upd_same];revert e l;cases c'<;>simp[isW3]
  |fin x _=>rw[d]at x;revert x f;cases c<;>simp[isFin,isW3]
theorem Pl.xy(h:Pl n m0 ro cl G size st sm)(a:ro (m0+n)=.cl .w3):sm=0\/(st=0/\sm=1/\Pl n m0 (upd ro (m0+n) (.cl .w4)) cl G size 0 0):=by
 have c:=h.pos;cases d:h.mode with
 |opn x _ _=>rw[a]at x;exact x.elim
 |reg x y z=>exact .inl rfl
 |last L x e y z=>exact .inl rfl
 |sema x y=>
  refine .inr ⟨rfl,rfl,h.Mi a ?_ (.inl rfl) (.fin (by rw[upd_same];trivial) λi b=>by rw[upd_ne ro _ (by omega)];exact y i b)⟩;have:=h.clq;rw[a]at this;simpa using this
 |fin x _=>rw[a]at x;exact x.elim
theorem Mode.ofFin(h:Mode n m0 ro st sm)(b:isFin (ro (m0+n))):AllQuit n m0 ro/\st=0/\sm=0:=by
 cases h with
 |opn a c d=>revert a b;generalize ro (m0+n)=x;unfold isOpen isFin;split<;>simp
 |reg a _ _=>revert a b;generalize ro (m0+n)=x;unfold isW3 isFin;split<;>simp
 |last L a _ _ _=>revert a b;generalize ro (m0+n)=x;unfold isW3 isFin;split<;>simp
 |sema a _=>rcases a with a|a<;>rw[a]at b<;>exact b.elim
 |fin a c=>exact⟨c,rfl,rfl⟩
theorem Pl.BJ(h:Pl n m0 ro cl G size st sm){c c':CT}(b:ro (m0+n)=.cl c)(d:isFin (.cl c))(e:isFin (.cl c')){cl':Bool}(f:cl'=true↔c'=.quit)(a:cl'=cl\/∀r S,ro 0≠ .rc r S 1):Pl n m0 (upd ro (m0+n) (.cl c')) cl' G size st sm:=by obtain⟨x,rfl,rfl⟩:=h.mode.ofFin (by rw[b];exact d);have j:=h.pos;exact h.Mi b f a (.fin (by rw[upd_same];exact e) λi g=>by rw[upd_ne ro _ (by omega)];exact x i g)
theorem Pl.o7(h:Pl n m0 ro cl G size st sm){c:CT}(g:ro (m0+n)=.cl c)(q:isFin (.cl c)):∃S s,ro 0=.rc 0 S s/\(∀i,i<n->∃k,ro (m0+i)=.wk k 1)/\size=m0+n+1:=by
 obtain⟨x,_,_⟩:=h.mode.ofFin (by rw[g];exact q);cases h.lay with
 |st o p j r w b l d y=>rw[g]at b;cases b
 |nW j b l d=>rw[g]at b;cases b
 |rc o e p j b l d z r=>
  have m:∀i,i<n->e i=true:=λi a=>by obtain⟨t,f,A,B,u⟩:=d i a;have:=x i a;rw[f]at this;simp only[fV]at this;exact u.2 (by omega)
  have C:sumTo n (λi=>if e i then 1 else 0)=n:=by
   have:sumTo n (λi=>if e i then 1 else 0)=sumTo n λ_=>1:=sumTo_congr λi a=>by rw[m i a];rfl
   rw[this,uK]
  have v:o=0:=by omega
  subst v;refine⟨e,p,j,λi a=>?_,l⟩;obtain⟨t,f,_⟩:=d i a;have:=x i a;rw[f]at this;simp only[fV]at this;subst this;exact⟨i,f⟩
end
section
variable{G:Gh}{g d n m Wg:Nat}
theorem HK:jz G g d n m #[]:=λj e h=>by simp at h
theorem lP{e:Event}(c:(MemAct.ofEvent e).touch?=none)(f:(MemAct.ofEvent e).low m):jz G g d n m #[e]:=by
 intro j x h;have:x=e:=by have:=Array.mem_of_getElem? h;simpa using this
 subst this;exact⟨λa b=>by rw[c]at b;(cases b),f⟩
theorem xz{w:Bool}{a:Addr}(c:G.wg a.block)(e:G.user g)(f:g=G.sayer)(i:a.block<m):jz G g d n m #[mk (if w then .write a else .read a)]:=by
 intro j x h;have:x=mk (if w then .write a else .read a):=by have:=Array.mem_of_getElem? h;simpa using this
 subst this;cases w<;>refine⟨λt b _=>?_,i⟩<;>(simp[mk,MemAct.ofEvent,MemAct.touch?]at b;subst b;exact⟨a.block,rfl,.inr (.inr ⟨rfl,c,e,f⟩)⟩)
theorem lQ{es:Array Event}(f:G.wg Wg)(i:G.user g)(k:Wg<m) (h:∀(j:Nat) (e:Event),es[j]? =some e->((MemAct.ofEvent e).touch?=none/\(MemAct.ofEvent e).low m)\/((∃a b,e=⟨.cell a,b,true⟩/\a.block=Wg)/\0<deafBehind d (es.extract 0 j))):jz G g d n m es:=by
 intro j e l;rcases h j e l with⟨o,p⟩|⟨⟨a,b,rfl,q⟩,r⟩
 ·exact⟨λt c=>by rw[o]at c;(cases c),p⟩
 ·subst q;have s:MemAct.ofEvent ⟨.cell a,b,true⟩=.access ⟨.cell a,b,true⟩:=by cases b<;>rfl
  rw[s];refine⟨λt c _=>?_,k⟩;simp only[MemAct.touch?,Option.some.injEq]at c;subst c;exact⟨a.block,rfl,.inr (.inl ⟨rfl,f,i,λ_=>r⟩)⟩
theorem sf(b:G.wg Wg)(c:G.user g)(f:Wg<m)(h:0<d):jz G g d n m #[ConcR.rd (stA Wg)]:=lQ b c f λj e a=>.inr (by
 match j,a with
 |0,a=>simp at a;subst a;exact⟨⟨_,_,rfl,rfl⟩,by simpa[deafBehind]using h⟩
 |j+1,a=>simp at a)
theorem K4(b:G.wg Wg)(c:G.user g)(f:Wg<m)(h:0<d):jz G g d n m #[ConcR.wr (stA Wg)]:=lQ b c f λj e a=>.inr (by
 match j,a with
 |0,a=>simp at a;subst a;exact⟨⟨_,_,rfl,rfl⟩,by simpa[deafBehind]using h⟩
 |j+1,a=>simp at a)
theorem mO(c:G.wg Wg)(f:G.user g)(h:Wg<m)(b:0<d):jz G g d n m #[ConcR.rd (stA Wg),ConcR.wr (stA Wg)]:=lQ c f h λj e a=>.inr (by
 match j,a with
 |0,a=>simp at a;subst a;exact⟨⟨_,_,rfl,rfl⟩,by simpa[deafBehind]using b⟩
 |1,a=>simp at a;subst a;exact⟨⟨_,_,rfl,rfl⟩,by simpa[deafBehind,ConcR.rd]using b⟩
 |j+2,a=>simp at a)
theorem BK(b:G.wg Wg)(c:G.user g)(f:Wg<m):jz G g d n m (semEvents (smA Wg)):=lQ b c f λj e a=>by
 match j,a with
 |0,a=>simp[semEvents]at a;subst a;exact .inl ⟨rfl,trivial⟩
 |1,a=>simp[semEvents]at a;subst a;exact .inr ⟨⟨_,_,rfl,rfl⟩,by simp[deafBehind,semEvents]⟩
 |2,a=>simp[semEvents]at a;subst a;exact .inr ⟨⟨_,_,rfl,rfl⟩,by simp[deafBehind,semEvents]⟩
 |3,a=>simp[semEvents]at a;subst a;exact .inl ⟨rfl,trivial⟩
 |j+4,a=>simp[semEvents]at a
theorem HN{es:Array Event}(k:G.Fits n)(b:n<=m)(h:∀e∈es,EvW (G.own g) (G.rd g) n m e):jz G g d n m es:=by
 intro j e o;rcases h e (Array.mem_of_getElem? o)with⟨a,c,rfl,i⟩|⟨r,c,rfl,i⟩|rfl
 ·have l:MemAct.ofEvent ⟨.cell a,c,false⟩=.access ⟨.cell a,c,false⟩:=by cases c<;>rfl
  rw[l];refine⟨λt f _=>?_,?_⟩
  ·simp only[MemAct.touch?,Option.some.injEq]at f;subst f;exact⟨a.block,rfl,.inl ⟨rfl,i.imp id (.imp (λx=>⟨x.2,x.1⟩) id)⟩⟩
  ·show a.block<m;rcases i with h|⟨_,h⟩|h
   ·exact Nat.lt_of_lt_of_le (k.own _ _ h) b
   ·exact Nat.lt_of_lt_of_le (k.rd _ _ h) b
   ·exact h.2
 ·have l:MemAct.ofEvent ⟨.obj r,c,false⟩=.access ⟨.obj r,c,false⟩:=by cases c<;>rfl
  rw[l];refine⟨λt f _=>?_,?_⟩
  ·simp only[MemAct.touch?,Option.some.injEq]at f;subst f;exact⟨r,rfl,.inl ⟨rfl,i.imp id .inr⟩⟩
  ·show r<m;rcases i with h|h
   ·exact Nat.lt_of_lt_of_le (k.own _ _ h) b
   ·exact h.2
 ·exact⟨λt f=>by simp[MemAct.ofEvent,MemAct.touch?]at f,trivial⟩
theorem Fa{own rd:Nat->Prop}{es:Array Event}(h:∀e∈es,EvW own rd n m e)(d:Nat):deafBehind d es=d:=
 deafBehind_still (λe b=>by rcases h e b with⟨a,c,rfl,_⟩|⟨r,c,rfl,_⟩|rfl<;>simp) d
theorem Fb{es:Array Event}(h:∀e∈es,e.mute=true):jz G g d n m es:=λj e a=>⟨λt b=>by rw[touch_mute (h e (Array.mem_of_getElem? a))]at b;(cases b),low_mute (h e (Array.mem_of_getElem? a)) m⟩
end
section
variable(P:Program)(ty:TypeId)(Wg Ch n:Nat)(rd0:Nat->Prop)(val:Nat->Value->(Nat->Prop)->World->Prop)(End:eK)(w0:World)(B0 m0:Nat)
def sg(G:Gh)(cl:Bool)(t:Trace):Prop:=cl=true->∃p,t.act? p=some (.close Ch)/\t.heard p/\t.g? p=some (m0+n)/\∀i a,G.t0<=i->touchAt t i=some a->a.loc.isMemory=true->t.g? i=some (m0+n)->i<p
def cX(X:Nat->Prop)(T0:Nat)(a:Mu)(m:Machine)(t:Trace):Prop:=
 ∃(gs:Array Goroutine) (w:World) (sl:Option (Nat×Nat)) (ro:Nat->cN) (rk:Nat->WT) (dd:Nat->Nat) (G:Gh) (cl:Bool) (st sm:Int),m=crowd gs w sl/\Com P ty Wg Ch n rd0 val End w0 B0 ro rk dd G cl gs w t/\WgAt ty Wg w st sm/\Pl n m0 ro cl G gs.size st sm/\sg Ch n m0 G cl t/\G.x=X/\G.t0=T0/\a=⟨meas n m0 ro,gs.size,rk,xx (ro (m0+n))⟩
end
section
variable{P:Program}{ty:TypeId}{Wg Ch n:Nat}{rd0:Nat->Prop}{val:Nat->Value->(Nat->Prop)->World->Prop}{End:eK}{w0:World}{B0 m0:Nat}{X:Nat->Prop}{T0:Nat} {ro:Nat->cN}{rk:Nat->WT}{dd:Nat->Nat}{G:Gh}{cl:Bool}{gs:Array Goroutine}{w w':World}{sl:Option (Nat×Nat)}{t:Trace}{st sm:Int}
theorem Pl.Qb{G':Gh}{size:Nat}(h:Pl n m0 ro cl G size st sm)(a:G'.user=G.user)(b:G'.sayer=G.sayer)(c:G'.done=G.done):Pl n m0 ro cl G' size st sm:=
 ⟨h.pos,h.lay,h.old,h.clq,h.mode,by rw[a];exact h.usr,by rw[b];exact h.say,by rw[c];exact h.done⟩
theorem sg.app{u:Trace}(h:sg Ch n m0 G cl t){G':Gh}(q:G'.t0=G.t0)(r:cl=true->∀f∈u,f.g=m0+n->f.act.touch?=none):sg Ch n m0 G' cl (t++u):=by
 intro m;obtain⟨p,o,s,v,w⟩:=h m;have k:=lt_of_act? o;refine⟨p,by rw[act?_old k];exact o,(heard_old k).2 s,by rw[g?_old k];exact v,λi a x y z j=>?_⟩;obtain⟨f,c,b⟩:=touch_of y;rcases getElem?_append_cases c with⟨l,d⟩|⟨_,e⟩
 ·exact w i a (q▸x) (by rw[touchAt_of d];exact b) z (by rw[g?_old l]at j;exact j)
 ·simp only[Trace.g?,c,Option.map_some,Option.some.injEq]at j;rw[r m f e j]at b;cases b
theorem Pl.Aj{size:Nat}(h:Pl n m0 ro cl G size st sm)(f:size=gs.size)(b:cl=true){x:Nat}(m:x<gs.size):(∀r S,ro x≠ .rc r S 1)/\∀i,ro x≠ .wk i 8:=by
 have o:=h.clq.1 b;obtain⟨S,s,d,p,z⟩:=h.o7 o trivial;subst f;rcases h.lt_size m with rfl|⟨q,t⟩|⟨i,s,u,rfl,e,_⟩|⟨rfl,c,e⟩
 ·rw[d];refine⟨λr A e=>?_,λi e=>by cases e⟩;cases e;cases h.lay with
  |st v w a gs B g j l C=>rw[d]at a;cases a
  |nW a g j l=>rw[d]at a;cases a
  |rc v D w a g j l E gs=>
   rw[d]at a;cases a;rcases gs with x|⟨_,x,_⟩
   ·omega
   ·rw[b]at x;cases x
 ·rw[h.old x q t];exact⟨λ_ _ e=>(nomatch e),λ_ e=>(nomatch e)⟩
 ·obtain⟨k,y⟩:=p i u;rw[y];exact⟨λ_ _ e=>(nomatch e),λ_ e=>(nomatch e)⟩
 ·rw[e];exact⟨λ_ _ e=>(nomatch e),λ_ e=>(nomatch e)⟩
theorem cX.go(h:Com P ty Wg Ch n rd0 val End w0 B0 ro rk dd G cl gs w t)(s:Pl n m0 ro cl G gs.size st sm)(u:sg Ch n m0 G cl t)(F:G.x=X)(H:G.t0=T0) {k:Nat}{g g':Goroutine}{es:Array Event}{r':cN}{τ':WT}{st' sm':Int}(v:gs[k]? =some g)(y:stepG P (k==0) g w=.go g' w' es) (I:r9 Wg (G.own k) w w')(d:WgAt ty Wg w' st' sm')(z:jz G k (dd k) w.heap.size w'.heap.size es)(J:G.done k->w'.heap.size=w.heap.size) (K:im P ty Wg Ch n rd0 val End r' τ' (deafBehind (dd k) es) ((G.grow k w.heap.size w'.heap.size).own k) (G.rd k) g' w')
 (l:Pl n m0 (upd (λx=>jb (fq P g g') (ro x)) k r') cl G gs.size st' sm')
 (A:cl=true->k=m0+n->∀e∈es,(MemAct.ofEvent e).touch?=none) (c:meas n m0 (upd (λx=>jb (fq P g g') (ro x)) k r')<meas n m0 ro\/(meas n m0 (upd (λx=>jb (fq P g g') (ro x)) k r')=meas n m0 ro/\WT.Sub τ' (rk k))):
 ∃b ops m,runT P (crowd gs w sl) k=(.next b,ops)/\Mu.Lt m ⟨meas n m0 ro,gs.size,rk,xx (ro (m0+n))⟩/\cX P ty Wg Ch n rd0 val End w0 B0 m0 X T0 m b (t++ops):=by
 have o:=runT_crowd_go (P:=P) (sl:=sl) (i:=k) v y;have p:k<gs.size:=(Array.getElem?_eq_some_iff.1 v).1;have q:=h.go (r':=r') (τ':=τ') v (λB x L=>s.Aj rfl B L) I ⟨_,_,d⟩ z J K;refine⟨_,_,⟨meas n m0 (upd (λx=>jb (fq P g g') (ro x)) k r'),((gs.map (woken P g g' w')).setIfInBounds k g').size,upd rk k τ',xx (upd (λx=>jb (fq P g g') (ro x)) k r' (m0+n))⟩,o,?_,_,w',sl,_,_,_,_,cl,st',sm',rfl,q,d,?_,?_,F,H,rfl⟩
 ·rcases c with c|⟨C,r⟩
  ·exact .a c
  ·refine .f C (by simp) ⟨k,p,by simp only;rw[upd_same];exact r,λj _ M=>by simp only;rw[upd_ne _ _ M]⟩
 ·have:((gs.map (woken P g g' w')).setIfInBounds k g').size=gs.size:=by simp
  rw[this];exact l.Qb rfl rfl rfl
 ·refine u.app rfl λB N D E=>?_;obtain⟨e,C,rfl⟩:=Go.Conc.mem_ofEvents D;exact A B E e C
end
theorem r9.si{Wg:Nat}{own:Nat->Prop}{w w':World}(h:Aside Wg w w'):r9 Wg own w w':=⟨h.tape,h.os,h.output,by rw[h.size];exact Nat.le_refl _,λb _ _ a=>h.block b a⟩
section
variable{P:Program}{ty:TypeId}{Wg Ch n:Nat}{rd0:Nat->Prop}{val:Nat->Value->(Nat->Prop)->World->Prop}{End:eK}{w0:World}{B0 m0:Nat}{X:Nat->Prop}{T0:Nat} {ro:Nat->cN}{rk:Nat->WT}{dd:Nat->Nat}{G:Gh}{cl:Bool}{gs:Array Goroutine}{w w':World}{sl:Option (Nat×Nat)}{t:Trace}{st sm:Int}
theorem Com.at(h:Com P ty Wg Ch n rd0 val End w0 B0 ro rk dd G cl gs w t)(d:Nat):Com P ty Wg Ch n rd0 val End w0 B0 ro rk dd G cl gs (w.at d) t:=
 {h with sit:=λk g a=>(h.sit k g a).rely (cO.at _ _ (λ_ _ x=>x) w d)}
def Goal(P:Program)(ty:TypeId)(Wg Ch n:Nat)(rd0:Nat->Prop)(val:Nat->Value->(Nat->Prop)->World->Prop)(End:eK)(w0:World)(B0 m0:Nat)(X:Nat->Prop)(T0:Nat) (ro:Nat->cN)(rk:Nat->WT)(gs:Array Goroutine)(w:World)(sl:Option (Nat×Nat))(t:Trace)(k:Nat):Prop:=
 ∃a b c,runT P (crowd gs w sl) k=(.next a,b)/\Mu.Lt c ⟨meas n m0 ro,gs.size,rk,xx (ro (m0+n))⟩/\cX P ty Wg Ch n rd0 val End w0 B0 m0 X T0 c a (t++b)
variable(cy:Com P ty Wg Ch n rd0 val End w0 B0 ro rk dd G cl gs w t)(dj:Pl n m0 ro cl G gs.size st sm)(fD:sg Ch n m0 G cl t)(hX:G.x=X)(hT:G.t0=T0)(ep:WgAt ty Wg w st sm)
include cy dj fD hX hT ep
theorem cX.BL{k:Nat}{g:Goroutine}{r:cN}{S:eK}{i:WT}(z:gs[k]? =some g)(A:Way P (k==0) (G.rd k) (Lv ty Wg) S i (G.own k) g w)(o:rk k=i)(j:ro k=r)(B:r≠ .cl .blk)(C:r≠ .cl .quit)(p:¬G.done k) (q:∀i own g w,Way P (k==0) (G.rd k) (Lv ty Wg) S i own g w->im P ty Wg Ch n rd0 val End r i (dd k) own (G.rd k) g w):(∀w1,cO (G.own k) (G.rd k) (Lv ty Wg) w w1->S (G.own k) g w1)\/Goal P ty Wg Ch n rd0 val End w0 B0 m0 X T0 ro rk gs w sl t k:=by
 cases A with
 |here h=>exact .inl h
 | @step f own g _ K D E=>
  right;obtain⟨l,w',y,c,e,a⟩:=D w (.refl _ _ _ _);have s:=E w l w' y c (.refl _ _ _ _) e a;have F:c=(G.grow k w.heap.size w'.heap.size).own k:=by funext b;apply propext;rw[a.owns];exact⟨Or.imp id λx=>⟨rfl,x⟩,Or.imp id λx=>x.2⟩
  have u:deafBehind (dd k) y=dd k:=Fa a.evs _
  have m:upd (λx=>jb (fq P g l) (ro x)) k r=λx=>jb (fq P g l) (ro x):=by
   have:jb (fq P g l) (ro k)=r:=by rw[j];exact pW B
   have h:=kZ (λx=>jb (fq P g l) (ro x)) k;simp only[this]at h;exact h
  have d:w'.heap[Wg]? =w.heap[Wg]? :=a.same Wg cy.wglow λx=>cy.fits.ownwg _ _ x ((cy.wg _).2 (.inl rfl));refine cX.go cy dj fD hX hT (st':=st) (sm':=sm) (r':=r) (τ':=f w) z e ⟨a.tape,a.os,a.output,a.size,λb H I _=>a.same b H I⟩ (ep.of_block d) (HN cy.fits a.size a.evs) (λx=>absurd x p) ?_ ?_ (λJ v=>?_) (.inr ⟨?_,?_⟩)
  ·rw[u,<-F];exact q _ _ _ _ s
  ·rw[m];exact dj.HJ _
  ·exfalso;have:=dj.clq.1 J;rw[<-v,j]at this;exact C this
  ·rw[m];exact oZ _
  ·rw[o];exact .mk f w
theorem cX.idle{k:Nat}{g:Goroutine}{r:cN}{S:eK}{a:WT}(f:gs[k]? =some g)(i:Way P (k==0) (G.rd k) (Lv ty Wg) S a (G.own k) g w)(b:rk k=a)(c:ro k=r)(j:r≠ .cl .blk)(l:r≠ .cl .quit)(d:¬G.done k) (e:∀a own g w,Way P (k==0) (G.rd k) (Lv ty Wg) S a own g w->im P ty Wg Ch n rd0 val End r a (dd k) own (G.rd k) g w):S (G.own k) g w\/Goal P ty Wg Ch n rd0 val End w0 B0 m0 X T0 ro rk gs w sl t k:=
 (cX.BL cy dj fD hX hT ep f i b c j l d e).imp (λh=>h w (.refl _ _ _ _)) id
theorem cX.quiet{k m:Nat}{g:Goroutine}{r:cN}{S:Goroutine->World->Prop}(o:gs[k]? =some g)(c:k≠0)(p:Goes P false (cO ci ci (Lv ty Wg)) ConcR.DC0 S m g w)(d:rk k=.num m)(f:ro k=r)(q:r≠ .cl .blk) (i:∀m g w,Goes P false (cO ci ci (Lv ty Wg)) ConcR.DC0 S m g w->im P ty Wg Ch n rd0 val End r (.num m) (dd k) (G.own k) (G.rd k) g w):S g w\/Goal P ty Wg Ch n rd0 val End w0 B0 m0 X T0 ro rk gs w sl t k:=by
 rcases Goes.cases p with h|⟨l,rfl,h⟩
 ·exact .inl (h w (.refl _ _ _ _))
 ·right;obtain⟨b,w',v,e,⟨rfl,rfl⟩,j⟩:=h w (.refl _ _ _ _)
  have a:upd (λx=>jb (fq P g b) (ro x)) k r=λx=>jb (fq P g b) (ro x):=by
   have:jb (fq P g b) (ro k)=r:=by rw[f];exact pW q
   have h:=kZ (λx=>jb (fq P g b) (ro x)) k;simp only[this]at h;exact h
  have s:(k==0)=false:=by simpa using c
  refine cX.go cy dj fD hX hT (st':=st) (sm':=sm) (r':=r) (τ':=.num l) o (by rw[s];exact e) (r9.si (.refl Wg _)) ep HK (λ_=>rfl) ?_ ?_ (λ_ _ e u=>by simp at u) (.inr ⟨?_,?_⟩)
  ·rw[Gh.nH];exact i _ _ _ j
  ·rw[a];exact dj.HJ _
  ·rw[a];exact oZ _
  ·rw[d];exact WT.BH l
theorem cX.book{k:Nat}{g g':Goroutine}{es:Array Event}{r':cN}{τ':WT}{st' sm':Int}(o:gs[k]? =some g)(d:stepG P (k==0) g w=.go g' w' es)(j:Aside Wg w w')(b:WgAt ty Wg w' st' sm') (f:jz G k (dd k) w.heap.size w.heap.size es)(p:im P ty Wg Ch n rd0 val End r' τ' (deafBehind (dd k) es) (G.own k) (G.rd k) g' w') (q:ro k≠ .cl .quit) (c:∀a,Pl n m0 a cl G gs.size st sm->(∀x,ro x≠ .cl .blk->a x=ro x)->V n m0 a=V n m0 ro->(fq P g g'=true->a (m0+n)≠ .cl .blk)->Pl n m0 (upd a k r') cl G gs.size st' sm'/\meas n m0 (upd a k r')<meas n m0 a):Goal P ty Wg Ch n rd0 val End w0 B0 m0 X T0 ro rk gs w sl t k:=by
 have h:=j.size
 obtain⟨r,l⟩:=c (λx=>jb (fq P g g') (ro x)) (dj.HJ _) (λx s=>pW s) (uJ _) (λu e=>by
  rcases lO (fq P g g') (ro (m0+n))with x|⟨_,_,x⟩
  ·have m:jb (fq P g g') (ro (m0+n))=.cl .blk:=e;rw[x]at m;rw[m,u]at x;cases x
  ·rw[x]at e;cases e)
 rw[oZ]at l;refine cX.go cy dj fD hX hT (st':=st') (sm':=sm') (r':=r') (τ':=τ') o d (.si j) b (by rw[h];exact f) (λ_=>h) (by rw[h,Gh.nH];exact p) r (λv i=>?_) (.inl l);exfalso;have:=dj.clq.1 v;rw[<-i]at this;exact q this
theorem cX.slip{k q d:Nat}{g:Goroutine}{r:cN}(u:gs[k]? =some g)(j:k≠0)(v:r≠ .cl .blk)(s:QuitsD P q d g)(a:g.status=.running)(l:rk k=.num q)(m:dd k=d)(o:ro k=r) (p:∀q d g w,QuitsD P q d g->im P ty Wg Ch n rd0 val End r (.num q) d (G.own k) (G.rd k) g w):Goal P ty Wg Ch n rd0 val End w0 B0 m0 X T0 ro rk gs w sl t k:=by
 cases q with
 |zero=>rw[s.1]at a;cases a
 |succ q=>
  rcases s with⟨y,_⟩|⟨_,i,C,b,c,z⟩
  ·rw[y]at a;cases a
  ·have f:upd (λx=>jb (fq P g i) (ro x)) k r=λx=>jb (fq P g i) (ro x):=by
    have:jb (fq P g i) (ro k)=r:=by rw[o];exact pW v
    have h:=kZ (λx=>jb (fq P g i) (ro x)) k;simp only[this]at h;exact h
   have A:(k==0)=false:=by simpa using j
   refine cX.go cy dj fD hX hT (st':=st) (sm':=sm) (r':=r) (τ':=.num q) u (by rw[A];exact c w) (r9.si (.refl Wg _)) ep (Fb b) (λ_=>rfl) ?_ ?_ (λ_ _ e B=>touch_mute (b e B)) (.inr ⟨?_,?_⟩)
   ·rw[Gh.nH,m];exact p _ _ _ _ z
   ·rw[f];exact dj.HJ _
   ·rw[f];exact oZ _
   ·rw[l];exact WT.BH q
end
section
variable{P:Program}{ty:TypeId}{Wg Ch n:Nat}{rd0:Nat->Prop}{val:Nat->Value->(Nat->Prop)->World->Prop}{End:eK}{w0:World}{B0 m0:Nat}{X:Nat->Prop}{T0:Nat} {ro:Nat->cN}{rk:Nat->WT}{dd:Nat->Nat}{G:Gh}{cl:Bool}{gs:Array Goroutine}{w w':World}{sl:Option (Nat×Nat)}{t:Trace}{st sm:Int}
variable(cy:Com P ty Wg Ch n rd0 val End w0 B0 ro rk dd G cl gs w t)(dj:Pl n m0 ro cl G gs.size st sm)(fD:sg Ch n m0 G cl t)(hX:G.x=X)(hT:G.t0=T0)(ep:WgAt ty Wg w st sm)
include cy dj fD hX hT ep
theorem cX.HQ(hn:n<2147483647){i s:Nat}{g:Goroutine}(hi:i<n)(hk:gs[m0+i]? =some g)(e:ro (m0+i)=.wk i s)(hs:s<=7)(vW:g.status=.running):Goal P ty Wg Ch n rd0 val End w0 B0 m0 X T0 ro rk gs w sl t (m0+i):=by
 have hp:=dj.pos;have hS:=cy.sit _ g hk;have EC:m0+i<gs.size:=(Array.getElem?_eq_some_iff.1 hk).1;have Fc:G.user (m0+i):=(dj.usr _).2 (.inr ⟨by omega,EC⟩);have hw:=(cy.wg Wg).2 (.inl rfl);have Mj:=cy.wglow;have e0:(m0+i==0)=false:=by simp;omega
 have HT:ro (m0+i)≠ .cl .quit:=by rw[e];simp
 generalize HU:rk (m0+i)=τ at hS;generalize hd:dd (m0+i)=d at hS;rw[e]at hS;cases hS with
 |HE h=>omega
 |ou h=>omega
 |r0 h=>
  rcases cX.quiet (sl:=sl) cy dj fD hX hT ep hk (by omega) h HU e (by simp) (λm g w h=>by rw[hd];exact .r0 h)with⟨_,g',hgo,m,HV⟩|h
  ·refine cX.book (r':=.wk i 6) (τ':=.num m) cy dj fD hX hT ep hk (by rw[e0];exact hgo) (.refl Wg w) ep (lP (e:=mk (.releaseMerge (stA Wg))) rfl Mj) (by rw[hd];exact .k1 HV) HT λCR h1 h2 h3 _=>?_;have e1:CR (m0+i)=.wk i 7:=by rw[h2 _ (by rw[e];simp)];exact e
   exact⟨h1.ML hi e1 (by omega) (by omega),jc hp hi (by rw[e1];simp[fV])⟩
  ·exact h
 |k1 h=>
  rcases cX.quiet (sl:=sl) cy dj fD hX hT ep hk (by omega) h HU e (by simp) (λm g w h=>by rw[hd];exact .k1 h)with⟨_,g',hgo,m,HV⟩|h
  ·refine cX.book (r':=.wk i 5) (τ':=.num m) cy dj fD hX hT ep hk (by rw[e0];exact hgo) (.refl Wg w) ep (lP (e:=mk .disable) rfl trivial) (by rw[hd];exact .d1 HV) HT λCR h1 h2 h3 _=>?_;have e1:CR (m0+i)=.wk i 6:=by rw[h2 _ (by rw[e];simp)];exact e
   exact⟨h1.ML hi e1 (by omega) (by omega),jc hp hi (by rw[e1];simp[fV])⟩
  ·exact h
 |d1 h=>
  rcases cX.quiet (sl:=sl) cy dj fD hX hT ep hk (by omega) h HU e (by simp) (λm g w h=>by rw[hd];exact .d1 h)with⟨_,Kx⟩|h
  ·obtain⟨v,wt,k1,k2,k3,k4,_,_⟩:=dj.d1 hi e;subst k3 k4;obtain⟨g',hgo,ha,hb⟩:=Kx v wt k1 (by omega) ep;by_cases hl:v=0/\wt=1
   ·obtain⟨m,HV⟩:=ha hl;refine cX.book (r':=.wk i 4) (τ':=.num m) cy dj fD hX hT ep hk (by rw[e0];exact hgo) (aside_setCell w (stA Wg) _) (ep.setSt _) (mO hw Fc Mj (by omega)) (by rw[hd];exact .d2 HV) HT λCR h1 h2 h3 _=>?_;have e1:CR (m0+i)=.wk i 5:=by rw[h2 _ (by rw[e];simp)];exact e
    obtain⟨v2,Oi,j1,j2,j3,j4,j5,j6⟩:=h1.d1 hi e1;have:v2=v/\Oi=wt:=by simp only[KK]at j3;omega
    obtain⟨rfl,rfl⟩:=this;exact⟨j5 hl,jc hp hi (by rw[e1];simp[fV])⟩
   ·obtain⟨q,hq⟩:=hb hl;refine cX.book (r':=.wk i 1) (τ':=.num q) cy dj fD hX hT ep hk (by rw[e0];exact hgo) (aside_setCell w (stA Wg) _) (ep.setSt _) (mO hw Fc Mj (by omega)) (by rw[hd];exact .quit hq) HT λCR h1 h2 h3 _=>?_;have e1:CR (m0+i)=.wk i 5:=by rw[h2 _ (by rw[e];simp)];exact e
    obtain⟨v2,Oi,j1,j2,j3,j4,j5,j6⟩:=h1.d1 hi e1;have:v2=v/\Oi=wt:=by simp only[KK]at j3;omega
    obtain⟨rfl,rfl⟩:=this;exact⟨j6 hl,jc hp hi (by rw[e1];simp[fV])⟩
  ·exact h
 |d2 h=>
  rcases cX.quiet (sl:=sl) cy dj fD hX hT ep hk (by omega) h HU e (by simp) (λm g w h=>by rw[hd];exact .d2 h)with⟨_,hx⟩|h
  ·obtain⟨_,_,k3,k4⟩:=dj.isLast hi e (by omega);simp only[Nat.reduceEqDiff,if_false]at k3;subst k3 k4;obtain⟨g',hgo,m,HV⟩:=hx ep;refine cX.book (r':=.wk i 3) (τ':=.num m) cy dj fD hX hT ep hk (by rw[e0];exact hgo) (.refl Wg w) ep (sf hw Fc Mj (by omega)) (by rw[hd];exact .d3 HV) HT λCR h1 h2 h3 _=>?_;have e1:CR (m0+i)=.wk i 4:=by rw[h2 _ (by rw[e];simp)];exact e
   exact⟨h1.last hi e1 (.inl ⟨rfl,rfl⟩),jc hp hi (by rw[e1];simp[fV])⟩
  ·exact h
 |d3 h=>
  rcases cX.quiet (sl:=sl) cy dj fD hX hT ep hk (by omega) h HU e (by simp) (λm g w h=>by rw[hd];exact .d3 h)with⟨_,hx⟩|h
  ·obtain⟨_,_,k3,k4⟩:=dj.isLast hi e (by omega);simp only[Nat.reduceEqDiff,if_false]at k3;subst k3 k4;obtain⟨g',hgo,m,HV⟩:=hx ep;refine cX.book (r':=.wk i 2) (τ':=.num m) cy dj fD hX hT ep hk (by rw[e0];exact hgo) (aside_setCell w (stA Wg) _) (ep.setSt 0) (K4 hw Fc Mj (by omega)) (by rw[hd];exact .d4 HV) HT λCR h1 h2 h3 _=>?_;have e1:CR (m0+i)=.wk i 3:=by rw[h2 _ (by rw[e];simp)];exact e
   exact⟨h1.last hi e1 (.inr ⟨rfl,rfl⟩),jc hp hi (by rw[e1];simp[fV])⟩
  ·exact h
 |d4 h=>
  rcases cX.quiet (sl:=sl) cy dj fD hX hT ep hk (by omega) h HU e (by simp) (λm g w h=>by rw[hd];exact .d4 h)with⟨_,Qc,hx⟩|h
  ·obtain⟨_,_,k3,k4⟩:=dj.isLast hi e (by omega);simp only[if_true]at k3;subst k3 k4;obtain⟨g',hgo,q,hq⟩:=hx ep;have MO:g'.status=.running:=by
    cases q with
    |zero=>exact absurd hq.2 (by decide)
    |succ q=>exact hq.elim (λx=>absurd x.2 (by decide)) (λx=>x.1)
   refine cX.book (r':=.wk i 1) (τ':=.num q) cy dj fD hX hT ep hk (by rw[e0];exact hgo) (aside_setCell w (smA Wg) _) (ep.setSm 1) (BK hw Fc Mj) (by rw[hd];exact .quit (d:=deafBehind 1 (semEvents (smA Wg))) (by simpa[deafBehind,semEvents]using hq)) HT λCR h1 h2 h3 h4=>?_;have e1:CR (m0+i)=.wk i 2:=by rw[h2 _ (by rw[e];simp)];exact e
   exact⟨h1.raise hi e1 (h4 (by simp[fq,Qc,MO])),jc hp hi (by rw[e1];simp[fV])⟩
  ·exact h
 |quit h=>exact cX.slip cy dj fD hX hT ep hk (by omega) (by simp) h vW HU hd e λ_ _ _ _ h=>.quit h
theorem cX.Ak(hn:n<2147483647){c:CT}{g:Goroutine}(p:gs[m0+n]? =some g)(e:ro (m0+n)=.cl c)(K:g.status=.running):Goal P ty Wg Ch n rd0 val End w0 B0 m0 X T0 ro rk gs w sl t (m0+n)\/(c=.cl/\Mg P Ch (G.own (m0+n)) g w/\dd (m0+n)=0)\/(c=.w3/\stepG P false g w=.go {g with status:=.blocked} w #[]/\(∀w1,cO (G.own (m0+n)) (G.rd (m0+n)) (Lv ty Wg) w w1->MI P ty Wg Ch (G.rd (m0+n)) (G.own (m0+n)) g w1)/\dd (m0+n)=1/\sm=0):=by
 have H:=dj.pos;have T:=cy.sit _ g p;have ab:m0+n<gs.size:=(Array.getElem?_eq_some_iff.1 p).1;have o:G.user (m0+n):=(dj.usr _).2 (.inr ⟨by omega,ab⟩);have O:=(cy.wg Wg).2 (.inl rfl);have B:=cy.wglow;have m:(m0+n==0)=false:=by simp;omega
 have y:¬G.done (m0+n):=λh=>by
  rcases(dj.done _).1 h with x|⟨i,s,x,_⟩
  ·omega
  ·rw[e]at x;cases x
 have U:m0+n=G.sayer:=by rw[dj.say,e];rfl
 generalize u:rk (m0+n)=J at T;generalize v:dd (m0+n)=d at T;generalize C:G.own (m0+n)=z at T;generalize a:G.rd (m0+n)=rc at T;rw[e]at T;cases T with
 |JK I h=>
  rcases cX.idle (sl:=sl) cy dj fD hX hT ep (k:=m0+n) p (by rw[m,C,a];exact h) u e (by simp) (by simp) y (λJ z g w h=>by rw[v,a];rw[m,a]at h;exact .JK I h)with⟨_,L,j,ad,D⟩|h
  ·obtain⟨τ',f⟩:=Way.bind D I.walk;refine .inl (cX.book (r':=.cl .w1) (τ':=τ') cy dj fD hX hT ep p (by rw[m];exact j) (.refl Wg w) ep (lP (e:=mk .disable) rfl trivial) (by rw[v,a];exact .HF I f) (by rw[e];simp) λb q A E _=>?_);have l:b (m0+n)=.cl .kd:=by rw[A _ (by rw[e];simp)];exact e
   exact⟨q.se l trivial trivial (by simp),iG H (by rw[l];simp only[kH];have:=EY n m0 b;omega)⟩
  ·exact .inl h
 |HF I h=>
  rcases cX.idle (sl:=sl) cy dj fD hX hT ep (k:=m0+n) p (by rw[m,C,a];exact h) u e (by simp) (by simp) y (λJ z g w h=>by rw[v,a];rw[m,a]at h;exact .HF I h)with⟨_,W⟩|h
  ·obtain⟨r,S,s,h0,hz,Q,_⟩:=dj.recv e;obtain⟨_,_,R,Y⟩:=dj.mode.sd (by rw[e];trivial);rw[Q,Nat.add_zero]at R;subst R Y;have ae:=EY n m0 ro;obtain⟨L,j,Z,hb⟩:=W (V n m0 ro) (by omega) ep;by_cases M:V n m0 ro=0
   ·obtain⟨τ',f⟩:=Z M;refine .inl (cX.book (r':=.cl .ke) (τ':=τ') cy dj fD hX hT ep p (by rw[m];exact j) (.refl Wg w) ep (sf O o B (by omega)) (by rw[v,a];exact .HI f) (by rw[e];simp) λb q A E _=>?_);have l:b (m0+n)=.cl .w1:=by rw[A _ (by rw[e];simp)];exact e
    obtain⟨j1,j2,j3⟩:=q.K3 l (E.trans M);refine⟨by rw[j1];exact j3,iG H (by rw[l];simp only[kH];omega)⟩
   ·obtain⟨τ',f⟩:=hb M;refine .inl (cX.book (r':=.cl (.w2 (V n m0 ro))) (τ':=τ') cy dj fD hX hT ep p (by rw[m];exact j) (.refl Wg w) ep (sf O o B (by omega)) (by rw[v,a];exact .JL I f) (by rw[e];simp) λb q A E _=>?_);have l:b (m0+n)=.cl .w1:=by rw[A _ (by rw[e];simp)];exact e
    refine⟨q.se l trivial trivial (λvs x=>by cases x;omega),iG H (by rw[l];simp only[kH];omega)⟩
  ·exact .inl h
 | @JL _ _ _ ag vs _ _ I h=>
  rcases cX.idle (sl:=sl) cy dj fD hX hT ep (k:=m0+n) p (by rw[m,C,a];exact h) u e (by simp) (by simp) y (λJ z g w h=>by rw[v,a];rw[m,a]at h;exact .JL I h)with⟨_,W⟩|h
  ·obtain⟨r,S,s,h0,hz,Q,_⟩:=dj.recv e;obtain⟨_,aa,R,Y⟩:=dj.mode.sd (by rw[e];trivial);have aa:=aa _ e;rw[Q,Nat.add_zero]at R;subst R Y;have ae:=EY n m0 ro;obtain⟨Z,hb⟩:=W (V n m0 ro) (by omega) ep;by_cases M:V n m0 ro=vs
   ·obtain⟨L,j,τ',f⟩:=Z M;refine .inl (cX.book (r':=.cl .sw) (τ':=τ') cy dj fD hX hT ep p (by rw[m];exact j) (aside_setCell w (stA Wg) _) (ep.setSt _) (mO O o B (by omega)) (by rw[v,a];exact .JM f) (by rw[e];simp) λb q A E _=>?_);have l:b (m0+n)=.cl (.w2 vs):=by rw[A _ (by rw[e];simp)];exact e
    refine⟨by rw[M];exact q.Qa l (E.trans M),iG H (by rw[l];simp only[kH];omega)⟩
   ·obtain⟨L,j,ad,D⟩:=hb M;obtain⟨τ',f⟩:=Way.bind D I.walk;refine .inl (cX.book (r':=.cl .w1) (τ':=τ') cy dj fD hX hT ep p (by rw[m];exact j) (.refl Wg w) ep (sf O o B (by omega)) (by rw[v,a];exact .HF I f) (by rw[e];simp) λb q A E _=>?_);have l:b (m0+n)=.cl (.w2 vs):=by rw[A _ (by rw[e];simp)];exact e
    refine⟨q.se l trivial trivial (by simp),iG H (by rw[l];simp only[kH];omega)⟩
  ·exact .inl h
 |JM h=>
  rcases cX.idle (sl:=sl) cy dj fD hX hT ep (k:=m0+n) p (by rw[m,C,a];exact h) u e (by simp) (by simp) y (λJ z g w h=>by rw[v,a];rw[m,a]at h;exact .JM h)with⟨_,L,j,τ',f⟩|h
  ·refine .inl (cX.book (r':=.cl .w3) (τ':=τ') cy dj fD hX hT ep p (by rw[m];exact j) (.refl Wg w) ep (xz (w:=true) O o U B) (by rw[v,a];exact .HG f) (by rw[e];simp) λb q A E _=>?_);have l:b (m0+n)=.cl .sw:=by rw[A _ (by rw[e];simp)];exact e
   exact⟨q.MN l trivial trivial (by simp),iG H (by rw[l];simp only[kH];omega)⟩
  ·exact .inl h
 |HG h=>
  rcases cX.BL (sl:=sl) cy dj fD hX hT ep (k:=m0+n) p (by rw[m,C,a];exact h) u e (by simp) (by simp) y (λJ z g w h=>by rw[v,a];rw[m,a]at h;exact .HG h)with N|h
  ·have F:=N w (.refl _ _ _ _);rw[C]at F;obtain⟨_,ah,Z,hb⟩:=F;rcases dj.xy e with h0|⟨rfl,rfl,_⟩
   ·subst h0;refine .inr (.inr ⟨rfl,Z ⟨_,ep⟩,λw1 af=>?_,rfl,rfl⟩);have:=N w1 (by rw[C,a];exact af);rwa[C]at this
   ·obtain⟨L,j,τ',f⟩:=hb ep;refine .inl (cX.book (r':=.cl .w4) (τ':=τ') cy dj fD hX hT ep p (by rw[m];exact j) (aside_setCell w (smA Wg) _) (ep.setSm 0) (BK O o B) (by rw[v,a,C];exact .JN f) (by rw[e];simp) λb q A E _=>?_);have l:b (m0+n)=.cl .w3:=by rw[A _ (by rw[e];simp)];exact e
    rcases q.xy l with x|⟨_,_,x⟩
    ·cases x
    ·exact⟨x,iG H (by rw[l];simp only[kH];omega)⟩
  ·exact .inl h
 |HH h=>cases K
 |JN h=>
  rcases cX.idle (sl:=sl) cy dj fD hX hT ep (k:=m0+n) p (by rw[m,C,a];exact h) u e (by simp) (by simp) y (λJ z g w h=>by rw[v,a];rw[m,a]at h;exact .JN h)with⟨_,W⟩|h
  ·obtain⟨_,R,Y⟩:=dj.mode.ofFin (by rw[e];trivial);subst R Y;obtain⟨L,j,τ',f⟩:=W ep;refine .inl (cX.book (r':=.cl .ke) (τ':=τ') cy dj fD hX hT ep p (by rw[m];exact j) (.refl Wg w) ep (sf O o B (by omega)) (by rw[v,a];exact .HI f) (by rw[e];simp) λb q A E _=>?_);have l:b (m0+n)=.cl .w4:=by rw[A _ (by rw[e];simp)];exact e
   exact⟨q.BJ (c':=.ke) l trivial trivial (by have:=q.clq;rw[l]at this;simpa using this) (.inl rfl),iG H (by rw[l];simp only[kH];omega)⟩
  ·exact .inl h
 |HI h=>
  rcases cX.idle (sl:=sl) cy dj fD hX hT ep (k:=m0+n) p (by rw[m,C,a];exact h) u e (by simp) (by simp) y (λJ z g w h=>by rw[v,a];rw[m,a]at h;exact .HI h)with⟨_,L,j,τ',f⟩|h
  ·refine .inl (cX.book (r':=.cl .ac) (τ':=τ') cy dj fD hX hT ep p (by rw[m];exact j) (.refl Wg w) ep (lP (e:=mk .enable) rfl trivial) (by rw[v,a];exact .JO f) (by rw[e];simp) λb q A E _=>?_);have l:b (m0+n)=.cl .ke:=by rw[A _ (by rw[e];simp)];exact e
   exact⟨q.BJ (c':=.ac) l trivial trivial (by have:=q.clq;rw[l]at this;simpa using this) (.inl rfl),iG H (by rw[l];simp only[kH];omega)⟩
  ·exact .inl h
 |JO h=>
  rcases cX.idle (sl:=sl) cy dj fD hX hT ep (k:=m0+n) p (by rw[m,C,a];exact h) u e (by simp) (by simp) y (λJ z g w h=>by rw[v,a];rw[m,a]at h;exact .JO h)with⟨_,L,j,τ',f⟩|h
  ·refine .inl (cX.book (r':=.cl .cl) (τ':=τ') cy dj fD hX hT ep p (by rw[m];exact j) (.refl Wg w) ep (lP (e:=mk (.acquire (stA Wg))) rfl B) (by rw[v,a];exact .JP f) (by rw[e];simp) λb q A E _=>?_);have l:b (m0+n)=.cl .ac:=by rw[A _ (by rw[e];simp)];exact e
   exact⟨q.BJ (c':=.cl) l trivial trivial (by have:=q.clq;rw[l]at this;simpa using this) (.inl rfl),iG H (by rw[l];simp only[kH];omega)⟩
  ·exact .inl h
 |JP h=>
  rcases cX.idle (sl:=sl) cy dj fD hX hT ep (k:=m0+n) p (by rw[m,C,a];exact h) u e (by simp) (by simp) y (λJ z g w h=>by rw[v,a];rw[m,a]at h;exact .JP h)with F|h
  ·exact .inr (.inl ⟨rfl,by rw[C]at F;exact F,rfl⟩)
  ·exact .inl h
 |Hn h=>exact .inl (cX.slip cy dj fD hX hT ep p (by omega) (by simp) h K u v e λ_ _ _ _ h=>.Hn h)
end
end Go.ck.Cr
namespace Go.ck.Kn
open Go.Conc Go.ck
theorem iL{t u:Trace}(g:∀e∈u,e.act.touch?=none){i:Nat}{a:Touch}(h:touchAt (t++u) i=some a):i<t.size/\touchAt t i=some a:=by
 obtain⟨e,f,b⟩:=touch_of h;rcases getElem?_append_cases f with⟨j,c⟩|⟨_,d⟩
 ·exact⟨j,by rw[touchAt_of c];exact b⟩
 ·rw[g e d]at b;cases b
def Gh.child(G:Gh)(k sy:Nat)(give:Nat->Prop):Gh where
 own:=λx b=>if x=0 then G.own 0 b/\¬give b else if x=k then False else G.own x b
 rd:=λx b=>if x=k then G.rd 0 b\/give b else G.rd x b
 wg:=G.wg
 user:=λx=>G.user x\/x=k
 sayer:=sy
 x:=G.x
 done:=G.done
 t0:=G.t0
theorem Gh.Fits.child{G:Gh}{n k sy:Nat}{give:Nat->Prop}(h:G.Fits n)(r:k≠0)(s:¬G.done k)(j:sy=G.sayer\/sy=k)(l:∀b,give b->G.own 0 b):(G.child k sy give).Fits n:=by
 have f:∀x b,(G.child k sy give).own x b->G.own x b/\(x=0->¬give b)/\x≠k:=by
  intro x b a;simp only[Gh.child]at a;split at a
  ·next e=>subst e;exact⟨a.1,λ_=>a.2,λe=>r e.symm⟩
  ·next t=>
   split at a
   ·exact a.elim
   ·next u=>exact⟨a,λe=>absurd e t,u⟩
 have i:∀x b,(G.child k sy give).rd x b->(x≠k/\G.rd x b)\/(x=k/\(G.rd 0 b\/give b)):=by
  intro x b a;simp only[Gh.child]at a;split at a
  ·next e=>exact .inr ⟨e,a⟩
  ·next e=>exact .inl ⟨e,a⟩
 refine⟨λx b a=>h.own x b (f x b a).1,λx b a=>?_,h.wg,λx y b d c=>h.one x y b (f x b d).1 (f y b c).1,λx y b d c=>?_,λx b d c=>h.ownwg x b (f x b d).1 c,λx b d c=>?_,λx p=>?_⟩
 ·rcases i x b a with⟨_,a⟩|⟨_,a|a⟩
  ·exact h.rd x b a
  ·exact h.rd 0 b a
  ·exact h.own 0 b (l b a)
 ·obtain⟨g,m,q⟩:=f x b d;rcases i y b c with⟨_,a⟩|⟨_,a|a⟩
  ·exact h.still x y b g a
  ·exact h.still x 0 b g a
  ·have:=h.one x 0 b g (l b a);exact m this a
 ·rcases i x b d with⟨_,a⟩|⟨_,a|a⟩
  ·exact h.rdwg x b a c
  ·exact h.rdwg 0 b a c
  ·exact h.ownwg 0 b (l b a) c
 ·have o:x≠k:=λe=>s (e▸p);obtain⟨g,m,q,v⟩:=h.done x p;refine⟨g,?_,λb a=>q b (f x b a).1,λb a=>?_⟩
  ·rcases j with e|e
   ·exact e▸m
   ·show sy≠x;omega
  ·rcases i x b a with⟨_,a⟩|⟨e,_⟩
   ·exact v b a
   ·exact o e
theorem dP.child{G:Gh}{n k sy:Nat}{t:Trace}{give:Nat->Prop}{x y:MemOp}(h:dP G n t)(s:x.g=0/\x.act=.go k)(u:y.g=k/\y.act=.start)(H:Deaf t 0=0)(I:Deaf t k=0)(v:G.user 0) (w:sy=G.sayer\/(sy=k/\G.sayer=0))(J:∀b,give b->G.own 0 b)(K:k≠0):dP (G.child k sy give) n (t++#[x,y]):=by
 have o:∀j∈#[x,y],j=x\/j=y:=by intro j f;simpa using f
 have A:∀j∈#[x,y],j.act.touch?=none:=by
  intro j f;rcases o j f with rfl|rfl
  ·rw[s.2];rfl
  ·rw[u.2];rfl
 have q:dP G n (t++#[x,y]):=h.BG A λj f=>by
  rcases o j f with rfl|rfl
  ·rw[s.2];trivial
  ·rw[u.2];trivial
 have r:∀{i},Knows t 0 i->Knows (t++#[x,y]) k i:=λL=>xv s u H I L;refine q.xt (λz b c i a l d=>?_) (λz b c i a l d F=>?_) (λb c i a l d=>?_) rfl λz i p a l B C=>?_
 ·simp only[Gh.child]at c;split at c
  ·next e=>subst e;exact q.own i a 0 b l d c.1
  ·split at c
   ·exact c.elim
   ·exact q.own i a z b l d c
 ·simp only[Gh.child]at c;split at c
  ·next e=>
   subst e;obtain⟨_,m⟩:=iL A l;rcases c with c|c
   ·exact r (h.rd i a 0 b m d c F)
   ·exact r (h.own i a 0 b m d (J b c))
  ·exact q.rd i a z b l d c F
 ·obtain⟨_,m⟩:=iL A l;rcases h.wg i a b m d c with e|⟨e,D⟩|e
  ·exact .inl e
  ·refine .inr (.inl ⟨e,?_⟩);show Knows _ sy i;rcases w with E|⟨E,M⟩
   ·rw[E];exact D.app _
   ·rw[E];rw[M]at D;exact r D
  ·refine .inr (.inr λz p=>?_);rcases p with p|p
   ·exact(e z p).app _
   ·rw[p];exact r (e 0 v)
 ·exact q.told i a z l B C p
def Gh.hand(G:Gh)(j:Nat):Gh where
 own:=λx b=>if x=0 then G.own 0 b\/G.own j b else if x=j then False else G.own x b
 rd:=λx b=>if x=j then False else G.rd x b
 wg:=G.wg
 user:=G.user
 sayer:=G.sayer
 x:=G.x
 done:=λx=>G.done x\/x=j
 t0:=G.t0
theorem Gh.Fits.hand{G:Gh}{n j:Nat}(h:G.Fits n)(l:j≠0)(m:G.sayer≠j):(G.hand j).Fits n:=by
 have g:∀x b,(G.hand j).own x b->(x=0/\(G.own 0 b\/G.own j b))\/(x≠0/\x≠j/\G.own x b):=by
  intro x b c;simp only[Gh.hand]at c;split at c
  ·next e=>exact .inl ⟨e,c⟩
  ·next o=>
   split at c
   ·exact c.elim
   ·next p=>exact .inr ⟨o,p,c⟩
 have i:∀x b,(G.hand j).rd x b->G.rd x b/\x≠j:=by
  intro x b c;simp only[Gh.hand]at c;split at c
  ·exact c.elim
  ·next e=>exact⟨c,e⟩
 refine⟨λx b c=>?_,λx b c=>h.rd x b (i x b c).1,h.wg,λx y b a d=>?_,λx y b a d=>?_,λx b a d=>?_,λx b a d=>h.rdwg x b (i x b a).1 d,λx f=>?_⟩
 ·rcases g x b c with⟨_,a|a⟩|⟨_,_,a⟩
  ·exact h.own 0 b a
  ·exact h.own j b a
  ·exact h.own x b a
 ·rcases g x b a with⟨rfl,a|a⟩|⟨s,q,a⟩<;>rcases g y b d with⟨rfl,d|d⟩|⟨t,r,d⟩
  ·rfl
  ·rfl
  ·exact h.one _ _ _ a d
  ·rfl
  ·rfl
  ·exact absurd (h.one _ _ _ a d).symm r
  ·exact h.one _ _ _ a d
  ·exact absurd (h.one _ _ _ a d) q
  ·exact h.one _ _ _ a d
 ·rcases g x b a with⟨_,a|a⟩|⟨_,_,a⟩
  ·exact h.still 0 y b a (i y b d).1
  ·exact h.still j y b a (i y b d).1
  ·exact h.still x y b a (i y b d).1
 ·rcases g x b a with⟨_,a|a⟩|⟨_,_,a⟩
  ·exact h.ownwg _ _ a d
  ·exact h.ownwg _ _ a d
  ·exact h.ownwg _ _ a d
 ·have k:x≠0:=by
   rcases f with f|rfl
   ·exact(h.done x f).1
   ·exact l
  refine⟨k,?_,λb c=>?_,λb c=>?_⟩
  ·rcases f with f|rfl
   ·exact(h.done x f).2.1
   ·exact m
  ·rcases g x b c with⟨e,_⟩|⟨_,e,c⟩
   ·exact k e
   ·rcases f with f|f
    ·exact(h.done x f).2.2.1 b c
    ·exact e f
  ·obtain⟨c,e⟩:=i x b c;rcases f with f|f
   ·exact(h.done x f).2.2.2 b c
   ·exact e f
theorem dP.hand{G:Gh}{n j c s cap:Nat}{t:Trace}{p q r u:MemOp}(h:dP G n t)(B:p.g=j/\p.act=.send c s)(C:q.g=0/\q.act=.recv c s cap)(D:r.g=j/\r.act=.sendDone c s)(E:u.g=0/\u.act=.recvDone c s) (L:Deaf t j=0)(F:Deaf t 0=0)(A:c<n):dP (G.hand j) n (t++#[p,q,r,u]):=by
 have v:∀l∈#[p,q,r,u],l=p\/l=q\/l=r\/l=u:=by intro l f;simpa using f
 have H:∀l∈#[p,q,r,u],l.act.touch?=none:=by
  intro l f;rcases v l f with rfl|rfl|rfl|rfl
  ·rw[B.2];rfl
  ·rw[C.2];rfl
  ·rw[D.2];rfl
  ·rw[E.2];rfl
 have w:dP G n (t++#[p,q,r,u]):=h.BG H λl f=>by
  rcases v l f with rfl|rfl|rfl|rfl
  ·rw[B.2];exact A
  ·rw[C.2];exact A
  ·rw[D.2];exact A
  ·rw[E.2];exact A
 have K:∀{i},Knows t j i->Knows (t++#[p,q,r,u]) 0 i:=λI=>vR B C D E L F I;refine w.xt (λz b d i a m k=>?_) (λz b d i a m k M=>?_) (λb d i a m k=>w.wg i a b m k d) rfl λz i x a m y o=>?_
 ·simp only[Gh.hand]at d;split at d
  ·next e=>
   subst e;rcases d with d|d
   ·exact w.own i a 0 b m k d
   ·exact K (h.own i a j b (iL H m).2 k d)
  ·split at d
   ·exact d.elim
   ·exact w.own i a z b m k d
 ·simp only[Gh.hand]at d;split at d
  ·exact d.elim
  ·exact w.rd i a z b m k d M
 ·rcases x with(x|rfl)|x
  ·exact w.told i a z m y o (.inl x)
  ·obtain⟨I,N⟩:=iL H m;rw[g?_old I]at o;obtain⟨l,f,J⟩:=Option.map_eq_some_iff.1 o;have:=knows_own f;rw[J]at this;exact .inl (K this)
  ·exact w.told i a z m y o (.inr x)
theorem lf{t:Trace}(k:Nat):∀(l:List MemOp),(∀a∈l,a.act≠ .mark .disable/\a.act≠ .mark .enable)->Deaf (t++l.toArray) k=Deaf t k:=by
 intro l c;rw[Deaf_append];generalize Deaf t k=d;induction l with
 |nil=>rfl
 |cons y l f=>
  have g:deafStep k d y=d:=by
   have:=c y (by simp);unfold deafStep;split
   ·next e=>exact absurd e this.1
   ·next e=>exact absurd e this.2
   ·rfl
  rw[List.foldl_cons,g];exact f λa b=>c a (by simp[b])
theorem dP.shut{G:Gh}{n c p D:Nat}{t:Trace}{y:MemOp}(h:dP G n t)(N:t.act? p=some (.close c))(O:t.heard p)(E:t.g? p=some D)(F:∀i a,G.t0<=i->touchAt t i=some a->a.loc.isMemory=true->t.g? i=some D->i<p)
 (s:y.g=0/\y.act=.recvClosed c)(L:Deaf t 0=0)(P:c<n)(u:∀i g,G.t0<=i->t.g? i=some g->g=0\/G.done g\/g=D):Past (jZ λb=>G.wg b\/G.x b) n (t++#[y]):=by
 have M:∀k∈#[y],k.act.touch?=none:=by
  intro k d;have:k=y:=by simpa using d
  subst this;rw[s.2];rfl
 have v:dP G n (t++#[y]):=h.BG M λk d=>by
  have:k=y:=by simpa using d
  subst this;rw[s.2];exact P
 let Q:Gh:={own:=λ_ _=>False,rd:=λ_ _=>False,wg:=G.wg,user:=λ_=>False,sayer:=G.sayer,x:=G.x,done:=λx=>G.done x\/x=D,t0:=G.t0}
 have R:dP Q n (t++#[y]):=v.xt (λ_ _ w=>w.elim) (λ_ _ w=>w.elim) (λb w i a r H=>(v.wg i a b r H w).imp id (Or.imp id λ_ _ l=>l.elim)) rfl λz i l a r j f=>by
  rcases l with(l|rfl)|l
  ·exact v.told i a z r j f (.inl l)
  ·rcases Nat.lt_or_ge i G.t0 with m|m
   ·exact v.told i a z r j f (.inr m)
   obtain⟨o,I⟩:=iL M r;rw[g?_old o]at f;have J:=F i a m I j f;obtain⟨k,d,q⟩:=Option.map_eq_some_iff.1 f;obtain⟨S,A,B⟩:=Option.map_eq_some_iff.1 E;exact .inl (vS N O (.inr (hb_po J d A (q.trans B.symm))) s L)
  ·exact v.told i a z r j f (.inr l)
 have T:Deaf (t++#[y]) 0=0:=by have:=lf (t:=t) 0 [y] (by simp[s.2]);exact this.trans L
 refine R.past (λi g K=>?_) T;rcases Nat.lt_or_ge i G.t0 with m|m
 ·exact .inr (.inr m)
 rcases Nat.lt_or_ge i t.size with o|U
 ·rw[g?_old o]at K;rcases u i g m K with e|e|e
  ·exact .inl e
  ·exact .inr (.inl (.inl e))
  ·exact .inr (.inl (.inr e))
 ·obtain⟨k,d,q⟩:=Option.map_eq_some_iff.1 K;rcases getElem?_append_cases d with⟨x,_⟩|⟨_,C⟩
  ·omega
  ·have:k=y:=by simpa using C
   subst this;exact .inl (q▸s.1)
end Go.ck.Kn
