/- Laws that the proof needs, part 3. Conditions: none. -/
import Derived.Test.YteeagjkaflglpaaGreatX02
set_option maxRecDepth 100000
set_option maxHeartbeats 8000000
set_option linter.all false
namespace Go.ck
section
variable{P:Program}{ρ:cx}{v u:World}{cs:List Frame}
theorem eQ.length{X X':List Frame}(h:eQ P ρ X X'):X.length=X'.length:=by
 induction h with
 |nil=>rfl
 |cons _ _ a=>simp[a]
theorem cH.still(w:WR ρ v u){b a:Goroutine}(h:mD P ρ cs b a){es:Array Event}:cH P ρ v u cs (.go b v es) (.go a u):=
 .inr ⟨ρ,a,u,#[],rfl,dG.refl w,h⟩
theorem cH.run{α n:Type}{A:cx->α->n->Prop}{s:Sem α}{s':Sem n}(w:WR ρ v u)(h:SR P A ρ s s'):(∃j v1 es,s.runT P v #[]=(.halt j v1,es)/\j.dead=true)\/(∃a b v1 e c es d,s.runT P v #[]=(.ok a v1,es)/\s'.runT (P.fj ρ.fs) u #[]=(.ok b e,d)/\A c a b/\dG ρ c v u v1 e d)\/(∃a b v1 e c es d,s.runT P v #[]=(.halt (.panic a) v1,es)/\s'.runT (P.fj ρ.fs) u #[]=(.halt (.panic b) e,d)/\(VR c a b/\qB c a)/\dG ρ c v u v1 e d):=by
 have g:=h.run w #[] #[];unfold iR at g;generalize s.runT P v #[]=r at g⊢;obtain⟨r,i⟩:=r;cases r with
 |ok a v1=>
  obtain⟨b,e,c,f,k,l,m⟩:=g;exact .inr (.inl ⟨a,b,v1,e,c,i,f,rfl,by simpa using k,l,m⟩)
 |halt j v1=>
  cases j with
  |panic x=>
   obtain⟨b,e,c,f,k,l,m⟩:=g;exact .inr (.inr ⟨x,b,v1,e,c,i,f,rfl,by simpa using k,l,m⟩)
  |_=>exact .inl ⟨_,_,_,rfl,g⟩
theorem cH.after{b:cx}{v1 j:World}{s s':GStep}{f a c:Array Event}(w:WR ρ v u)(m:dG ρ b v u v1 j c)(d:∀e∈a,e∈c)(k:cH P b v1 j cs s s'):cH P ρ v u cs (GStep.after f s) (GStep.after a s'):=by
 cases s with
 |go t x l=>
  rcases k with n|⟨g,h,p,i,rfl,q,r⟩
  ·exact .inl n
  ·exact .inr ⟨g,h,p,a++i,rfl,(m.sub d).trans w q,r⟩
 |ended o y l=>trivial
 |_=>exact k.elim
theorem gi.kind{f:FuncId}{k a:List Item}(h:gi P ρ f k a):(match k with| .call _ true _ _::_=>CallKind.wrapped|_=>.normal)=.normal/\(match a with| .call _ true _ _::_=>CallKind.wrapped|_=>.normal)=.normal:=by
 cases h with
 |nil=>exact⟨rfl,rfl⟩
 |cons h _=>cases h<;>exact⟨rfl,rfl⟩
theorem mD.mk'{fr a:Frame}{X X':List Frame}(h:cM P ρ fr a)(b:eQ P ρ X X'):mD P ρ cs {frame:=fr,callers:=X++[floor],status:=.running,dying:=none} {frame:=a,callers:=X'++cs,status:=.running,dying:=none}:=
 ⟨.fr h,⟨X,X',rfl,rfl,b⟩,⟨rfl,rfl⟩,⟨rfl,rfl⟩,⟨rfl,rfl⟩⟩
theorem mD.top{fr a:Frame}{X X':List Frame}(h:Ac P ρ fr a)(b:eQ P ρ X X'):mD P ρ cs {frame:=fr,callers:=X++[floor],status:=.running,dying:=none} {frame:=a,callers:=X'++cs,status:=.running,dying:=none}:=
 ⟨h,⟨X,X',rfl,rfl,b⟩,⟨rfl,rfl⟩,⟨rfl,rfl⟩,⟨rfl,rfl⟩⟩
theorem BE{l l':Nat}{f:FuncId}{xs xs':Array Value}{a b:Code}(c:ρ.r l l')(d:ρ.S f=true)(e:ρ.hole f=false)(g:ρ.df f=false)(i:ρ.ok f a=true)(j:ρ.ok f b=true)(h:dz ρ xs xs')(k:CallKind):cM P ρ (Frame.round l f xs a b k) (Frame.round l' f xs' a b k):=
 ⟨rfl,⟨d,e⟩,h,.cons (.code i) (.cons .beginRound (.cons (.code j) .nil)),.nil,.run,rfl,.inr ⟨l,l',rfl,rfl,c,g⟩⟩
theorem vP(E:Good P ρ)(w:WR ρ v u){fr d:Frame}{X X':List Frame}(h:cM P ρ fr d)(C:eQ P ρ X X'){s s':Sem Next}(F:SN P ρ s s'):cH P ρ v u cs (stepG.apply P true fr (X++[floor]) none s v) (stepG.apply (P.fj ρ.fs) true d (X'++cs) none s' u):=by
 have i:∀(r:Array Event),∀e∈seen (P.fj ρ.fs) d.fn (if(d.kind==CallKind.early)=true then #[]else r),e∈r:=by
  intro r e G;have:=gJ G;split at this
  ·simp at this
  ·exact this
 unfold stepG.apply;rcases cH.run w F with⟨t,D,es,e,o⟩|⟨a,b,D,H,x,es,g,e,y,l,m⟩|⟨a,b,D,H,x,es,g,e,y,l,m⟩
 ·simp only[if_true,e];cases t with
  |stuck s=>trivial
  |unsupported I=>cases I<;>first|trivial|cases o
  |_=>cases o
 ·simp only[if_true,e,y];have z:=E.mono m.le;have p:=h.mono m.le;have j:=C.mono m.le;cases l with
  |value J=>exact cH.after w m (i g) (cH.still m.rel (mD.mk' (p.finish J) j))
  |skip=>exact cH.after w m (i g) (cH.still m.rel (mD.mk' (p.finish .undef) j))
  |enter K A=>
   refine cH.after w m (i g) ?_;have q:=cH.still (es:=#[]) m.rel (mD.top (cs:=cs) (X:=fr::X) (X':=d::X') (m.le.f▸nF z K A .normal (.inl rfl)) (.cons p j));have n:=h.todo;generalize fr.todo=k at n⊢;generalize d.todo=R at n⊢;cases n with
   |nil=>exact q
   |cons L _=>cases L<;>exact q
  |round M N t o O Q A=>
   exact cH.after w m (i g) (cH.still m.rel (mD.mk' (X:=fr::X) (X':=d::X') (BE M N t o O Q A .normal) (.cons p j)))
  |defer o B=>
   exact cH.after w m (i g) (cH.still m.rel (mD.mk' ((p.ju (.cons o (.inl B) p.defers)).finish .undef) j))
 ·simp only[if_true,e,y];exact cH.after w m (i g) (cH.still m.rel (mD.mk' ((h.mono m.le).raise (c:=[{v:=a,recovered:=false}]) (c':=[{v:=b,recovered:=false}]) (.cons ⟨l.1,rfl,rfl,l.2⟩ .nil)) (C.mono m.le)))
theorem rW(w:WR ρ v u){fr j:Frame}{X X':List Frame}(h:cM P ρ fr j)(g:eQ P ρ X X'){x y:Value}(z:VR ρ x y)(main i:Bool):cH P ρ v u cs (doReturn P main fr (X++[floor]) none x v) (doReturn (P.fj ρ.fs) i j (X'++cs) none y u):=by
 have C:=h.kind;cases g with
 |nil=>
  simp only[List.nil_append,doReturn];cases o:fr.kind;all_goals simp only[]
  all_goals exact .inl ⟨rfl,rfl,rfl,rfl,.inl rfl⟩
 | @cons c k X X' e g=>
  simp only[List.cons_append,doReturn];rw[<-C];have f:cM P ρ (match c.mode with
     | .panicking ({recovered:=true,..}::d)=>
      match d.dropWhile (!·.goexit)with
      |[]=>{c with mode:=.returning}
      |rest=>{c with mode:=.panicking rest}
     |_=>c)
   (match k.mode with
     | .panicking ({recovered:=true,..}::d)=>
      match d.dropWhile (!·.goexit)with
      |[]=>{k with mode:=.returning}
      |rest=>{k with mode:=.panicking rest}
     |_=>k):=by
   have q:=e.mode
   have r:∀{l n:List PanicEntry},hZ ρ l n->hZ ρ (l.dropWhile (!·.goexit)) (n.dropWhile (!·.goexit)):=by
    intro l n h;induction h with
    |nil=>exact .nil
    |cons h t D=>
     simp only[List.dropWhile_cons,<-h.ge];split
     ·exact D
     ·exact .cons h t
   revert q;generalize E:c.mode=N;generalize A:k.mode=F;intro q;cases q with
   |run=>exact e
   |returning=>exact e
   |panicking s=>
    cases s with
    |nil=>exact e
    | @cons p G l n H I=>
     obtain⟨O,J,Q⟩:=p;obtain⟨K,L,M⟩:=G;obtain⟨_,B,_⟩:=H;simp only at B;subst B;cases J with
     |false=>exact e
     |true=>
      dsimp only;have:=r I;revert this;generalize l.dropWhile (!·.goexit)=m;generalize n.dropWhile (!·.goexit)=R;intro this;cases this with
      |nil=>exact e.xo .returning
      |cons a b=>exact e.xo (.panicking (.cons a b))
  cases o:fr.kind
  all_goals simp only[]
  ·exact cH.still w (mD.mk' (e.finish z) g)
  ·exact cH.still w (mD.mk' f g)
  ·exact cH.still w (mD.mk' (e.finish z) g)
  ·exact cH.still w (mD.mk' f g)
  ·exact cH.still w (mD.mk' e g)
theorem cH.ite{c:Prop} [Decidable c]{a b s':GStep}(d:c->cH P ρ v u cs a s')(e:¬c->cH P ρ v u cs b s'):cH P ρ v u cs (if c then a else b) s':=by
 split
 ·exact d ‹_›
 ·exact e ‹_›
theorem jw(t:Good P ρ)(w:WR ρ v u){fr i:Frame}{X X':List Frame}(h:cM P ρ fr i)(C:eQ P ρ X X'){d D:Deferred}(n:nV ρ d D)(o:ρ.Def):cH P ρ v u cs (callDeferred P fr (X++[floor]) none d v) (callDeferred (P.fj ρ.fs) i (X'++cs) none D u):=by
 have j:∀(r:Array Event),∀e∈seen (P.fj ρ.fs) i.fn r,e∈r:=λr e G=>gJ G;unfold callDeferred;refine cH.ite (λ_=>trivial) λH=>?_
 ·rw[if_neg (by
   intro I;apply H;revert I;have x:=h.mode;revert x;generalize fr.mode=m;generalize i.mode=R;intro x;cases n<;>cases x<;>simp)]
  rcases cH.run w (SR.invoke t.fit t.two n)with⟨y,E,F,e,n⟩|⟨a,b,E,J,z,F,g,e,A,l,m⟩|⟨a,b,E,J,z,F,g,e,A,l,m⟩
  ·simp only[e];cases y with
   |stuck s=>trivial
   |unsupported K=>cases K<;>first|trivial|cases n
   |_=>cases n
  ·simp only[e,A];have p:=t.mono m.le;have q:=h.mono m.le;have k:=C.mono m.le;cases l with
   |value S=>exact cH.after w m (j g) (cH.still m.rel (mD.mk' q k))
   |skip=>exact cH.after w m (j g) (cH.still m.rel (mD.mk' q k))
   |enter L B=>exact cH.after w m (j g) (cH.still m.rel (mD.top (X:=fr::X) (X':=i::X') (m.le.f▸nF p L B .deferred (.inr (p.dh (o.mono m.le) _))) (.cons q k)))
   |round M N y n O Q B=>exact cH.after w m (j g) (cH.still m.rel (mD.mk' (X:=fr::X) (X':=i::X') (BE M N y n O Q B .deferred) (.cons q k)))
   |defer n _=>exact cH.after w m (j g) (cH.still m.rel (mD.mk' q k))
  ·simp only[e,A];exact cH.after w m (j g) (cH.still m.rel (mD.mk' ((h.mono m.le).raise (c:=[{v:=a,recovered:=false}]) (c':=[{v:=b,recovered:=false}]) (.cons ⟨l.1,rfl,rfl,l.2⟩ .nil)) (C.mono m.le)))
theorem SR.results{fn:Func}{p g:Array Value}(h:dz ρ p g):SV P ρ (results fn p) (results fn g):=by
 unfold Go.results
 have u:∀(l:List ResultVar) {i:cx},cx.Le ρ i->SR P (λρ a b=>mu ρ a b) i
  (l.mapM λx=>match x with| .tmp t=>Pure.pure (p.getD t undef)| .cell a t=>do Go.loadVar t (<-Go.asAddr (p.getD a undef)))
  (l.mapM λx=>match x with| .tmp t=>Pure.pure (g.getD t undef)| .cell a t=>do Go.loadVar t (<-Go.asAddr (g.getD a undef))):=by
  intro l;induction l with
  |nil=>intro i k;rw[List.mapM_nil,List.mapM_nil];exact .cW .nil
  |cons x l v=>
   intro i k;rw[List.mapM_cons,List.mapM_cons]
   have w:SV P i (match x with| .tmp t=>Pure.pure (p.getD t undef)| .cell a t=>do Go.loadVar t (<-Go.asAddr (p.getD a undef))) (match x with| .tmp t=>Pure.pure (g.getD t undef)| .cell a t=>do Go.loadVar t (<-Go.asAddr (g.getD a undef))):=by
    cases x with
    |tmp t=>exact .cW ((h.mono k).getD .undef t)
    |cell a t=>exact(SR.asAddr ((h.mono k).getD .undef a)).cG λ_ _ _ _ y=>SR.loadVar t y
   refine SR.cG w λj a b m e=>?_;refine SR.cG (v (k.trans m)) λr c d n s=>?_;exact .cW (.cons (e.mono n) s)
 rw[Array.mapM_eq_mapM_toList,Array.mapM_eq_mapM_toList];refine SR.cG (A:=λρ a b=>dz ρ a b) (SR.cG (f:=λl=>Pure.pure l.toArray) (f':=λl=>Pure.pure l.toArray) (u fn.results.toList (.refl _)) λj a b _ e=>.cW e.array) λj a b _ e=>?_;refine .cW ?_;by_cases q:a.size=1
 ·have o:b.size=1:=e.size▸q;rw[dif_pos q,dif_pos o];exact e.at_ 0 _ _ (Array.getElem?_eq_getElem (by omega)) (Array.getElem?_eq_getElem (by omega))
 ·have o:¬b.size=1:=e.size▸q;rw[dif_neg q,dif_neg o];exact e.Pb
theorem EL(q:Good P ρ)(w:WR ρ v u){fr g:Frame}{X X':List Frame}(h:cM P ρ fr g)(o:eQ P ρ X X')(main i:Bool):cH P ρ v u cs (unwind P main fr (X++[floor]) none v) (unwind (P.fj ρ.fs) i g (X'++cs) none u):=by
 have D:∀(r:Array Event),∀e∈seen (P.fj ρ.fs) g.fn r,e∈r:=λr e E=>gJ E;unfold unwind;have s:=h.defers;revert s;generalize fr.defers=N;generalize g.defers=F;intro s;cases s with
 |nil=>
  dsimp only;have G:=h.mode;have y:=h.fn;revert G;generalize O:fr.mode=m;generalize L:g.mode=W;intro G;cases G with
  |run=>trivial
  |panicking R=>
   dsimp only;have p:∀{fr:Frame} {Q:Program},(∃fn,Q.funcs[fr.fn]? =some fn)->fr.catches Q=false:=by rintro fr Q ⟨fn,j⟩;unfold Frame.catches;rw[j]
   obtain⟨fn,c,j,_,_⟩:=q.fit.fn _ h.fnS.1;obtain⟨t,S,H,_,_,_⟩:=q.two.fn _ h.fnS.1;rw[p ⟨fn,j⟩,p (fr:=g) (Q:=P.fj ρ.fs) ⟨t,y▸H⟩];simp only[Bool.false_eq_true,if_false];cases o with
   |nil=>exact .inl ⟨rfl,rfl,rfl,rfl,.inr ⟨_,rfl⟩⟩
   |cons I o=>exact cH.still w (mD.mk' (I.raise R) o)
  |returning=>
   dsimp only;obtain⟨fn,c,j,_,_⟩:=q.fit.fn _ h.fnS.1;obtain⟨t,S,H,_,_,T⟩:=q.two.fn _ h.fnS.1;obtain rfl:fn=t:=by rw[T h.fnS.2]at j;exact(Option.some.inj j).symm
   rw[<-y,j,show(P.fj ρ.fs).funcs[fr.fn]? =some fn from H];dsimp only;rcases cH.run w (SR.results (fn:=fn) h.tmps)with⟨M,z,A,e,s⟩|⟨a,b,z,J,x,A,l,e,B,k,m⟩|⟨a,b,z,J,x,A,l,e,B,k,m⟩
   ·rw[e];cases M<;>trivial
   ·rw[e,B];rw[m.le.f];exact cH.after w m (λe E=>gJ E) (rW m.rel (h.mono m.le) (o.mono m.le) k main i)
   ·rw[e];trivial
 | @cons d Y N F s K n=>
  cases s with
  |collected U=>
   dsimp only;rcases cH.run w (SR.takeDeferred U)with⟨M,z,A,e,s⟩|⟨a,b,z,J,x,A,l,e,B,k,m⟩|⟨a,b,z,J,x,A,l,e,B,k,m⟩
   ·rw[e];trivial
   ·rw[e,B];obtain⟨rfl,rfl⟩:=k;exact cH.after w m (D l) (cH.still m.rel (mD.mk' ((h.mono m.le).ju (n.mono m.le)) (o.mono m.le)))
   ·rw[e];trivial
  |fn V j C=>exact jw q w (h.ju n) o (.fn V j C) (K.resolve_right λ⟨_,h⟩=>by cases h)
  |yield j C=>exact jw q w (h.ju n) o (.yield j C) (K.resolve_right λ⟨_,h⟩=>by cases h)
  |nil C=>exact jw q w (h.ju n) o (.nil C) (K.resolve_right λ⟨_,h⟩=>by cases h)
theorem CM{ops:Array Oper}{e a:Array Value}(h:dz ρ e a)(j:Nat):yielded ops e j=yielded ops a j:=by
 unfold yielded;cases(ops[j]?).bind (·.dst)with
 |none=>rfl
 |some d=>
  simp only[Option.bind_some];rcases h.get? d with⟨b,c⟩|⟨v,g,b,c,f⟩
  ·rw[b,c]
  ·rw[b,c];cases f<;>rfl
theorem Ht(y:Good P ρ)(w:WR ρ v u){fr d:Frame}{X X':List Frame}(h:cM P ρ fr d)(s:eQ P ρ X X')(main g:Bool)(j:Option Code){lost lost':GStep}(z:∃o v1 es,lost=.ended o v1 es):(∀c,j=some c->∀f,ρ.ok f c=true)->cH P ρ v u cs (match fr.roundOf with
    |none=>if(match j with|none|some .ret=>true|_=>false)=true then .go {frame:={fr with mode:=.returning},callers:=X++[floor],status:=.running,dying:=none} v else lost
    |some l=>GStep.after (seen P fr.fn ((Instr.endRound l j).runT P v #[]).2)<|match((Instr.endRound l j).runT P v #[]).1 with
     | .ok x w=>doReturn P main fr (X++[floor]) none x w
     | .halt _ w=>.ended (.stuck "range over a function: no such loop" (fr.pos P)) w)
  (match d.roundOf with
    |none=>if(match j with|none|some .ret=>true|_=>false)=true then .go {frame:={d with mode:=.returning},callers:=X'++cs,status:=.running,dying:=none} u else lost'
    |some l=>GStep.after (seen (P.fj ρ.fs) d.fn ((Instr.endRound l j).runT (P.fj ρ.fs) u #[]).2)<|match((Instr.endRound l j).runT (P.fj ρ.fs) u #[]).1 with
     | .ok x w=>doReturn (P.fj ρ.fs) g d (X'++cs) none x w
     | .halt _ w=>.ended (.stuck "range over a function: no such loop" (d.pos (P.fj ρ.fs))) w):=by
 have _:=y;intro A;rcases h.round with⟨k,n⟩|⟨l,F,k,n,B,_⟩
 ·rw[k,n];dsimp only;have p:cM P ρ {fr with mode:=.returning,roundOf:=none} {d with mode:=.returning,roundOf:=none}:=⟨h.fn,h.fnS,h.tmps,h.todo,h.defers,.returning,h.kind,.inl ⟨rfl,rfl⟩⟩;refine cH.ite (λC=>?_) λ_=>?_
  ·rw[if_pos C];exact cH.still w (mD.mk' p s)
  ·obtain⟨o,v1,es,rfl⟩:=z;trivial
 ·rw[k,n];dsimp only;rcases cH.run w (SR.endRound B j A)with⟨G,v1,es,e,H⟩|⟨a,b,v1,D,q,es,r,e,t,i,m⟩|⟨a,b,v1,D,q,es,r,e,t,i,m⟩
  ·rw[e];trivial
  ·rw[e,t,m.le.f];exact cH.after w m (λe E=>gJ E) (rW m.rel (h.mono m.le) (s.mono m.le) i main g)
  ·rw[e];trivial
end
section
variable{P:Program}{ρ:cx}{v u:World}{cs:List Frame}
theorem dO(a:Good P ρ){f:FuncId}{c:Code}(h:eB P ρ.S ρ.dim (ρ.df f) c=true):ρ.ok f c=true:=by rw[a.ok];exact h
theorem nG(a:Good P ρ){c:Code}(h:(match c with| .ret| .exit _| .goto _=>true|_=>false)=true)(f:FuncId):ρ.ok f c=true:=by rw[a.ok];cases c<;>first|rfl|cases h
theorem Ky     (hG : Good P ρ) (w : WR ρ v u) {fr kR  : Frame} {X X' : List Frame} (h : cM     P ρ fr kR)  (hX : eQ      P ρ X X') (main main' : Bool) :
    cH    P ρ v u cs (stepG.exec P main true fr (X ++ [floor]) none v) (stepG.exec (P.fj  ρ.fs) main' true kR  (X' ++ cs) none u) := by
  have Me  := h.fn
  have to : ∀ {k k' : List Item}, gi     P ρ fr.fn k k' → cH    P ρ v u cs (.go { frame := { fr with todo := k }, callers := X ++ [floor], status := .running, dying := none } v) (.go { frame := { kR  with todo := k' }, callers := X' ++ cs, status := .running, dying := none } u) :=
    fun hk => cH.still    w (mD.mk'  (h.rU       hk) hX)
  have lv := fun (j : Option Code) => Ht      (cs := cs) (lost := .ended (.stuck "exit, goto: no such block or label" (fr.pos P)) v) (lost' := .ended (.stuck "exit, goto: no such block or label" (kR.pos  (P.fj  ρ.fs))) u) hG w h hX main main' j ⟨_, _, _, rfl⟩
  have Od  := hG.ok
  have rX    := h.todo
  unfold stepG.exec
  revert rX    lv
  generalize Mx  : fr.todo = k0
  generalize Kz   : kR.todo  = P6
  intro lv rX
  cases rX    with
  | nil => exact lv none (fun c e => by cases e)
  | @cons x x' k k' hx hk =>
    cases hx with
    | @code c hc =>
      have ot  := hc
      rw [Od]  at ot
      dsimp only at ot
      cases c with
      | ret => exact lv (some .ret) (fun c e => by cases e; exact nG      hG rfl)
      | skip => exact to hk
      | label l => exact to hk
      | seq a b =>
        simp only [eB,     Bool.and_eq_true] at ot
        exact to (.cons (.code (dO          hG ot.1))  (.cons (.code (dO          hG ot.2))  hk))
      | cond c a b =>
        simp only [eB,     Bool.and_eq_true] at ot
        dsimp only
        have Oe  := h.eval c ot.1.1
        revert Oe
        generalize fr.eval c = x
        generalize kR.eval  c = x'
        intro Oe
        cases Oe  with
        | bool t =>
          refine to (.cons (.code ?_) hk)
          split
          · exact dO          hG ot.1.2
          · exact dO          hG ot.2
        | _ => trivial
      | block id b =>
        exact to (.cons (.code (dO          hG ot))  (.cons (.inBlock id) hk))
      | loop b =>
        exact to (.cons (.code (dO          hG ot))  (.cons (.inLoop (dO          hG ot))  hk))
      | scope b =>
        exact to (.cons (.code (dO          hG ot))  (.cons (.inScope (dO          hG ot))  hk))
      | exit id =>
        dsimp only
        rcases hk.exitTo id with ⟨e1, e2⟩ | ⟨j, j', e1, e2, hj⟩
        · rw [e1, e2]; exact lv (some (.exit id)) (fun c e => by cases e; exact nG      hG rfl)
        · rw [e1, e2]; exact to hj
      | goto l =>
        dsimp only
        rcases hk.gotoIn hG l with ⟨e1, e2⟩ | ⟨j, j', e1, e2, hj⟩
        · rw [e1, e2]; exact lv (some (.goto l)) (fun c e => by cases e; exact nG      hG rfl)
        · rw [e1, e2]; exact to hj
      | refuse P7  => trivial
      | rangeFunc f ps a b =>
        simp only [eB,     Bool.and_eq_true] at ot
        simp only [Bool.not_eq_true'] at ot
        dsimp only
        rw [show (Instr.enterLoop kR.fn  kR.tmps  ps a b kR.roundOf)  = (Instr.enterLoop fr.fn kR.tmps  ps a b kR.roundOf)  from by rw [Me]]
        rcases cH.run    w (SR.enterLoop h.fnS.1 h.fnS.2 h.tmps ps a b (dO          hG ot.1.2)  (dO          hG ot.2)  ot.1.1.1  (h.round.imp id fun ⟨l, l', a, b, c, _⟩ => ⟨l, l', a, b, c⟩)) with ⟨hh, v1, es, e, hd⟩ | ⟨x, y, v1, u1, jr, es, Hm,  e, e', EM,  m⟩ | ⟨x, y, v1, u1, jr, es, Hm,  e, e', EM,  m⟩
        · rw [e]; trivial
        · rw [e, e']
          obtain ⟨l, mk⟩ := x
          obtain ⟨l', mk'⟩ := y
          obtain ⟨hl, My⟩  := EM
          simp only at hl My
          have Mf  := hG.mono m.le
          have h' := h.mono m.le
          have KD   : oW   jr mk mk' := by
            rcases My  with ⟨rfl, rfl⟩ | ⟨d, d', rfl, rfl, hd, hb⟩
            · exact .nil
            · exact .cons hd (.inr hb) .nil
          have Ad  : cM     P jr { fr with todo := .inRangeFunc l :: k, defers := mk ++ fr.defers } { kR  with todo := .inRangeFunc l' :: k', defers := mk' ++ kR.defers  } :=
            ⟨h'.fn, h'.fnS, h'.tmps, .cons (.inRangeFunc hl) (hk.mono m.le), KD.append   h'.defers, h'.mode, h'.kind, h'.round⟩
          refine cH.after    w m (fun e he => gJ       he) ?_
          dsimp only
          rw [m.le.f]
          refine vP      Mf  m.rel Ad  (hX.mono m.le) ?_
          unfold resolve
          dsimp only
          refine SR.cG  (SR.ofValue (Ad.eval  f (m.le.s ▸ ot.1.1.2))  (xs := _) (xs' := _) ?_) fun JD d d' hle hd => SR.invoke ((Mf.mono  hle).fit) ((Mf.mono  hle).two) hd
          simp only [List.map_toArray, List.map_cons, List.map_nil, Frame.eval]
          exact dz.one  (.yield hl)
        · rw [e]; trivial
      | region id ops draw =>
        simp only [eB,     Array.all_eq_true_iff_forall_mem] at ot
        have CN   : ∀ (i : Nat) o, ops[i]? = some o → mH     P ρ.S ρ.dim (ρ.df fr.fn) o = true := fun i o e => ot  o (Array.mem_of_getElem? e)
        dsimp only
        cases draw with
        | false => exact to (.cons (.inRegion _ CN)   hk)
        | true =>
          simp only [Bool.not_true, Bool.false_eq_true, if_false]
          rw [show Go.choose (.order kR.fn  id) = Go.choose (.order fr.fn id) from by rw [Me]]
          have Of  : SR P (fun _ (a b : Nat) => a = b) ρ (Go.choose (.order fr.fn id)) (Go.choose (.order fr.fn id)) := .choose fun n => .pure rfl
          have hr := Of.run  w #[] #[]
          unfold iR   at hr
          rw [Sem.runT_eq, Sem.runT_eq] at hr
          simp only at hr
          revert hr
          generalize (Go.choose (.order fr.fn id)).run P v = r
          intro hr
          cases r with
          | ok t v1 =>
            obtain ⟨b, u1, jr, Ri,  e1, rfl, m⟩ := hr
            have e2 : (Go.choose (.order fr.fn id)).run (P.fj  ρ.fs) u = .ok t u1 := congrArg Prod.fst e1
            rw [e2]
            have h' := h.mono m.le
            refine .inr ⟨jr, _, u1, #[], rfl, m.sub (fun e he => by simp at he), ?_⟩
            refine mD.mk'  (h'.rU       ?_) (hX.mono m.le)
            have Mz    : ∀ (i : Nat) o, ops[i]? = some o → mH     P jr.S jr.dim (jr.df fr.fn) o = true := by rw [← m.le.s, ← m.le.d, ← m.le.w]; exact CN
            exact .cons (.inRegion _ Mz)    (hk.mono m.le)
          | halt hh v1 => trivial
    | inBlock id => exact to hk
    | inScope hc => exact to hk
    | inLoop hc => exact to (.cons (.code hc) (.cons (.inLoop hc) hk))
    | inRangeFunc hl => trivial
    | beginRound =>
      dsimp only
      refine vP      hG w h hX ?_
      rcases h.round with ⟨e1, e2⟩ | ⟨l, l', e1, e2, hr, _⟩
      · rw [e1, e2]; exact .dead rfl
      · rw [e1, e2]
        exact SR.cG  (SR.beginRound hr) fun _ _ _ _ _ => .cW  .skip
    | endRangeFunc hl =>
      dsimp only
      rcases cH.run    w (SR.endLoop hl) with ⟨hh, v1, es, e, hd⟩ | ⟨x, y, v1, u1, jr, es, Hm,  e, e', EM,  m⟩ | ⟨x, y, v1, u1, jr, es, Hm,  e, e', EM,  m⟩
      · rw [e]
        cases hh <;> first | trivial | (cases hd; done)
      · rw [e, e']
        obtain ⟨rfl, hj⟩ := EM
        refine cH.after    w m (fun e he => gJ       he) (cH.still    m.rel (mD.mk'  ((h.mono m.le).rU       ?_) (hX.mono m.le)))
        cases x with
        | none => exact hk.mono m.le
        | some c => exact .cons (.code (hj c rfl _)) (hk.mono m.le)
      · rw [e, e']
        exact cH.after    w m (fun e he => gJ       he) (cH.still    m.rel (mD.mk'  ((h.mono m.le).raise (c := [{ v := x, recovered := false }]) (c' := [{ v := y, recovered := false }]) (.cons ⟨EM.1,  rfl, rfl, EM.2⟩  .nil)) (hX.mono m.le)))
    | @inRegion ops td CN   =>
      cases td with
      | nil => exact to hk
      | cons i rest =>
        dsimp only
        have hy : ((ops[i]?).map (Region.wanted · (yielded ops fr.tmps))).getD false = ((ops[i]?).map (Region.wanted · (yielded ops kR.tmps))).getD  false := by
          have : yielded ops fr.tmps = yielded ops kR.tmps  := funext (CM        h.tmps)
          rw [this]
        rw [← hy]
        refine cH.ite    (fun hc => ?_) fun hc => ?_
        · rw [if_pos hc]
          cases ho : ops[i]? with
          | none => rw [ho] at hc; cases hc
          | some o =>
            unfold stepG.oper
            have e1 : fr.oper? = some o := by simp only [Frame.oper?, Mx];  exact ho
            have e2 : kR.oper?  = some o := by simp only [Frame.oper?, Kz];   exact ho
            rw [e1, e2]
            dsimp only
            have KE  := CN   i o ho
            have hs : SN P ρ (execOp fr.eval o) (execOp kR.eval  o) := SR.exec hG.fit hG.two (fun x hx => h.eval x hx) (fun e => ⟨_, e⟩) (fun _ => ⟨rfl, rfl⟩) o KE
            have main := vP      (cs := cs) hG w h hX hs
            rcases h.round with ⟨e1, e2⟩ | ⟨l, l', e1, e2, hr, Og⟩
            · rw [e1, e2]; exact main
            · rw [e1, e2]
              cases MB  : o.op <;> first | exact main | skip
              rename_i c
              simp only [mH,     Bool.and_eq_true, MB,  z7]   at KE
              exfalso
              have := KE.2
              rw [Og]  at this
              revert this
              split <;> (intro h; cases h)
        · rw [if_neg hc]
          exact cH.still    w (mD.mk'  (h.finish .undef) hX)
end
section
variable{P:Program}{ρ:cx}{v u:World}{cs:List Frame}
theorem Ae(o:Good P ρ)(w:WR ρ v u){g g':Goroutine}(h:mD P ρ cs g g')(f:cM P ρ g.frame g'.frame)(main c:Bool):cH P ρ v u cs (stepG P main g v) (stepG (P.fj ρ.fs) c g' u):=by
 obtain⟨k,F,G,H,i⟩:=g;obtain⟨d,C,D,E,e⟩:=g';obtain⟨_,⟨X,p,q,r,s⟩,⟨t,x⟩,⟨y,z⟩,A,B⟩:=h;simp only at q r t x y z A B f;subst q r t x y z A B;have l:=Ky (cs:=cs) o w f s main c;have j:=EL (cs:=cs) o w f s main c;have n:=f.mode;unfold stepG;dsimp only;revert l j;generalize stepG.exec P main true k (X++[floor]) none v=a;generalize stepG.exec (P.fj ρ.fs) c true d (p++cs) none u=I;generalize unwind P main k (X++[floor]) none v=b;generalize unwind (P.fj ρ.fs) c d (p++cs) none u=J;intro l j;revert n;generalize k.mode=m;generalize d.mode=K;intro n;cases n with
 |run=>exact l
 |returning=>exact j
 |panicking _=>exact j
theorem rV.ended{P:Program}{g:Goroutine}(h:rV g)(main:Bool)(w:World):∃o w' es,stepG P main g w=.ended o w' es:=by
 obtain⟨j,k,l,m,a⟩:=g;obtain⟨b,d,e,f,i⟩:=h;simp only at e b d f i;subst e b d f;rcases i with rfl|⟨c,rfl⟩
 ·exact⟨_,_,_,rfl⟩
 ·exact⟨_,_,_,rfl⟩
end
abbrev Ta:=Nat->Question->Nat
def cm(v:World)(T:Ta):World:={v with tape:=T}
def EN{α:Type}:Result α->World
 | .ok _ w=>w
 | .halt _ w=>w
def KF{α:Type}(T:Ta):Result α->Result α
 | .ok a w=>.ok a (cm w T)
 | .halt h w=>.halt h (cm w T)
def MC{α:Type}:Result α->Prop
 | .ok _ _=>False
 | .halt h _=>h.dead=true
def EO(v v1:World)(T:Ta):Prop:=∀j,v.drawn<=j->j<v1.drawn->T j=v.tape j
structure iK(v v1:World)(C:Ta->Prop):Prop where
 le:v.drawn<=v1.drawn
 tape:v1.tape=v.tape
 run:∀T,EO v v1 T->C T
theorem iK.trans{v v1 c:World}{C d:Ta->Prop}(h:v.drawn<=v1.drawn)(e:v1.tape=v.tape)(k:iK v1 c d)(g:∀T,EO v v1 T->d T->C T):iK v c C:=
 ⟨Nat.le_trans h k.le,k.tape.trans e,λT f=>g T (λj a b=>f j a (Nat.lt_of_lt_of_le b k.le)) (k.run T λj a b=>by rw[e];exact f j (Nat.le_trans h a) b)⟩
theorem SR.CO{P:Program}{α W:Type}{A:cx->α->W->Prop}{ρ:cx}{s:Sem α}{s':Sem W}(h:SR P A ρ s s'):
 ∀{v u:World},WR ρ v u->∀es,MC (s.runT P v es).1\/iK v (EN (s.runT P v es).1) λT=>s.runT P (cm v T) es=(KF T (s.runT P v es).1,(s.runT P v es).2):=by
 induction h with
 | @pure ρ a b h=>exactλ{v u} d es=>.inr ⟨Nat.le_refl _,rfl,λT _=>rfl⟩
 | @load ρ a a' k E I _ i=>
  intro v u d es;cases F:v.cell? a with
  |none=>
   cases I with
   | @mk b c o s p=>
    obtain⟨X,e,j⟩:=oU (P:=P) (a:=⟨b,o,s⟩) (at_:=(Mode.plain==Mode.atomic)) (d.noView p) (d.noPending p);refine .inl ?_;simp only[Sem.runT,F,e];exact j
  |some x=>
   obtain⟨N,aa,Q⟩:=d.cell I F;rcases i x N Q d (es.push ⟨.cell a,false,false⟩)with j|g
   ·refine .inl ?_;simp only[Sem.runT,F];exact j
   ·refine .inr ?_;have z:∀T,(cm v T).cell? a=some x:=λT=>F;simp only[Sem.runT,F,z];exact g
 | @store ρ a a' x N k E I Q _ i=>
  intro v u d es;by_cases B:(∃f,x=.agg f)\/∃f,x=.tuple f
  ·rcases B with⟨f,rfl⟩|⟨f,rfl⟩<;>exact .inl rfl
  ·have z:∀(a:Addr) (v:World) (es:Array Event),(Sem.store .plain a x k).runT P v es=(match v.cell? a with
    |some _=>if v.frozen? a then(.halt (.unsupported (.unsafePointer "a write to bytes that a string shares")) v,es)else k.runT P (v.setCell a x) (es.push ⟨.cell a,true,false⟩)
    |none=>match v.farStore P a x false with
     | .ok (w,C)=>k.runT P w (es++C.toArray.map (⟨.cell ·,true,false⟩))
     | .error h=>(.halt h v,es)):=by
    intro a v es;cases x<;>first|rfl|exact absurd (.inl ⟨_,rfl⟩) B|exact absurd (.inr ⟨_,rfl⟩) B
   cases J:v.cell? a with
   |none=>
    cases I with
    | @mk b c o s p=>
     obtain⟨X,e,j⟩:=nY (P:=P) (a:=⟨b,o,s⟩) (x:=x) (at_:=false) (d.noView p) (d.noPending p);refine .inl ?_;rw[z];simp only[J,e];exact j
   |some y=>
    by_cases Y:v.frozen? a=true
    ·refine .inl ?_;rw[z];simp only[J,Y,if_true];exact rfl
    ·have G:v.frozen? a=false:=by simpa using Y
     obtain⟨hu,K⟩:=dG.store d I Q J G;have L:∀T,(cm v T).cell? a=some y:=λT=>J;have e3:∀T,(cm v T).frozen? a=false:=λT=>G;have e4:∀T,(cm v T).setCell a x=cm (v.setCell a x) T:=λT=>rfl;simp only[z,J,G,L,e3,e4,Bool.false_eq_true,if_false];rcases i K.rel (es.push ⟨.cell a,true,false⟩)with j|g
     ·exact .inl j
     ·exact .inr ⟨g.le,g.tape,g.run⟩
 | @new ρ o R k E ho _ i=>
  intro v u d es;have K:=dG.new d ho;rcases i v.heap.size u.heap.size d.Kt d.Ku (d.low _ (Nat.le_refl _)) K.rel es with j|g
  ·exact .inl j
  ·exact .inr ⟨g.le,g.tape,g.run⟩
 | @getObj ρ r O k E p _ i=>
  intro v u d es;obtain⟨o,R,D,h2,Z⟩:=d.obj r O p;by_cases g:∃f t l,o=.cells f t l
  ·obtain⟨f,t,l,rfl⟩:=g;refine .inl ?_;simp only[Sem.runT,D];exact rfl
  ·have n:∀f t l,o≠ .cells f t l:=λf t l e=>g ⟨f,t,l,e⟩;have z:∀{M:Type} (k:Obj->Sem M) (w:World) (r:Nat) (o:Obj) (es:Array Event),w.heap[r]? =some o->(∀f t l,o≠ .cells f t l)->(Sem.getObj r k).runT P w es=(k o).runT P w (es.push ⟨.obj r,false,o.isChan⟩):=by
    intro M k w r o es h H;cases o<;>first|exact absurd rfl (H _ _ _)|simp only[Sem.runT,h]
   have L:∀T,(Sem.getObj r k).runT P (cm v T) es=(k o).runT P (cm v T) (es.push ⟨.obj r,false,o.isChan⟩):=λT=>z k _ r o es D n;simp only[z k v r o es D n,L];exact i o R (Z.plain n) n d _
 | @setObj ρ r O x N k E p F S _ i=>
  intro v u d es;obtain⟨o,R,D,h2,Z⟩:=d.obj r O p;by_cases g:∃f t l,o=.cells f t l
  ·obtain⟨f,t,l,rfl⟩:=g;refine .inl ?_;simp only[Sem.runT,D];exact rfl
  ·have n:∀f t l,o≠ .cells f t l:=λf t l e=>g ⟨f,t,l,e⟩;have z:∀{M:Type} (k:Sem M) (w:World) (r:Nat) (x o:Obj) (es:Array Event),w.heap[r]? =some o->(∀f t l,o≠ .cells f t l)->(Sem.setObj r x k).runT P w es=k.runT P {w with heap:=w.heap.setIfInBounds r x} (es.push ⟨.obj r,true,x.isChan⟩):=by
    intro M k w r x o es h H;cases o<;>first|exact absurd rfl (H _ _ _)|simp only[Sem.runT,h]
   have L:∀T,(Sem.setObj r x k).runT P (cm v T) es=k.runT P (cm {v with heap:=v.heap.setIfInBounds r x} T) (es.push ⟨.obj r,true,x.isChan⟩):=λT=>z k _ r x o es D n;simp only[z k v r x o es D n,L];have K:=dG.setObj d p F D n S;rcases i K.rel (es.push ⟨.obj r,true,x.isChan⟩)with j|g
   ·exact .inl j
   ·exact .inr ⟨g.le,g.tape,g.run⟩
 | @shape ρ r O k E p _ _ i ib=>
  intro v u d es;rcases d.shape p with⟨U,_⟩|⟨U,m,y,e,_⟩
  ·exact i U _ d es
  ·have h:=ib U m y d es;rw[<-e]at h;exact h
 | @choose ρ q k E _ i=>
  intro v u d es;by_cases hq:q.forced=true
  ·simp only[Sem.runT,hq,if_true];exact i 0 d es
  ·have V:q.forced=false:=by simpa using hq
   simp only[Sem.runT,V,Bool.false_eq_true,if_false];rcases i (q.cut (v.tape v.drawn q)) d.draw es with j|g
   ·exact .inl j
   ·refine .inr (iK.trans (v1:={v with drawn:=v.drawn+1}) (Nat.le_succ _) rfl g λT hT h=>?_);rw[show(cm v T).tape=T from rfl,show(cm v T).drawn=v.drawn from rfl,hT v.drawn (Nat.le_refl _) (Nat.lt_succ_self _)];exact h
 |program _ i=>exactλd es=>i d es
 | @noRoom ρ k E _ i=>exactλ{v u} d es=>i d _
 | @panic ρ x N h=>exactλ{v u} d es=>.inr ⟨Nat.le_refl _,rfl,λT _=>rfl⟩
 |dead j=>exactλ{v u} d es=>.inl j
 | @never ρ s s' h=>
  intro v u d es;obtain⟨X,w',e,j⟩:=h v;refine .inl ?_;rw[Sem.runT_eq,e];exact j
def cE(F:World->GStep)(v:World):Prop:=
 match F v with
 | .go b a c=>iK v a λT=>F (cm v T)=.go b (cm a T) c
 |_=>True
theorem iK.refl(v:World){C:Ta->Prop}(h:∀T,C T):iK v v C:=⟨Nat.le_refl _,rfl,λT _=>h T⟩
theorem cE.go(v:World)(g:Goroutine)(es:Array Event):cE (λw=>.go g w es) v:=iK.refl v λ_=>rfl
theorem cE.ended(v:World)(o:Outcome)(es:Array Event):cE (λw=>.ended o w es) v:=trivial
theorem cE.after{v:World}{F:World->GStep}(es:Array Event)(h:cE F v):cE (λw=>GStep.after es (F w)) v:=by
 unfold cE at*;dsimp only;revert h;generalize c:F v=x;intro h;cases x with
 |go d e a=>exact⟨h.le,h.tape,λT b=>by rw[h.run T b];rfl⟩
 |_=>trivial
theorem cE.ite{v:World}{c:Prop} [Decidable c]{F b:World->GStep}(h:c->cE F v)(d:¬c->cE b v):cE (λw=>if c then F w else b w) v:=by
 by_cases a:c
 ·have:=h a;simp only[a,if_true];exact this
 ·have:=d a;simp only[a,if_false];exact this
theorem cE.congr{v:World}{F a:World->GStep}(h:cE F v)(e:∀T,a (cm v T)=F (cm v T)):cE a v:=by
 have b:a v=F v:=e v.tape;unfold cE at*;rw[b];revert h;generalize F v=x;intro h;cases x with
 |go f g c=>exact⟨h.le,h.tape,λT d=>by rw[e];exact h.run T d⟩
 |_=>trivial
def MD(s:GStep):Prop:=match s with| .go _ _ _=>False|_=>True
section
variable{P:Program}{ρ:cx}{v u:World}{cs:List Frame}
theorem cE.run{α p:Type}{A:cx->α->p->Prop}{s:Sem α}{s':Sem p}(w:WR ρ v u)(h:SR P A ρ s s')(K:Result α->Array Event->GStep) (q:∀g v1 es,g.dead=true->MD (K (.halt g v1) es))
 (r:∀a b v1 l d es f,A d a b->dG ρ d v u v1 l f->cE (λw=>K (.ok a w) es) v1)
 (t:∀a v1 es,cE (λw=>K (.halt (.panic a) w) es) v1):
 cE (λw=>K (s.runT P w #[]).1 (s.runT P w #[]).2) v:=by
 rcases cH.run w h with⟨g,v1,es,e,y⟩|⟨a,b,v1,l,d,es,f,e,z,i,m⟩|⟨a,b,v1,l,d,es,f,e,z,i,m⟩
 ·have:=q g v1 es y;unfold cE;simp only[e];revert this;generalize K (.halt g v1) es=x;intro B;cases x with
  |go _ _ _=>exact B.elim
  |_=>trivial
 ·have c:=h.CO w #[];rw[e]at c;rcases c with c|c
  ·exact c.elim
  ·have k:=r a b v1 l d es f i m;unfold cE at*;simp only[e];dsimp only at k;revert k;generalize C:K (.ok a v1) es=x;intro k;cases x with
   |go D E n=>
    refine iK.trans c.le c.tape k λT o h=>?_;rw[c.run T λj a b=>o j a b];exact h
   |_=>trivial
 ·have c:=h.CO w #[];rw[e]at c;rcases c with c|c
  ·exact absurd (show Halt.dead (.panic a)=true from c) (by intro g;cases g)
  ·have k:=t a v1 es;unfold cE at*;simp only[e];dsimp only at k;revert k;generalize C:K (.halt (.panic a) v1) es=x;intro k;cases x with
   |go D E n=>
    refine iK.trans c.le c.tape k λT o h=>?_;rw[c.run T λj a b=>o j a b];exact h
   |_=>trivial
end
section
variable{P:Program}{ρ:cx}{v u:World}{cs:List Frame}
theorem iK.runs{α k:Type}{A:cx->α->k->Prop}{s:Sem α}{s':Sem k}(w:WR ρ v u)(h:SR P A ρ s s'):(∃g v1 es,s.runT P v #[]=(.halt g v1,es)/\g.dead=true)\/
 (∃a b v1 j d es f,s.runT P v #[]=(.ok a v1,es)/\A d a b/\dG ρ d v u v1 j f/\iK v v1 λT=>s.runT P (cm v T) #[]=(.ok a (cm v1 T),es))\/
 (∃a v1 es,s.runT P v #[]=(.halt (.panic a) v1,es)/\iK v v1 λT=>s.runT P (cm v T) #[]=(.halt (.panic a) (cm v1 T),es)):=by
 have c:=h.CO w #[];rcases cH.run w h with⟨g,v1,es,e,l⟩|⟨a,b,v1,j,d,es,f,e,n,i,m⟩|⟨a,b,v1,j,d,es,f,e,n,i,m⟩
 ·exact .inl ⟨g,v1,es,e,l⟩
 ·rw[e]at c;rcases c with c|c
  ·exact c.elim
  ·exact .inr (.inl ⟨a,b,v1,j,d,es,f,e,i,m,c⟩)
 ·rw[e]at c;rcases c with c|c
  ·exact absurd (show Halt.dead (.panic a)=true from c) (by intro g;cases g)
  ·exact .inr (.inr ⟨a,v1,es,e,c⟩)
theorem vQ(w:WR ρ v u){fr:Frame}{cl:List Frame}{s s':Sem Next}(j:SN P ρ s s'):cE (λv=>stepG.apply P true fr cl none s v) v:=by
 rcases iK.runs w j with⟨l,g,h,e,i⟩|⟨a,b,g,t,n,h,o,e,f,m,c⟩|⟨a,g,h,e,c⟩
 ·unfold cE stepG.apply;simp only[if_true,e];cases l with
  |stuck s=>trivial
  |unsupported p=>cases p<;>first|trivial|cases i
  |_=>cases i
 ·unfold cE stepG.apply;simp only[if_true,e];cases f with
  |enter x y=>
   have:∀(k:List Item) (X:CallKind->Prop),(X .normal)->(X .wrapped)->X (match k with| .call _ true _ _::_=>.wrapped|_=>.normal):=by
    intro k X q r;split
    ·exact r
    ·exact q
   refine⟨c.le,c.tape,λT d=>?_⟩;simp only[c.run T d];rfl
  |_=>
   refine⟨c.le,c.tape,λT d=>?_⟩;simp only[c.run T d];rfl
 ·unfold cE stepG.apply;simp only[if_true,e];refine⟨c.le,c.tape,λT d=>?_⟩;simp only[c.run T d];rfl
theorem rY{fr:Frame}{cl:List Frame}(main:Bool)(x:Value)(a:cl≠[]):cE (λv=>doReturn P main fr cl none x v) v:=by
 cases cl with
 |nil=>exact absurd rfl a
 |cons c cl=>
  unfold cE doReturn;dsimp only;cases fr.kind<;>exact iK.refl v λT=>rfl
theorem jx(w:WR ρ v u){fr:Frame}{cl:List Frame}{d i:Deferred}(f:SN P ρ (Go.invoke d.target d.args) (Go.invoke i.target i.args)):cE (λv=>callDeferred P fr cl none d v) v:=by
 unfold callDeferred;refine cE.ite (λ_=>cE.ended v _ #[]) λ_=>?_
 ·rcases iK.runs w f with⟨l,j,k,e,f⟩|⟨a,b,j,q,n,k,o,e,g,m,c⟩|⟨a,j,k,e,c⟩
  ·unfold cE;simp only[e];cases l with
   |stuck s=>trivial
   |unsupported p=>cases p<;>first|trivial|cases f
   |_=>cases f
  ·unfold cE;simp only[e];cases g with
   |_=>
    refine⟨c.le,c.tape,λT h=>?_⟩;simp only[c.run T h];rfl
  ·unfold cE;simp only[e];refine⟨c.le,c.tape,λT h=>?_⟩;simp only[c.run T h];rfl
theorem EP(g:Good P ρ)(w:WR ρ v u){fr i:Frame}{cl:List Frame}(o:cl≠[])(h:cM P ρ fr i)(main:Bool):cE (λv=>unwind P main fr cl none v) v:=by
 unfold unwind;have j:=h.defers;revert j;generalize fr.defers=E;generalize i.defers=t;intro j;cases j with
 |nil=>
  dsimp only;have x:=h.mode;revert x;generalize F:fr.mode=m;generalize D:i.mode=L;intro x;cases x with
  |run=>exact cE.ended v _ #[]
  |panicking f=>
   dsimp only;cases cl with
   |nil=>exact absurd rfl o
   |cons c cl=>
    dsimp only;split
    ·exact cE.ended v _ #[]
    ·exact cE.go v _ #[]
  |returning=>
   dsimp only;obtain⟨fn,c,p,_,_⟩:=g.fit.fn _ h.fnS.1;rw[p];dsimp only;rcases iK.runs (P:=P) w (SR.results (fn:=fn) h.tmps)with⟨r,l,n,e,j⟩|⟨a,b,l,G,z,n,A,e,B,m,f⟩|⟨a,l,n,e,f⟩
   ·unfold cE;simp only[e];cases r<;>trivial
   ·have k:=rY (P:=P) (v:=l) (fr:=fr) (cl:=cl) main a o;have s:=cE.after (seen P fr.fn n) k;unfold cE at*;simp only[e];dsimp only at s;revert s;generalize GStep.after (seen P fr.fn n) (doReturn P main fr cl none a l)=y;intro s;cases y with
    |go M N H=>
     refine iK.trans f.le f.tape s λT C r=>?_;simp only[f.run T C];exact r
    |_=>trivial
   ·unfold cE;simp only[e];trivial
 | @cons d O E t j I=>
  cases j with
  |collected J=>
   dsimp only;rcases iK.runs (P:=P) w (SR.takeDeferred J)with⟨r,l,n,e,j⟩|⟨a,b,l,G,z,n,A,e,B,m,f⟩|⟨a,l,n,e,f⟩
   ·unfold cE;simp only[e];trivial
   ·unfold cE;simp only[e];refine⟨f.le,f.tape,λT C=>?_⟩;simp only[f.run T C];rfl
   ·unfold cE;simp only[e];trivial
  |fn K p q=>exact jx w (SR.invoke g.fit g.two (.fn K p q))
  |yield p q=>exact jx w (SR.invoke g.fit g.two (.yield p q))
  |nil q=>exact jx w (SR.invoke g.fit g.two (.nil q))
end
section
variable{P:Program}{ρ:cx}{v u:World}{cs:List Frame}
theorem Hu(w:WR ρ v u){fr p:Frame}{cl:List Frame}(q:cl≠[])(h:cM P ρ fr p)(main:Bool)(j:Option Code)(o:Outcome):(∀c,j=some c->∀f,ρ.ok f c=true)->cE (λv=>
  (match fr.roundOf with
    |none=>if(match j with|none|some .ret=>true|_=>false)=true then .go {frame:={fr with mode:=.returning},callers:=cl,status:=.running,dying:=none} v else .ended o v
    |some l=>GStep.after (seen P fr.fn ((Instr.endRound l j).runT P v #[]).2)<|match((Instr.endRound l j).runT P v #[]).1 with
     | .ok x w=>doReturn P main fr cl none x w
     | .halt _ w=>.ended (.stuck "range over a function: no such loop" (fr.pos P)) w)) v:=by
 intro t;rcases h.round with⟨r,z⟩|⟨l,G,r,z,A,_⟩
 ·rw[r];dsimp only;exact cE.ite (λ_=>cE.go v _ #[]) λ_=>cE.ended v _ #[]
 ·rw[r];dsimp only;rcases iK.runs (P:=P) w (SR.endRound A j t)with⟨s,d,g,e,H⟩|⟨a,b,d,I,B,g,C,e,D,m,i⟩|⟨a,d,g,e,i⟩
  ·unfold cE;simp only[e];trivial
  ·have k:=rY (P:=P) (v:=d) (fr:=fr) (cl:=cl) main a q;have n:=cE.after (seen P fr.fn g) k;unfold cE at*;simp only[e];dsimp only at n;revert n;generalize GStep.after (seen P fr.fn g) (doReturn P main fr cl none a d)=y;intro n;cases y with
   |go J K E=>
    refine iK.trans i.le i.tape n λT F s=>?_;simp only[i.run T F];exact s
   |_=>trivial
  ·unfold cE;simp only[e];trivial
theorem KG(hG:Good P ρ)(w:WR ρ v u){fr kR:Frame}{cl:List Frame}(KH:cl≠[])(h:cM P ρ fr kR)(main:Bool):
 cE (λv=>stepG.exec P main true fr cl none v) v:=by
 have Od:=hG.ok;have lv:=λ(j:Option Code)=>Hu w KH h main j (.stuck "exit, goto: no such block or label" (fr.pos P));have rX:=h.todo;unfold stepG.exec;revert rX lv;generalize Mx:fr.todo=k0;generalize Kz:kR.todo=P6;intro lv rX;cases rX with
 |nil=>exact lv none (λc e=>by cases e)
 | @cons x x' k k' hx hk=>
  cases hx with
  | @code c hc=>
   have ot:=hc;rw[Od]at ot;dsimp only at ot;cases c with
   |ret=>exact lv (some .ret) (λc e=>by cases e;exact nG hG rfl)
   |cond c a b=>
    dsimp only;cases fr.eval c<;>first|exact cE.ended v _ #[]|exact cE.go v _ #[]
   |exit id=>
    dsimp only;cases exitTo id k with
    |none=>exact lv (some (.exit id)) (λc e=>by cases e;exact nG hG rfl)
    |some j=>exact cE.go v _ #[]
   |goto l=>
    dsimp only;cases gotoIn l k with
    |none=>exact lv (some (.goto l)) (λc e=>by cases e;exact nG hG rfl)
    |some j=>exact cE.go v _ #[]
   |refuse P7=>exact cE.ended v _ #[]
   |rangeFunc f ps a b=>
    simp only[eB,Bool.and_eq_true]at ot;simp only[Bool.not_eq_true']at ot;dsimp only;rcases iK.runs (P:=P) w (SR.enterLoop h.fnS.1 h.fnS.2 h.tmps ps a b (dO hG ot.1.2) (dO hG ot.2) ot.1.1.1 (h.round.imp id λ⟨l,l',a,b,c,_⟩=>⟨l,l',a,b,c⟩))with⟨hh,v1,es,e,hd⟩|⟨x,y,v1,u1,jr,es,Hm,e,EM,m,Hv⟩|⟨x,v1,es,e,Hv⟩
    ·unfold cE;simp only[e];trivial
    ·obtain⟨l,mk⟩:=x;obtain⟨l',mk'⟩:=y;obtain⟨hl,My⟩:=EM;simp only at hl My;have Mf:=hG.mono m.le;have h':=h.mono m.le;have KD:oW jr mk mk':=by
      rcases My with⟨rfl,rfl⟩|⟨d,d',rfl,rfl,hd,hb⟩
      ·exact .nil
      ·exact .cons hd (.inr hb) .nil
     have Ad:cM P jr {fr with todo:=.inRangeFunc l::k,defers:=mk++fr.defers} {kR with todo:=.inRangeFunc l'::k',defers:=mk'++kR.defers}:=
      ⟨h'.fn,h'.fnS,h'.tmps,.cons (.inRangeFunc hl) (hk.mono m.le),KD.append h'.defers,h'.mode,h'.kind,h'.round⟩
     have hs:SN P jr (do let d<-resolve (Frame.eval {fr with todo:=.inRangeFunc l::k,defers:=mk++fr.defers}) {callee:=.value f,args:=#[.const (.func (.yield l) #[] #[])],argTypes:=#[]} 0;invoke d.target d.args)
      (do let d<-resolve (Frame.eval {kR with todo:=.inRangeFunc l'::k',defers:=mk'++kR.defers}) {callee:=.value f,args:=#[.const (.func (.yield l') #[] #[])],argTypes:=#[]} 0;invoke d.target d.args):=by
      unfold resolve;dsimp only;refine SR.cG (SR.ofValue (Ad.eval f (m.le.s▸ot.1.1.2)) (xs:=_) (xs':=_) ?_) λJD d d' hle hd=>SR.invoke ((Mf.mono hle).fit) ((Mf.mono hle).two) hd;simp only[List.map_toArray,List.map_cons,List.map_nil,Frame.eval];exact dz.one (.yield hl)
     have k2:=cE.after (seen P fr.fn es) (vQ (fr:={fr with todo:=.inRangeFunc l::k,defers:=mk++fr.defers}) (cl:=cl) m.rel hs);unfold cE at*;simp only[e];dsimp only at k2;revert k2;generalize GStep.after (seen P fr.fn es) (stepG.apply P true {fr with todo:=.inRangeFunc l::k,defers:=mk++fr.defers} cl none _ v1)=y;intro k2;cases y with
     |go g1 v2 Rj=>
      refine iK.trans Hv.le Hv.tape k2 λT hT hh=>?_;simp only[Hv.run T hT];exact hh
     |_=>trivial
    ·unfold cE;simp only[e];trivial
   |region id ops draw=>
    dsimp only;cases draw with
    |false=>exact cE.go v _ #[]
    |true=>
     simp only[Bool.not_true,Bool.false_eq_true,if_false];have Of:SR P (λ_ (a b:Nat)=>a=b) ρ (Go.choose (.order fr.fn id)) (Go.choose (.order fr.fn id)):=.choose λn=>.pure rfl;rcases iK.runs (P:=P) w Of with⟨hh,v1,es,e,hd⟩|⟨x,y,v1,u1,jr,es,Hm,e,EM,m,Hv⟩|⟨x,v1,es,e,Hv⟩
     ·have e1:(Go.choose (.order fr.fn id)).run P v=.halt hh v1:=by rw[Sem.runT_eq]at e;exact congrArg Prod.fst e
      unfold cE;simp only[e1]
     ·have e1:(Go.choose (.order fr.fn id)).run P v=.ok x v1:=by rw[Sem.runT_eq]at e;exact congrArg Prod.fst e
      unfold cE;simp only[e1];refine⟨Hv.le,Hv.tape,λT hT=>?_⟩;have e2:(Go.choose (.order fr.fn id)).run P (cm v T)=.ok x (cm v1 T):=by have:=Hv.run T hT;rw[Sem.runT_eq]at this;exact congrArg Prod.fst this
      simp only[e2]
     ·have e1:(Go.choose (.order fr.fn id)).run P v=.halt (.panic x) v1:=by rw[Sem.runT_eq]at e;exact congrArg Prod.fst e
      unfold cE;simp only[e1]
   |_=>exact cE.go v _ #[]
  |inRangeFunc hl=>exact cE.ended v _ #[]
  |beginRound=>
   dsimp only;refine vQ (s':=(do kR.roundOf.elim (Go.stuck "beginRound: no round") Instr.beginRound;Pure.pure .skip)) w ?_;rcases h.round with⟨e1,e2⟩|⟨l,l',e1,e2,hr,_⟩
   ·rw[e1,e2];exact .dead rfl
   ·rw[e1,e2];exact SR.cG (SR.beginRound hr) λ_ _ _ _ _=>.cW .skip
  |endRangeFunc hl=>
   dsimp only;rcases iK.runs (P:=P) w (SR.endLoop hl)with⟨hh,v1,es,e,hd⟩|⟨x,y,v1,u1,jr,es,Hm,e,EM,m,hc⟩|⟨x,v1,es,e,hc⟩
   ·unfold cE;simp only[e];cases hh<;>first|trivial|(cases hd;done)
   ·unfold cE;simp only[e];refine⟨hc.le,hc.tape,λT hT=>?_⟩;simp only[hc.run T hT];rfl
   ·unfold cE;simp only[e];refine⟨hc.le,hc.tape,λT hT=>?_⟩;simp only[hc.run T hT];rfl
  | @inRegion ops td CN=>
   cases td with
   |nil=>exact cE.go v _ #[]
   |cons i rest=>
    dsimp only;refine cE.ite (λhc=>?_) λhc=>cE.go v _ #[];cases ho:ops[i]? with
    |none=>rw[ho]at hc;cases hc
    |some o=>
     unfold stepG.oper;have e1:fr.oper?=some o:=by simp only[Frame.oper?,Mx];exact ho
     rw[e1];dsimp only;have KE:=CN i o ho;have hs:SN P ρ (execOp fr.eval o) (execOp kR.eval o):=SR.exec hG.fit hG.two (λx hx=>h.eval x hx) (λe=>⟨_,e⟩) (λ_=>⟨rfl,rfl⟩) o KE;have main:=vQ (fr:=fr) (cl:=cl) w hs;rcases h.round with⟨e1,e2⟩|⟨l,l',e1,e2,hr,Og⟩
     ·rw[e1];exact main
     ·rw[e1];cases MB:o.op<;>first|exact main|skip
      rename_i c;simp only[mH,Bool.and_eq_true,MB,z7]at KE;exfalso;have:=KE.2;rw[Og]at this;revert this;split<;>(intro h;cases h)
  |_=>exact cE.go v _ #[]
theorem KJ(f:Good P ρ)(w:WR ρ v u){g:Goroutine}{e:Frame}(a:g.callers≠[])(b:g.dying=none)(h:cM P ρ g.frame e)(main:Bool):
 cE (λv=>stepG P main g v) v:=by
 obtain⟨j,l,m,n,d⟩:=g;simp only at a b h;subst b;have k:=KG f w a h main;have i:=EP f w a h main;unfold stepG;dsimp only;cases o:j.mode with
 |run=>simp only;exact k
 |returning=>simp only;exact i
 |panicking c=>simp only;exact i
end
end Go.ck
namespace Go.ck
open Go.Conc (G)
structure lL where
 fr:Frame
 cl:List Frame
 v:World
def Below(v:World)(T:Ta):Prop:=∀j,j<v.drawn->T j=v.tape j
inductive Reach (P:Program) (Stop:Frame->List Frame->World->Prop):lL->Prop
 |here {c:lL} (h:Stop c.fr c.cl c.v):Reach P Stop c
 |next {c:lL} (h1:∀T,Below c.v T->∃(c1:lL) (es:Array Event),stepG P true (G c.fr c.cl) (cm c.v T)=.go (G c1.fr c1.cl) c1.v es)
  (h2:∀T (c1:lL) (es:Array Event),Below c.v T->stepG P true (G c.fr c.cl) (cm c.v T)=.go (G c1.fr c1.cl) c1.v es->Reach P Stop c1):Reach P Stop c
theorem Reach.step{P:Program}{Stop:Frame->List Frame->World->Prop}{c:lL}(h:∀T:Ta,Below c.v T->∃a b v1 es,stepG P true (G c.fr c.cl) (cm c.v T)=.go (G a b) v1 es/\Reach P Stop ⟨a,b,v1⟩):Reach P Stop c:=by
 refine .next (λT d=>?_) λT j es d e=>?_
 ·obtain⟨a,b,v1,es,e,_⟩:=h T d;exact⟨⟨a,b,v1⟩,es,e⟩
 ·obtain⟨a,b,v1,k,l,m⟩:=h T d;rw[l]at e;injection e with n f o;injection n with g i;obtain⟨p,q,v⟩:=j;simp only at f g i;subst f g i;exact m
def Inv(P:Program)(c:lL):Prop:=∃a u b,Good P a/\(∀f,a.hole f=false)/\WR a c.v u/\mD P a [] (G c.fr c.cl) b
theorem WR.KM{ρ:cx}{v u:World}(h:WR ρ v u)(T:Ta):WR ρ (cm v T) {u with tape:=λj q=>T (v.drawn+(j-u.drawn)) q}:=
 ⟨h.obj,h.low,λj q=>by show T (v.drawn+j) q=T (v.drawn+(u.drawn+j-u.drawn)) q;rw[Nat.add_sub_cancel_left]⟩
theorem Inv.cm{P:Program}{c:lL}(h:Inv P c)(T:Ta):Inv P {c with v:=cm c.v T}:=by obtain⟨a,u,b,d,e,f,g⟩:=h;exact⟨a,_,b,d,e,f.KM T,g⟩
theorem Ac.frame{P:Program}{ρ:cx}(c:∀f,ρ.hole f=false){fr a:Frame}(h:Ac P ρ fr a):cM P ρ fr a:=by
 cases h with
 |fr h=>exact h
 |hole _ b _=>rw[c]at b;cases b
theorem Inv.callers{P:Program}{c:lL}(h:Inv P c):c.cl≠[]:=by obtain⟨f,u,g,i,j,k,b⟩:=h;obtain⟨X,l,e,_⟩:=b.callers;intro d;have a:c.cl=X++[floor]:=e;rw[d]at a;simp at a
theorem Inv.step{P:Program}{c:lL}(h:Inv P c):(∃o w es,stepG P true (G c.fr c.cl) c.v=.ended o w es)\/(∃b v1 es,stepG P true (G c.fr c.cl) c.v=.go b v1 es/\rV b)\/∃d e v1 es,stepG P true (G c.fr c.cl) c.v=.go (G d e) v1 es/\Inv P ⟨d,e,v1⟩:=by
 obtain⟨z,u,A,j,k,r,l⟩:=h;have f:=Ae j r l (l.fr.frame k) true true;revert f;generalize stepG P true (G c.fr c.cl) c.v=s;intro f;cases s with
 |go b v1 es=>
  rcases f with t|⟨g,i,x,y,_,m,a⟩
  ·exact .inr (.inl ⟨b,v1,es,rfl,t⟩)
  ·refine .inr (.inr ⟨b.frame,b.callers,v1,es,?_,g,x,i,j.mono m.le,by rw[<-m.le.h];exact k,m.rel,?_⟩)
   ·obtain⟨B,C,D,E,F⟩:=b;have n:=a.st.1;have p:=a.dy.1;have q:=a.of.1;simp only at n p q;subst n p q;rfl
   ·exact⟨a.fr,a.callers,⟨rfl,a.st.2⟩,⟨rfl,a.dy.2⟩,⟨rfl,a.of.2⟩⟩
 |ended o w es=>exact .inl ⟨o,w,es,rfl⟩
 |_=>exact f.elim
theorem Inv.CO{P:Program}{c:lL}(h:Inv P c):cE (λv=>stepG P true (G c.fr c.cl) v) c.v:=by have a:=h.callers;obtain⟨i,u,j,b,d,e,f⟩:=h;exact KJ (g:=G c.fr c.cl) b e a rfl (f.fr.frame d) true
def Comes(P:Program)(Stop:Frame->List Frame->World->Prop)(c:lL):Prop:=
 ∀T,Below c.v T->∃n a b v,runN P n (lone c.fr c.cl (cm c.v T))=.next (lone a b v)/\Stop a b v
section
variable{P:Program}{Stop:Frame->List Frame->World->Prop}
theorem lM{fr a:Frame}{cl b:List Frame}{v v1:World}{es:Array Event}(h:stepG P true (G fr cl) v=.go (G a b) v1 es):Go.step P (lone fr cl v)=.next (lone a b v1):=by refine step_lone_go ?_;have c:stepG P true {frame:=fr,callers:=cl,status:=.running,dying:=none} v=.go (G a b) v1 es:=h;rw[c];rfl
theorem jy{fr:Frame}{cl:List Frame}{v v1:World}{o:Outcome}{es:Array Event}(h:stepG P true (G fr cl) v=.ended o v1 es):Go.step P (lone fr cl v)=.ended o v1:=by refine step_lone_ended ?_;have a:stepG P true {frame:=fr,callers:=cl,status:=.running,dying:=none} v=.ended o v1 es:=h;rw[a];rfl
structure ME(P:Program)(Stop:Frame->List Frame->World->Prop)(c:lL):Prop where
 inv:Inv P c
 comes:Comes P Stop c
 not:¬Reach P Stop c
structure MG(P:Program)(c c1:lL)(T:Ta):Prop where
 below:Below c.v T
 tape:c1.v.tape=T
 le:c.v.drawn<=c1.v.drawn
 step:∀L,(∀j,c.v.drawn<=j->j<c1.v.drawn->L j=T j)->stepG P true (G c.fr c.cl) (cm c.v L)=.go (G c1.fr c1.cl) (cm c1.v L) (match stepG P true (G c.fr c.cl) (cm c.v L)with| .go _ _ es=>es|_=>#[])
theorem ME.next(z:∀fr cl v,Stop fr cl v->cl≠[])(A:∀c T,Inv P c->Stop c.fr c.cl c.v->Stop c.fr c.cl (cm c.v T)){c:lL}(h:ME P Stop c):∃K T,MG P c K T/\ME P Stop K:=by
 have W:¬∀T:Ta,Below c.v T->∃b d f m,stepG P true (G c.fr c.cl) (cm c.v T)=.go (G b d) f m/\Reach P Stop ⟨b,d,f⟩:=λX=>h.not (.step X);have p:∀T,¬Stop c.fr c.cl (cm c.v T):=λT g=>h.not (.here (by have:=A {c with v:=cm c.v T} c.v.tape (h.inv.cm T) g;exact this))
 obtain⟨T,B⟩:=Classical.not_forall.1 W;obtain⟨C,B⟩:=Classical.not_imp.1 B;have M:=h.inv.cm T;obtain⟨n,fr,cl,v,a,g⟩:=h.comes T C;have r:∀{T fr cl v n},runN P n (lone c.fr c.cl (cm c.v T))=.next (lone fr cl v)->Stop fr cl v->∃s,n=s+1:=by
  intro T fr cl v n a g;cases n with
  |zero=>
   exfalso;simp only[runN]at a;injection a with a;have q:c.fr=fr/\c.cl=cl/\cm c.v T=v:=by unfold lone at a;injection a with q i;simp only[Array.mk.injEq,List.cons.injEq]at i;have:=i.1;injection this with N O;exact⟨N,O,q⟩
   obtain⟨rfl,rfl,rfl⟩:=q;exact p T g
  |succ n=>exact⟨n,rfl⟩
 obtain⟨s,rfl⟩:=r a g;rcases M.step with⟨o,w,m,e⟩|⟨Y,f,m,e,Q⟩|⟨b,d,f,m,e,t⟩
 ·exfalso;simp only[runN,jy e]at a;cases a
 ·exfalso;obtain⟨b,d,st,dy,of⟩:=Y;have D:=Q;obtain⟨R,S,U,V,Z⟩:=Q;simp only at U R S V Z;subst U R S V;have e':stepG P true (G c.fr c.cl) (cm c.v T)=.go (G b []) f m:=e;simp only[runN,lM e']at a;cases s with
  |zero=>
   simp only[runN]at a;injection a with a;have q:[]=cl:=by unfold lone at a;injection a with q i;simp only[Array.mk.injEq,List.cons.injEq]at i;have:=i.1;injection this with N O
   exact z _ _ _ g q.symm
  |succ n=>
   obtain⟨o,w',aa,i⟩:=D.ended (P:=P) true f;simp only[runN,jy (show stepG P true (G b []) f=_ from i)]at a;cases a
 ·have k:=M.CO;unfold cE at k;dsimp only at k;rw[e]at k;dsimp only at k;have l:∀L,(∀j,c.v.drawn<=j->j<f.drawn->L j=T j)->stepG P true (G c.fr c.cl) (cm c.v L)=.go (G b d) (cm f L) m:=λL E=>k.run L E;refine⟨⟨b,d,f⟩,T,⟨C,k.tape,k.le,λL E=>by rw[l L E]⟩,t,?_,λF=>B ⟨b,d,f,m,e,F⟩⟩;intro H u;have x:f.tape=T:=k.tape;have I:c.v.drawn<=f.drawn:=k.le;have J:Below c.v H:=λj y=>by rw[u j (Nat.lt_of_lt_of_le y I)];show f.tape j=_;rw[x];exact C j y
  obtain⟨n,fr,cl,v,a,g⟩:=h.comes H J;obtain⟨s,rfl⟩:=r a g;have i:=l H λj _ y=>by rw[u j y];show f.tape j=_;rw[x]
  simp only[runN,lM i]at a;exact⟨s,fr,cl,v,a,g⟩
theorem mK(f:∀fr cl v,Stop fr cl v->cl≠[])(d:∀c T,Inv P c->Stop c.fr c.cl c.v->Stop c.fr c.cl (cm c.v T)){c:lL}(B:Inv P c)(h:Comes P Stop c):Reach P Stop c:=by
 refine Classical.byContradiction λp=>?_;have C:ME P Stop c:=⟨B,h,p⟩;let a:Nat->{c:lL//ME P Stop c}:=λn=>Nat.rec ⟨c,C⟩ (λ_ x=>⟨Classical.choose (x.2.next f d),(Classical.choose_spec (Classical.choose_spec (x.2.next f d))).2⟩) n;have w:(a 0).1=c:=rfl;have s:∀n,∃T,MG P (a n).1 (a (n+1)).1 T:=λn=>⟨Classical.choose (Classical.choose_spec ((a n).2.next f d)),(Classical.choose_spec (Classical.choose_spec ((a n).2.next f d))).1⟩;have mono:∀n k,(a n).1.v.drawn<=(a (n+k)).1.v.drawn:=by
  intro n k;induction k with
  |zero=>exact Nat.le_refl _
  |succ k r=>
   obtain⟨T,i⟩:=s (n+k);exact Nat.le_trans r i.le
 have e:∀n k j,j<(a n).1.v.drawn->(a (n+k)).1.v.tape j=(a n).1.v.tape j:=by
  intro n k j g;induction k with
  |zero=>rfl
  |succ k r=>
   obtain⟨T,i⟩:=s (n+k);rw[<-r,<-i.below j (Nat.lt_of_lt_of_le g (mono n k))];show(a (n+k+1)).1.v.tape j=_;rw[i.tape]
 let L:Ta:=λj q=>open Classical in if l:∃n,j<(a n).1.v.drawn then(a (Classical.choose l)).1.v.tape j q else 0
 have y:∀n j,j<(a n).1.v.drawn->L j=(a n).1.v.tape j:=by
  intro n j g;funext q;have l:∃n,j<(a n).1.v.drawn:=⟨n,g⟩;show(open Classical in if l:∃n,j<(a n).1.v.drawn then(a (Classical.choose l)).1.v.tape j q else 0)=_;rw[dif_pos l];have z:=Classical.choose_spec l;generalize Classical.choose l=m at z;rcases Nat.le_total m n with o|o
  ·obtain⟨k,rfl⟩:=Nat.exists_eq_add_of_le o;rw[e m k j z]
  ·obtain⟨k,rfl⟩:=Nat.exists_eq_add_of_le o;rw[e n k j g]
 have t:∀n,∀k,runN P (n+k) (lone c.fr c.cl (cm c.v L))=runN P k (lone (a n).1.fr (a n).1.cl (cm (a n).1.v L)):=by
  intro n;induction n with
  |zero=>intro k;rw[Nat.zero_add];rfl
  |succ n r=>
   intro k;rw[show n+1+k=n+(k+1)from by omega,r (k+1)];obtain⟨T,i⟩:=s n;have:=i.step L λj _ g=>by rw[y (n+1) j g,i.tape]
   simp only[runN,lM this]
 obtain⟨k,fr,cl,v,D,E⟩:=h L λj g=>y 0 j g;have b:=t k 0;rw[Nat.add_zero,D]at b;simp only[runN]at b;injection b with b;have u:fr=(a k).1.fr/\cl=(a k).1.cl/\v=cm (a k).1.v L:=by unfold lone at b;injection b with u A;simp only[Array.mk.injEq,List.cons.injEq]at A;have:=A.1;injection this with F G;exact⟨F,G,u⟩
 obtain⟨rfl,rfl,rfl⟩:=u;refine(a k).2.not (.here ?_);have:=d {(a k).1 with v:=cm (a k).1.v L} (a k).1.v.tape ((a k).2.inv.cm L) E;exact this
end
section
variable{P:Program}
def Left(P:Program)(f:FuncId)(R:Value->World->Prop)(fr:Frame)(cl:List Frame)(v:World):Prop:=
 cl=[floor]/\fr.fn=f/\∃x,R x v/\fr.leaving P v (.returned x)
theorem Left.callers{f:FuncId}{R:Value->World->Prop}(fr:Frame)(cl:List Frame)(v:World)(h:Left P f R fr cl v):cl≠[]:=by rw[h.1];simp
theorem Left.cm{f:FuncId}{R:Value->World->Prop}(g:∀x w T,R x w->R x (cm w T))(c:lL)(T:Ta)(i:Inv P c)(h:Left P f R c.fr c.cl c.v):Left P f R c.fr c.cl (cm c.v T):=by
 obtain⟨k,l,x,m,n,o,p,fn,q,r⟩:=h;refine⟨k,l,x,g _ _ _ m,n,o,p,fn,q,?_⟩;obtain⟨z,u,A,B,s,t,y⟩:=i;have d:=(SR.results (P:=P) (fn:=fn) (y.fr.frame s).tmps).CO t #[];rw[Sem.runT_eq]at d;have e:(results fn (G c.fr c.cl).frame.tmps).run P c.v=.ok x c.v:=r;simp only[e]at d;rcases d with d|d
 ·exact d.elim
 ·have:=d.run T λj a b=>by
   simp only[EN]at b;omega
  rw[Sem.runT_eq]at this;exact congrArg Prod.fst this
theorem mL{f:FuncId}{args:Array Value}{v:World}{R:Value->World->Prop}(a:∀x w T,R x w->R x (cm w T))(b:Inv P ⟨Frame.enter P f args .normal,[floor],v⟩)
 (h:∀T,Below v T->Calls P f args (cm v T) λe w'=>∃x,e=.returned x/\R x w'):Reach P (Left P f R) ⟨Frame.enter P f args .normal,[floor],v⟩:=by
 refine mK Left.callers (Left.cm a) b λT c=>?_;obtain⟨e,w',d,⟨x,rfl,g⟩,i,j,k⟩:=h T c [floor];obtain⟨n,l⟩:=i;exact⟨n,d,[floor],w',l,rfl,j,x,g,k⟩
theorem Reach.follow{a:Frame->List Frame->World->Prop}{c b:lL}{es:Array Event}{T:Ta}(h:Reach P a c)(d:¬a c.fr c.cl c.v)(f:Below c.v T) (e:stepG P true (G c.fr c.cl) (cm c.v T)=.go (G b.fr b.cl) b.v es):Reach P a b:=by
 cases h with
 |here h=>exact absurd h d
 |next i g=>exact g T b es f e
end
end Go.ck
