/- Laws that the proof needs, part 3. Conditions: none. -/
import Derived.Test.YteeagjkaflglpaaGreatX02
set_option maxRecDepth 100000
set_option maxHeartbeats 8000000
set_option linter.all false
namespace Go.cF
section
variable{P:cf}{ρ:cR}{v u:cd}{cs:List Frame}
theorem gN.length{X X':List Frame}(h:gN P ρ X X'):X.length=X'.length:=by
 induction h with
 |nil=>rfl
 |cons _ _ a=>simp[a]
def dw.still(w:WR ρ v u){b a:cj}(h:qB P ρ cs b a){es:Array Event}:dw P ρ v u cs (.go b v es) (.go a u):=
 .inr ⟨ρ,a,u,#[],rfl,fe.refl w,h⟩
theorem dw.run{α n:Type}{A:cR->α->n->Prop}{s:Sem α}{s':Sem n}(w:WR ρ v u)(h:SR P A ρ s s'):(∃j v1 es,s.runT P v #[]=(.halt j v1,es)/\j.dead=true)\/(∃a b v1 e c es d,s.runT P v #[]=(.ok a v1,es)/\s'.runT (P.ir ρ.fs) u #[]=(.ok b e,d)/\A c a b/\fe ρ c v u v1 e d)\/(∃a b v1 e c es d,s.runT P v #[]=(.halt (.panic a) v1,es)/\s'.runT (P.ir ρ.fs) u #[]=(.halt (.panic b) e,d)/\(VR c a b/\wM c a)/\fe ρ c v u v1 e d):=by
 have g:=h.run w #[] #[];unfold lX at g;generalize s.runT P v #[]=r at g⊢;obtain⟨r,i⟩:=r;cases r with
 |ok a v1=>
  obtain⟨b,e,c,f,k,l,m⟩:=g;exact .inr (.inl ⟨a,b,v1,e,c,i,f,rfl,by simpa using k,l,m⟩)
 |halt j v1=>
  cases j with
  |panic x=>
   obtain⟨b,e,c,f,k,l,m⟩:=g;exact .inr (.inr ⟨x,b,v1,e,c,i,f,rfl,by simpa using k,l,m⟩)
  |_=>exact .inl ⟨_,_,_,rfl,g⟩
theorem dw.after{b:cR}{v1 j:cd}{s s':GStep}{f a c:Array Event}(w:WR ρ v u)(m:fe ρ b v u v1 j c)(d:∀e∈a,e∈c)(k:dw P b v1 j cs s s'):dw P ρ v u cs (GStep.after f s) (GStep.after a s'):=by
 cases s with
 |go t x l=>
  rcases k with n|⟨g,h,p,i,rfl,q,r⟩;exact .inl n;exact .inr ⟨g,h,p,a++i,rfl,(m.sub d).trans w q,r⟩
 |ended o y l=>trivial
 |_=>exact k.elim
def jo.kind{f:cm}{k a:List Item}(h:jo P ρ f k a):(match k with| .call _ true _ _::_=>CallKind.wrapped|_=>.normal)=.normal/\(match a with| .call _ true _ _::_=>CallKind.wrapped|_=>.normal)=.normal:=by
 cases h with
 |nil=>exact⟨rfl,rfl⟩
 |cons h _=>cases h<;>exact⟨rfl,rfl⟩
def qB.mk'{fr a:Frame}{X X':List Frame}(h:dC P ρ fr a)(b:gN P ρ X X'):qB P ρ cs {frame:=fr,callers:=X++[floor],status:=.running,dying:=none} {frame:=a,callers:=X'++cs,status:=.running,dying:=none}:=
 ⟨.fr h,⟨X,X',rfl,rfl,b⟩,⟨rfl,rfl⟩,⟨rfl,rfl⟩,⟨rfl,rfl⟩⟩
def qB.top{fr a:Frame}{X X':List Frame}(h:GS P ρ fr a)(b:gN P ρ X X'):qB P ρ cs {frame:=fr,callers:=X++[floor],status:=.running,dying:=none} {frame:=a,callers:=X'++cs,status:=.running,dying:=none}:=
 ⟨h,⟨X,X',rfl,rfl,b⟩,⟨rfl,rfl⟩,⟨rfl,rfl⟩,⟨rfl,rfl⟩⟩
def IG{l l':Nat}{f:cm}{xs xs':Array ce}{a b:Code}(c:ρ.r l l')(d:ρ.S f=true)(e:ρ.hole f=false)(g:ρ.df f=false)(i:ρ.ok f a=true)(j:ρ.ok f b=true)(h:eT ρ xs xs')(k:CallKind):dC P ρ (Frame.round l f xs a b k) (Frame.round l' f xs' a b k):=
 ⟨rfl,⟨d,e⟩,h,.cons (.code i) (.cons .beginRound (.cons (.code j) .nil)),.nil,.run,rfl,.inr ⟨l,l',rfl,rfl,c,g⟩⟩
def CH(F:Good P ρ)(w:WR ρ v u){fr g:Frame}{X X':List Frame}(h:dC P ρ fr g)(D:gN P ρ X X'){s s':Sem Next}(G:SN P ρ s s'):dw P ρ v u cs (stepG.apply P true fr (X++[floor]) none s v) (stepG.apply (P.ir ρ.fs) true g (X'++cs) none s' u):=by
 have j:∀(r:Array Event),∀e∈seen (P.ir ρ.fs) g.fn (if(g.kind==CallKind.early)=true then #[]else r),e∈r:=by intro r e H;have:=jQ H;split at this;simp at this;exact this
 unfold stepG.apply;rcases dw.run w G with⟨x,E,es,e,p⟩|⟨a,b,E,I,y,es,i,e,z,n,m⟩|⟨a,b,E,I,y,es,i,e,z,n,m⟩;simp only[cX,e];cases x with
 |stuck s=>trivial
 |unsupported d=>cases d<;>first|trivial|cases p
 |_=>cases p
 simp only[cX,e,z];have A:=F.mono m.le;have q:=h.mono m.le;have l:=D.mono m.le;cases n with
 |value J=>exact dw.after w m (j i) (dw.still m.rel (qB.mk' (q.finish J) l))
 |skip=>exact dw.after w m (j i) (dw.still m.rel (qB.mk' (q.finish .undef) l))
 |enter K B=>
  refine dw.after w m (j i) ?_;have t:=dw.still (es:=#[]) m.rel (qB.top (cs:=cs) (X:=fr::X) (X':=g::X') (m.le.f▸rX A K B .normal (.inl rfl)) (.cons q l));have o:=h.todo;generalize fr.todo=k at o⊢;generalize g.todo=R at o⊢;cases o with
  |nil=>exact t
  |cons L _=>cases L<;>exact t
 |round M N x p O Q B=>
  exact dw.after w m (j i) (dw.still m.rel (qB.mk' (X:=fr::X) (X':=g::X') (IG M N x p O Q B .normal) (.cons q l)))
 |defer p C=>
  exact dw.after w m (j i) (dw.still m.rel (qB.mk' ((q.mW (.cons p (.inl C) q.defers)).finish .undef) l))
 simp only[cX,e,z];exact dw.after w m (j i) (dw.still m.rel (qB.mk' ((h.mono m.le).raise (c:=[{v:=a,recovered:=false}]) (c':=[{v:=b,recovered:=false}]) (.cons ⟨n.1,rfl,rfl,n.2⟩ .nil)) (D.mono m.le)))
def yE(w:WR ρ v u){fr o:Frame}{X X':List Frame}(h:dC P ρ fr o)(k:gN P ρ X X'){x B:ce}(C:VR ρ x B)(main n:Bool):dw P ρ v u cs (doReturn P main fr (X++[floor]) none x v) (doReturn (P.ir ρ.fs) n o (X'++cs) none B u):=by
 have F:=h.kind;cases k with
 |nil=>
  simp only[sM,doReturn];cases s:fr.kind;all_goals simp only[]
  all_goals exact .inl ⟨rfl,rfl,rfl,rfl,.inl rfl⟩
 | @cons c q X X' i k=>
  simp only[qn,doReturn];rw[<-F];have j:dC P ρ (match c.mode with
     | .panicking ({recovered:=true,..}::g)=>
      match g.dropWhile (!·.goexit)with
      |[]=>{c with mode:=.returning}
      |rest=>{c with mode:=.panicking rest}
     |_=>c)
   (match q.mode with
     | .panicking ({recovered:=true,..}::g)=>
      match g.dropWhile (!·.goexit)with
      |[]=>{q with mode:=.returning}
      |rest=>{q with mode:=.panicking rest}
     |_=>q):=by
   have y:=i.mode
   have z:∀{l r:List PanicEntry},kD ρ l r->kD ρ (l.dropWhile (!·.goexit)) (r.dropWhile (!·.goexit)):=by
    intro l r h;induction h with
    |nil=>exact .nil
    |cons h t G=>
     simp only[List.dropWhile_cons,<-h.ge];split;exact G;exact .cons h t
   revert y;generalize H:c.mode=e;generalize D:q.mode=I;intro y;cases y with
   |run=>exact i
   |returning=>exact i
   |panicking A=>
    cases A with
    |nil=>exact i
    | @cons p J l r K L=>
     obtain⟨Q,d,f⟩:=p;obtain⟨M,N,O⟩:=J;obtain⟨_,E,_⟩:=K;simp only at E;subst E;cases d with
     |false=>exact i
     |true=>
      dsimp only;have:=z L;revert this;generalize l.dropWhile (!·.goexit)=m;generalize r.dropWhile (!·.goexit)=R;intro this;cases this with
      |nil=>exact i.Ea .returning
      |cons a b=>exact i.Ea (.panicking (.cons a b))
  cases s:fr.kind
  all_goals simp only[]
  exact dw.still w (qB.mk' (i.finish C) k);exact dw.still w (qB.mk' j k);exact dw.still w (qB.mk' (i.finish C) k);exact dw.still w (qB.mk' j k);exact dw.still w (qB.mk' i k)
def dw.ite{c:Prop} [Decidable c]{a b s':GStep}(d:c->dw P ρ v u cs a s')(e:¬c->dw P ρ v u cs b s'):dw P ρ v u cs (if c then a else b) s':=by split;exact d ‹_›;exact e ‹_›
def mX(x:Good P ρ)(w:WR ρ v u){fr j:Frame}{X X':List Frame}(h:dC P ρ fr j)(D:gN P ρ X X'){d E:Deferred}(o:sF ρ d E)(p:ρ.Def):dw P ρ v u cs (callDeferred P fr (X++[floor]) none d v) (callDeferred (P.ir ρ.fs) j (X'++cs) none E u):=by
 have k:∀(r:Array Event),∀e∈seen (P.ir ρ.fs) j.fn r,e∈r:=λr e H=>jQ H;unfold callDeferred;refine dw.ite (λ_=>trivial) λI=>?_;rw[cr (by intro J;apply I;revert J;have y:=h.mode;revert y;generalize fr.mode=m;generalize j.mode=R;intro y;cases o<;>cases y<;>simp)];rcases dw.run w (SR.invoke x.fit x.two o)with⟨z,F,G,e,o⟩|⟨a,b,F,K,A,G,i,e,B,n,m⟩|⟨a,b,F,K,A,G,i,e,B,n,m⟩;simp only[e];cases z with
 |stuck s=>trivial
 |unsupported g=>cases g<;>first|trivial|cases o
 |_=>cases o
 simp only[e,B];have q:=x.mono m.le;have t:=h.mono m.le;have l:=D.mono m.le;cases n with
 |value S=>exact dw.after w m (k i) (dw.still m.rel (qB.mk' t l))
 |skip=>exact dw.after w m (k i) (dw.still m.rel (qB.mk' t l))
 |enter L C=>exact dw.after w m (k i) (dw.still m.rel (qB.top (X:=fr::X) (X':=j::X') (m.le.f▸rX q L C .deferred (.inr (q.dh (p.mono m.le) _))) (.cons t l)))
 |round M N z o O Q C=>exact dw.after w m (k i) (dw.still m.rel (qB.mk' (X:=fr::X) (X':=j::X') (IG M N z o O Q C .deferred) (.cons t l)))
 |defer o _=>exact dw.after w m (k i) (dw.still m.rel (qB.mk' t l))
 simp only[e,B];exact dw.after w m (k i) (dw.still m.rel (qB.mk' ((h.mono m.le).raise (c:=[{v:=a,recovered:=false}]) (c':=[{v:=b,recovered:=false}]) (.cons ⟨n.1,rfl,rfl,n.2⟩ .nil)) (D.mono m.le)))
theorem SR.results{fn:Func}{p g:Array ce}(h:eT ρ p g):SV P ρ (results fn p) (results fn g):=by
 unfold Go.results
 have u:∀(l:List ResultVar) {i:cR},cR.Le ρ i->SR P (λρ a b=>qo ρ a b) i
  (l.mapM λx=>match x with| .tmp t=>Pure.pure (p.getD t undef)| .cell a t=>do Go.loadVar t (<-Go.asAddr (p.getD a undef)))
  (l.mapM λx=>match x with| .tmp t=>Pure.pure (g.getD t undef)| .cell a t=>do Go.loadVar t (<-Go.asAddr (g.getD a undef))):=by
  intro l;induction l with
  |nil=>intro i k;rw[List.mapM_nil,List.mapM_nil];exact .dT .nil
  |cons x l v=>
   intro i k;rw[List.mapM_cons,List.mapM_cons]
   have w:SV P i (match x with| .tmp t=>Pure.pure (p.getD t undef)| .cell a t=>do Go.loadVar t (<-Go.asAddr (p.getD a undef))) (match x with| .tmp t=>Pure.pure (g.getD t undef)| .cell a t=>do Go.loadVar t (<-Go.asAddr (g.getD a undef))):=by
    cases x with
    |tmp t=>exact .dT ((h.mono k).getD .undef t)
    |cell a t=>exact(SR.asAddr ((h.mono k).getD .undef a)).du λ_ _ _ _ y=>SR.loadVar t y
   refine SR.du w λj a b m e=>?_;refine SR.du (v (k.trans m)) λr c d n s=>?_;exact .dT (.cons (e.mono n) s)
 rw[Iz,Iz];refine SR.du (A:=λρ a b=>eT ρ a b) (SR.du (f:=λl=>Pure.pure l.toArray) (f':=λl=>Pure.pure l.toArray) (u fn.results.toList (.refl _)) λj a b _ e=>.dT e.array) λj a b _ e=>?_;refine .dT ?_;by_cases q:a.size=1;have o:b.size=1:=e.size▸q;rw[dif_pos q,dif_pos o];exact e.at_ 0 _ _ (ji (by omega)) (ji (by omega));have o:¬b.size=1:=e.size▸q;rw[dif_neg q,dif_neg o];exact e.Xv
def Mh(q:Good P ρ)(w:WR ρ v u){fr g:Frame}{X X':List Frame}(h:dC P ρ fr g)(o:gN P ρ X X')(main i:Bool):dw P ρ v u cs (unwind P main fr (X++[floor]) none v) (unwind (P.ir ρ.fs) i g (X'++cs) none u):=by
 have D:∀(r:Array Event),∀e∈seen (P.ir ρ.fs) g.fn r,e∈r:=λr e E=>jQ E;unfold unwind;have s:=h.defers;revert s;generalize fr.defers=N;generalize g.defers=F;intro s;cases s with
 |nil=>
  dsimp only;have G:=h.mode;have y:=h.fn;revert G;generalize O:fr.mode=m;generalize L:g.mode=W;intro G;cases G with
  |run=>trivial
  |panicking R=>
   dsimp only;have p:∀{fr:Frame} {Q:cf},(∃fn,Q.funcs[fr.fn]? =some fn)->fr.catches Q=false:=by rintro fr Q ⟨fn,j⟩;unfold Frame.catches;rw[j]
   obtain⟨fn,c,j,_,_⟩:=q.fit.fn _ h.fnS.1;obtain⟨t,S,H,_,_,_⟩:=q.two.fn _ h.fnS.1;rw[p ⟨fn,j⟩,p (fr:=g) (Q:=P.ir ρ.fs) ⟨t,y▸H⟩];simp only[iq,eo];cases o with
   |nil=>exact .inl ⟨rfl,rfl,rfl,rfl,.inr ⟨_,rfl⟩⟩
   |cons I o=>exact dw.still w (qB.mk' (I.raise R) o)
  |returning=>
   dsimp only;obtain⟨fn,c,j,_,_⟩:=q.fit.fn _ h.fnS.1;obtain⟨t,S,H,_,_,T⟩:=q.two.fn _ h.fnS.1;obtain rfl:fn=t:=by rw[T h.fnS.2]at j;exact(cE j).symm
   rw[<-y,j,show(P.ir ρ.fs).funcs[fr.fn]? =some fn from H];dsimp only;rcases dw.run w (SR.results (fn:=fn) h.tmps)with⟨M,z,A,e,s⟩|⟨a,b,z,J,x,A,l,e,B,k,m⟩|⟨a,b,z,J,x,A,l,e,B,k,m⟩;rw[e];cases M<;>trivial;rw[e,B];rw[m.le.f];exact dw.after w m (λe E=>jQ E) (yE m.rel (h.mono m.le) (o.mono m.le) k main i);rw[e];trivial
 | @cons d Y N F s K n=>
  cases s with
  |collected U=>
   dsimp only;rcases dw.run w (SR.takeDeferred U)with⟨M,z,A,e,s⟩|⟨a,b,z,J,x,A,l,e,B,k,m⟩|⟨a,b,z,J,x,A,l,e,B,k,m⟩;rw[e];trivial;rw[e,B];obtain⟨rfl,rfl⟩:=k;exact dw.after w m (D l) (dw.still m.rel (qB.mk' ((h.mono m.le).mW (n.mono m.le)) (o.mono m.le)));rw[e];trivial
  |fn V j C=>exact mX q w (h.mW n) o (.fn V j C) (K.resolve_right λ⟨_,h⟩=>by cases h)
  |yield j C=>exact mX q w (h.mW n) o (.yield j C) (K.resolve_right λ⟨_,h⟩=>by cases h)
  |nil C=>exact mX q w (h.mW n) o (.nil C) (K.resolve_right λ⟨_,h⟩=>by cases h)
def JP{ops:Array Oper}{e a:Array ce}(h:eT ρ e a)(j:Nat):yielded ops e j=yielded ops a j:=by
 unfold yielded;cases(ops[j]?).bind (·.dst)with
 |none=>rfl
 |some d=>
  simp only[vI];rcases h.get? d with⟨b,c⟩|⟨v,g,b,c,f⟩;rw[b,c];rw[b,c];cases f<;>rfl
def Pk(y:Good P ρ)(w:WR ρ v u){fr d:Frame}{X X':List Frame}(h:dC P ρ fr d)(s:gN P ρ X X')(main g:Bool)(j:Option Code){lost lost':GStep}(z:∃o v1 es,lost=.ended o v1 es):(∀c,j=some c->∀f,ρ.ok f c=true)->dw P ρ v u cs (match fr.roundOf with
    |none=>if(match j with|none|some .ret=>true|_=>false)=true then .go {frame:={fr with mode:=.returning},callers:=X++[floor],status:=.running,dying:=none} v else lost
    |some l=>GStep.after (seen P fr.fn ((Instr.endRound l j).runT P v #[]).2)<|match((Instr.endRound l j).runT P v #[]).1 with
     | .ok x w=>doReturn P main fr (X++[floor]) none x w
     | .halt _ w=>.ended (.stuck "range over a function: no such loop" (fr.pos P)) w)
  (match d.roundOf with
    |none=>if(match j with|none|some .ret=>true|_=>false)=true then .go {frame:={d with mode:=.returning},callers:=X'++cs,status:=.running,dying:=none} u else lost'
    |some l=>GStep.after (seen (P.ir ρ.fs) d.fn ((Instr.endRound l j).runT (P.ir ρ.fs) u #[]).2)<|match((Instr.endRound l j).runT (P.ir ρ.fs) u #[]).1 with
     | .ok x w=>doReturn (P.ir ρ.fs) g d (X'++cs) none x w
     | .halt _ w=>.ended (.stuck "range over a function: no such loop" (d.pos (P.ir ρ.fs))) w):=by
 have _:=y;intro A;rcases h.round with⟨k,n⟩|⟨l,F,k,n,B,_⟩;rw[k,n];dsimp only;have p:dC P ρ {fr with mode:=.returning,roundOf:=none} {d with mode:=.returning,roundOf:=none}:=⟨h.fn,h.fnS,h.tmps,h.todo,h.defers,.returning,h.kind,.inl ⟨rfl,rfl⟩⟩;refine dw.ite (λC=>?_) λ_=>?_;rw[cx C];exact dw.still w (qB.mk' p s);obtain⟨o,v1,es,rfl⟩:=z;trivial;rw[k,n];dsimp only;rcases dw.run w (SR.endRound B j A)with⟨G,v1,es,e,H⟩|⟨a,b,v1,D,q,es,r,e,t,i,m⟩|⟨a,b,v1,D,q,es,r,e,t,i,m⟩;rw[e];trivial;rw[e,t,m.le.f];exact dw.after w m (λe E=>jQ E) (yE m.rel (h.mono m.le) (s.mono m.le) i main g);rw[e];trivial
end
section
variable{P:cf}{ρ:cR}{v u:cd}{cs:List Frame}
def fq(a:Good P ρ){f:cm}{c:Code}(h:gh P ρ.S ρ.dim (ρ.df f) c=true):ρ.ok f c=true:=by rw[a.ok];exact h
def rY(a:Good P ρ){c:Code}(h:(match c with| .ret| .exit _| .goto _=>true|_=>false)=true)(f:cm):ρ.ok f c=true:=by rw[a.ok];cases c<;>first|rfl|cases h
theorem Sv     (hG : Good P ρ) (w : WR ρ v u) {fr oQ  : Frame} {X X' : List Frame} (h : dC     P ρ fr oQ)  (hX : gN      P ρ X X') (main main' : Bool) :
    dw    P ρ v u cs (stepG.exec P main true fr (X ++ [floor]) none v) (stepG.exec (P.ir  ρ.fs) main' true oQ  (X' ++ cs) none u) := by
  have TR  := h.fn
  have to : ∀ {k k' : List Item}, jo     P ρ fr.fn k k' → dw    P ρ v u cs (.go { frame := { fr with todo := k }, callers := X ++ [floor], status := .running, dying := none } v) (.go { frame := { oQ  with todo := k' }, callers := X' ++ cs, status := .running, dying := none } u) :=
    fun hk => dw.still    w (qB.mk'  (h.yC       hk) hX)
  have lv := fun (j : Option Code) => Pk      (cs := cs) (lost := .ended (.stuck "exit, goto: no such block or label" (fr.pos P)) v) (lost' := .ended (.stuck "exit, goto: no such block or label" (oQ.pos  (P.ir  ρ.fs))) u) hG w h hX main main' j ⟨_, _, _, rfl⟩
  have Sw  := hG.ok
  have yF    := h.todo
  unfold stepG.exec
  revert yF    lv
  generalize Uc  : fr.todo = k0
  generalize Sy   : oQ.todo  = YE
  intro lv yF
  cases yF    with
  | nil => exact lv none (fun c e => by cases e)
  | @cons x x' k k' hx hk =>
    cases hx with
    | @code c hc =>
      have tt  := hc
      rw [Sw]  at tt
      dsimp only at tt
      cases c with
      | ret => exact lv (some .ret) (fun c e => by cases e; exact rY      hG rfl)
      | skip => exact to hk
      | label l => exact to hk
      | seq a b =>
        simp only [gh,     Bool.and_eq_true] at tt
        exact to (.cons (.code (fq          hG tt.1))  (.cons (.code (fq          hG tt.2))  hk))
      | cond c a b =>
        simp only [gh,     Bool.and_eq_true] at tt
        dsimp only
        have V5  := h.eval c tt.1.1
        revert V5
        generalize fr.eval c = x
        generalize oQ.eval  c = x'
        intro V5
        cases V5  with
        | bool t =>
          refine to (.cons (.code ?_) hk)
          split
          · exact fq          hG tt.1.2
          · exact fq          hG tt.2
        | _ => trivial
      | block id b =>
        exact to (.cons (.code (fq          hG tt))  (.cons (.inBlock id) hk))
      | loop b =>
        exact to (.cons (.code (fq          hG tt))  (.cons (.inLoop (fq          hG tt))  hk))
      | scope b =>
        exact to (.cons (.code (fq          hG tt))  (.cons (.inScope (fq          hG tt))  hk))
      | exit id =>
        dsimp only
        rcases hk.exitTo id with ⟨e1, e2⟩ | ⟨j, j', e1, e2, hj⟩
        · rw [e1, e2]; exact lv (some (.exit id)) (fun c e => by cases e; exact rY      hG rfl)
        · rw [e1, e2]; exact to hj
      | goto l =>
        dsimp only
        rcases hk.gotoIn hG l with ⟨e1, e2⟩ | ⟨j, j', e1, e2, hj⟩
        · rw [e1, e2]; exact lv (some (.goto l)) (fun c e => by cases e; exact rY      hG rfl)
        · rw [e1, e2]; exact to hj
      | refuse YF  => trivial
      | rangeFunc f ps a b =>
        simp only [gh,     Bool.and_eq_true] at tt
        simp only [Bool.not_eq_true'] at tt
        dsimp only
        rw [show (Instr.enterLoop oQ.fn  oQ.tmps  ps a b oQ.roundOf)  = (Instr.enterLoop fr.fn oQ.tmps  ps a b oQ.roundOf)  from by rw [TR]]
        rcases dw.run    w (SR.enterLoop h.fnS.1 h.fnS.2 h.tmps ps a b (fq          hG tt.1.2)  (fq          hG tt.2)  tt.1.1.1  (h.round.imp id fun ⟨l, l', a, b, c, _⟩ => ⟨l, l', a, b, c⟩)) with ⟨hh, v1, es, e, hd⟩ | ⟨x, y, v1, u1, mV, es, Pa,  e, e', Mi,  m⟩ | ⟨x, y, v1, u1, mV, es, Pa,  e, e', Mi,  m⟩
        · rw [e]; trivial
        · rw [e, e']
          obtain ⟨l, mk⟩ := x
          obtain ⟨l', mk'⟩ := y
          obtain ⟨hl, Ud⟩  := Mi
          simp only at hl Ud
          have TS  := hG.mono m.le
          have h' := h.mono m.le
          have Sz   : uk   mV mk mk' := by
            rcases Ud  with ⟨rfl, rfl⟩ | ⟨d, d', rfl, rfl, hd, hb⟩
            · exact .nil
            · exact .cons hd (.inr hb) .nil
          have GT  : dC     P mV { fr with todo := .inRangeFunc l :: k, defers := mk ++ fr.defers } { oQ  with todo := .inRangeFunc l' :: k', defers := mk' ++ oQ.defers  } :=
            ⟨h'.fn, h'.fnS, h'.tmps, .cons (.inRangeFunc hl) (hk.mono m.le), Sz.append   h'.defers, h'.mode, h'.kind, h'.round⟩
          refine dw.after    w m (fun e he => jQ       he) ?_
          dsimp only
          rw [m.le.f]
          refine CH      TS  m.rel GT  (hX.mono m.le) ?_
          unfold resolve
          dsimp only
          refine SR.du  (SR.ofValue (GT.eval  f (m.le.s ▸ tt.1.1.2))  (xs := _) (xs' := _) ?_) fun Re d d' hle hd => SR.invoke ((TS.mono  hle).fit) ((TS.mono  hle).two) hd
          simp only [List.map_toArray, List.map_cons, List.map_nil, Frame.eval]
          exact eT.one  (.yield hl)
        · rw [e]; trivial
      | region id ops draw =>
        simp only [gh,     Array.all_eq_true_iff_forall_mem] at tt
        have JQ   : ∀ (i : Nat) o, ops[i]? = some o → qP     P ρ.S ρ.dim (ρ.df fr.fn) o = true := fun i o e => tt  o (Array.mem_of_getElem? e)
        dsimp only
        cases draw with
        | false => exact to (.cons (.inRegion _ JQ)   hk)
        | true =>
          simp only [Bool.not_true, Bool.false_eq_true, if_false]
          rw [show Go.choose (.order oQ.fn  id) = Go.choose (.order fr.fn id) from by rw [TR]]
          have V6  : SR P (fun _ (a b : Nat) => a = b) ρ (Go.choose (.order fr.fn id)) (Go.choose (.order fr.fn id)) := .choose fun n => .pure rfl
          have hr := V6.run  w #[] #[]
          unfold lX   at hr
          rw [Sem.runT_eq, Sem.runT_eq] at hr
          simp only at hr
          revert hr
          generalize (Go.choose (.order fr.fn id)).run P v = r
          intro hr
          cases r with
          | ok t v1 =>
            obtain ⟨b, u1, mV, Z4,  e1, rfl, m⟩ := hr
            have e2 : (Go.choose (.order fr.fn id)).run (P.ir  ρ.fs) u = .ok t u1 := congrArg Prod.fst e1
            rw [e2]
            have h' := h.mono m.le
            refine .inr ⟨mV, _, u1, #[], rfl, m.sub (fun e he => by simp at he), ?_⟩
            refine qB.mk'  (h'.yC       ?_) (hX.mono m.le)
            have Ue    : ∀ (i : Nat) o, ops[i]? = some o → qP     P mV.S mV.dim (mV.df fr.fn) o = true := by rw [← m.le.s, ← m.le.d, ← m.le.w]; exact JQ
            exact .cons (.inRegion _ Ue)    (hk.mono m.le)
          | halt hh v1 => trivial
    | inBlock id => exact to hk
    | inScope hc => exact to hk
    | inLoop hc => exact to (.cons (.code hc) (.cons (.inLoop hc) hk))
    | inRangeFunc hl => trivial
    | beginRound =>
      dsimp only
      refine CH      hG w h hX ?_
      rcases h.round with ⟨e1, e2⟩ | ⟨l, l', e1, e2, hr, _⟩
      · rw [e1, e2]; exact .dead rfl
      · rw [e1, e2]
        exact SR.du  (SR.beginRound hr) fun _ _ _ _ _ => .dT  .skip
    | endRangeFunc hl =>
      dsimp only
      rcases dw.run    w (SR.endLoop hl) with ⟨hh, v1, es, e, hd⟩ | ⟨x, y, v1, u1, mV, es, Pa,  e, e', Mi,  m⟩ | ⟨x, y, v1, u1, mV, es, Pa,  e, e', Mi,  m⟩
      · rw [e]
        cases hh <;> first | trivial | (cases hd; done)
      · rw [e, e']
        obtain ⟨rfl, hj⟩ := Mi
        refine dw.after    w m (fun e he => jQ       he) (dw.still    m.rel (qB.mk'  ((h.mono m.le).yC       ?_) (hX.mono m.le)))
        cases x with
        | none => exact hk.mono m.le
        | some c => exact .cons (.code (hj c rfl _)) (hk.mono m.le)
      · rw [e, e']
        exact dw.after    w m (fun e he => jQ       he) (dw.still    m.rel (qB.mk'  ((h.mono m.le).raise (c := [{ v := x, recovered := false }]) (c' := [{ v := y, recovered := false }]) (.cons ⟨Mi.1,  rfl, rfl, Mi.2⟩  .nil)) (hX.mono m.le)))
    | @inRegion ops td JQ   =>
      cases td with
      | nil => exact to hk
      | cons i rest =>
        dsimp only
        have hy : ((ops[i]?).map (Region.wanted · (yielded ops fr.tmps))).getD false = ((ops[i]?).map (Region.wanted · (yielded ops oQ.tmps))).getD  false := by
          have : yielded ops fr.tmps = yielded ops oQ.tmps  := funext (JP        h.tmps)
          rw [this]
        rw [← hy]
        refine dw.ite    (fun hc => ?_) fun hc => ?_
        · rw [if_pos hc]
          cases ho : ops[i]? with
          | none => rw [ho] at hc; cases hc
          | some o =>
            unfold stepG.oper
            have e1 : fr.oper? = some o := by simp only [Frame.oper?, Uc];  exact ho
            have e2 : oQ.oper?  = some o := by simp only [Frame.oper?, Sy];   exact ho
            rw [e1, e2]
            dsimp only
            have SA  := JQ   i o ho
            have hs : SN P ρ (execOp fr.eval o) (execOp oQ.eval  o) := SR.exec hG.fit hG.two (fun x hx => h.eval x hx) (fun e => ⟨_, e⟩) (fun _ => ⟨rfl, rfl⟩) o SA
            have main := CH      (cs := cs) hG w h hX hs
            rcases h.round with ⟨e1, e2⟩ | ⟨l, l', e1, e2, hr, V7⟩
            · rw [e1, e2]; exact main
            · rw [e1, e2]
              cases Uf  : o.op <;> first | exact main | skip
              rename_i c
              simp only [qP,     Bool.and_eq_true, Uf,  GK]   at SA
              exfalso
              have := SA.2
              rw [V7]  at this
              revert this
              split <;> (intro h; cases h)
        · rw [if_neg hc]
          exact dw.still    w (qB.mk'  (h.finish .undef) hX)
end
section
variable{P:cf}{ρ:cR}{v u:cd}{cs:List Frame}
def GU(o:Good P ρ)(w:WR ρ v u){g g':cj}(h:qB P ρ cs g g')(i:dC P ρ g.frame g'.frame)(main d:Bool):dw P ρ v u cs (stepG P main g v) (stepG (P.ir ρ.fs) d g' u):=by
 obtain⟨k,F,G,H,j⟩:=g;obtain⟨e,C,D,E,f⟩:=g';obtain⟨_,⟨X,p,q,r,s⟩,⟨t,x⟩,⟨y,z⟩,A,B⟩:=h;simp only at q r t x y z A B i;subst q r t x y z A B;have l:=Sv (cs:=cs) o w i s main d;have c:=Mh (cs:=cs) o w i s main d;have n:=i.mode;unfold stepG;dsimp only;revert l c;generalize stepG.exec P main true k (X++[floor]) none v=a;generalize stepG.exec (P.ir ρ.fs) d true e (p++cs) none u=I;generalize unwind P main k (X++[floor]) none v=b;generalize unwind (P.ir ρ.fs) d e (p++cs) none u=J;intro l c;revert n;generalize k.mode=m;generalize e.mode=K;intro n;cases n with
 |run=>exact l
 |returning=>exact c
 |panicking _=>exact c
theorem yD.ended{P:cf}{g:cj}(h:yD g)(main:Bool)(w:cd):∃o w' es,stepG P main g w=.ended o w' es:=by obtain⟨j,k,l,m,a⟩:=g;obtain⟨b,d,e,f,i⟩:=h;simp only at e b d f i;subst e b d f;rcases i with rfl|⟨c,rfl⟩;exact⟨_,_,_,rfl⟩;exact⟨_,_,_,rfl⟩
end
abbrev Ta:=Nat->Question->Nat
def cI(v:cd)(T:Ta):cd:={v with tape:=T}
def Mj{α:Type}:Result α->cd
 | .ok _ w=>w
 | .halt _ w=>w
def SB{α:Type}(T:Ta):Result α->Result α
 | .ok a w=>.ok a (cI w T)
 | .halt h w=>.halt h (cI w T)
def Ug{α:Type}:Result α->Prop
 | .ok _ _=>False
 | .halt h _=>h.dead=true
def Mk(v v1:cd)(T:Ta):Prop:=∀j,v.drawn<=j->j<v1.drawn->T j=v.tape j
structure lK(v v1:cd)(C:Ta->Prop):Prop where
 le:v.drawn<=v1.drawn
 tape:v1.tape=v.tape
 run:∀T,Mk v v1 T->C T
theorem lK.trans{v v1 d:cd}{C a:Ta->Prop}(h:v.drawn<=v1.drawn)(e:v1.tape=v.tape)(k:lK v1 d a)(g:∀T,Mk v v1 T->a T->C T):lK v d C:=
 ⟨cJ h k.le,k.tape.trans e,λT f=>g T (λj b c=>f j b (dl c k.le)) (k.run T λj b c=>by rw[e];exact f j (cJ h b) c)⟩
def SR.JR{P:cf}{α W:Type}{A:cR->α->W->Prop}{ρ:cR}{s:Sem α}{s':Sem W}(h:SR P A ρ s s'):
 ∀{v u:cd},WR ρ v u->∀es,Ug (s.runT P v es).1\/lK v (Mj (s.runT P v es).1) λT=>s.runT P (cI v T) es=(SB T (s.runT P v es).1,(s.runT P v es).2):=by
 induction h with
 | @pure ρ a b h=>exactλ{v u} d es=>.inr ⟨cz _,rfl,λT _=>rfl⟩
 | @load ρ a a' k E I _ i=>
  intro v u d es;cases F:v.cell? a with
  |none=>
   cases I with
   | @mk b c o s p=>
    obtain⟨X,e,j⟩:=uj (P:=P) (a:=⟨b,o,s⟩) (at_:=(Mode.plain==Mode.atomic)) (d.noView p) (d.noPending p);refine .inl ?_;simp only[Sem.runT,F,e];exact j
  |some x=>
   obtain⟨N,aa,Q⟩:=d.cell I F;rcases i x N Q d (es.push ⟨.cell a,false,false⟩)with j|g;refine .inl ?_;simp only[Sem.runT,F];exact j;refine .inr ?_;have z:∀T,(cI v T).cell? a=some x:=λT=>F;simp only[Sem.runT,F,z];exact g
 | @store ρ a a' x N k E I Q _ i=>
  intro v u d es;by_cases B:(∃f,x=.agg f)\/∃f,x=.tuple f;rcases B with⟨f,rfl⟩|⟨f,rfl⟩<;>exact .inl rfl;have z:∀(a:Addr) (v:cd) (es:Array Event),(Sem.store .plain a x k).runT P v es=(match v.cell? a with
   |some _=>if v.frozen? a then(.halt (.unsupported (.unsafePointer "a write to bytes that a string shares")) v,es)else k.runT P (v.setCell a x) (es.push ⟨.cell a,true,false⟩)
   |none=>match v.farStore P a x false with
    | .ok (w,C)=>k.runT P w (es++C.toArray.map (⟨.cell ·,true,false⟩))
    | .error h=>(.halt h v,es)):=by
   intro a v es;cases x<;>first|rfl|exact absurd (.inl ⟨_,rfl⟩) B|exact absurd (.inr ⟨_,rfl⟩) B
  cases J:v.cell? a with
  |none=>
   cases I with
   | @mk b c o s p=>
    obtain⟨X,e,j⟩:=sQ (P:=P) (a:=⟨b,o,s⟩) (x:=x) (at_:=false) (d.noView p) (d.noPending p);refine .inl ?_;rw[z];simp only[J,e];exact j
  |some y=>
   by_cases Y:v.frozen? a=true;refine .inl ?_;rw[z];simp only[J,Y,cX];exact rfl;have G:v.frozen? a=false:=by simpa using Y
   obtain⟨hu,K⟩:=fe.store d I Q J G;have L:∀T,(cI v T).cell? a=some y:=λT=>J;have e3:∀T,(cI v T).frozen? a=false:=λT=>G;have e4:∀T,(cI v T).setCell a x=cI (v.setCell a x) T:=λT=>rfl;simp only[z,J,G,L,e3,e4,iq,eo];rcases i K.rel (es.push ⟨.cell a,true,false⟩)with j|g;exact .inl j;exact .inr ⟨g.le,g.tape,g.run⟩
 | @new ρ o R k E ho _ i=>
  intro v u d es;have K:=fe.new d ho;rcases i v.heap.size u.heap.size d.Sq d.Ss (d.low _ (cz _)) K.rel es with j|g;exact .inl j;exact .inr ⟨g.le,g.tape,g.run⟩
 | @getObj ρ r O k E p _ i=>
  intro v u d es;obtain⟨o,R,D,h2,Z⟩:=d.obj r O p;by_cases g:∃f t l,o=.cells f t l;obtain⟨f,t,l,rfl⟩:=g;refine .inl ?_;simp only[Sem.runT,D];exact rfl;have n:∀f t l,o≠ .cells f t l:=λf t l e=>g ⟨f,t,l,e⟩;have z:∀{M:Type} (k:Obj->Sem M) (w:cd) (r:Nat) (o:Obj) (es:Array Event),w.heap[r]? =some o->(∀f t l,o≠ .cells f t l)->(Sem.getObj r k).runT P w es=(k o).runT P w (es.push ⟨.obj r,false,o.isChan⟩):=by intro M k w r o es h H;cases o<;>first|exact absurd rfl (H _ _ _)|simp only[Sem.runT,h]
  have L:∀T,(Sem.getObj r k).runT P (cI v T) es=(k o).runT P (cI v T) (es.push ⟨.obj r,false,o.isChan⟩):=λT=>z k _ r o es D n;simp only[z k v r o es D n,L];exact i o R (Z.plain n) n d _
 | @setObj ρ r O x N k E p F S _ i=>
  intro v u d es;obtain⟨o,R,D,h2,Z⟩:=d.obj r O p;by_cases g:∃f t l,o=.cells f t l;obtain⟨f,t,l,rfl⟩:=g;refine .inl ?_;simp only[Sem.runT,D];exact rfl;have n:∀f t l,o≠ .cells f t l:=λf t l e=>g ⟨f,t,l,e⟩;have z:∀{M:Type} (k:Sem M) (w:cd) (r:Nat) (x o:Obj) (es:Array Event),w.heap[r]? =some o->(∀f t l,o≠ .cells f t l)->(Sem.setObj r x k).runT P w es=k.runT P {w with heap:=w.heap.setIfInBounds r x} (es.push ⟨.obj r,true,x.isChan⟩):=by intro M k w r x o es h H;cases o<;>first|exact absurd rfl (H _ _ _)|simp only[Sem.runT,h]
  have L:∀T,(Sem.setObj r x k).runT P (cI v T) es=k.runT P (cI {v with heap:=v.heap.setIfInBounds r x} T) (es.push ⟨.obj r,true,x.isChan⟩):=λT=>z k _ r x o es D n;simp only[z k v r x o es D n,L];have K:=fe.setObj d p F D n S;rcases i K.rel (es.push ⟨.obj r,true,x.isChan⟩)with j|g;exact .inl j;exact .inr ⟨g.le,g.tape,g.run⟩
 | @shape ρ r O k E p _ _ i ib=>
  intro v u d es;rcases d.shape p with⟨U,_⟩|⟨U,m,y,e,_⟩;exact i U _ d es;have h:=ib U m y d es;rw[<-e]at h;exact h
 | @choose ρ q k E _ i=>
  intro v u d es;by_cases hq:q.forced=true;simp only[Sem.runT,hq,cX];exact i 0 d es;have V:q.forced=false:=by simpa using hq
  simp only[Sem.runT,V,iq,eo];rcases i (q.cut (v.tape v.drawn q)) d.draw es with j|g;exact .inl j;refine .inr (lK.trans (v1:={v with drawn:=v.drawn+1}) (sP _) rfl g λT hT h=>?_);rw[show(cI v T).tape=T from rfl,show(cI v T).drawn=v.drawn from rfl,hT v.drawn (cz _) (Nat.lt_succ_self _)];exact h
 |program _ i=>exactλd es=>i d es
 | @noRoom ρ k E _ i=>exactλ{v u} d es=>i d _
 | @panic ρ x N h=>exactλ{v u} d es=>.inr ⟨cz _,rfl,λT _=>rfl⟩
 |dead j=>exactλ{v u} d es=>.inl j
 | @never ρ s s' h=>
  intro v u d es;obtain⟨X,w',e,j⟩:=h v;refine .inl ?_;rw[mU,e];exact j
def dp(F:cd->GStep)(v:cd):Prop:=
 match F v with
 | .go b a c=>lK v a λT=>F (cI v T)=.go b (cI a T) c
 |_=>True
def lK.refl(v:cd){C:Ta->Prop}(h:∀T,C T):lK v v C:=⟨cz _,rfl,λT _=>h T⟩
theorem dp.go(v:cd)(g:cj)(es:Array Event):dp (λw=>.go g w es) v:=lK.refl v λ_=>rfl
theorem dp.ended(v:cd)(o:Outcome)(es:Array Event):dp (λw=>.ended o w es) v:=trivial
theorem dp.after{v:cd}{F:cd->GStep}(es:Array Event)(h:dp F v):dp (λw=>GStep.after es (F w)) v:=by
 unfold dp at*;dsimp only;revert h;generalize c:F v=x;intro h;cases x with
 |go d e a=>exact⟨h.le,h.tape,λT b=>by rw[h.run T b];rfl⟩
 |_=>trivial
def dp.ite{v:cd}{c:Prop} [Decidable c]{F b:cd->GStep}(h:c->dp F v)(d:¬c->dp b v):dp (λw=>if c then F w else b w) v:=by by_cases a:c;have:=h a;simp only[a,cX];exact this;have:=d a;simp only[a,eo];exact this
def dp.congr{v:cd}{F a:cd->GStep}(h:dp F v)(e:∀T,a (cI v T)=F (cI v T)):dp a v:=by
 have b:a v=F v:=e v.tape;unfold dp at*;rw[b];revert h;generalize F v=x;intro h;cases x with
 |go f g c=>exact⟨h.le,h.tape,λT d=>by rw[e];exact h.run T d⟩
 |_=>trivial
def Uh(s:GStep):Prop:=match s with| .go _ _ _=>False|_=>True
section
variable{P:cf}{ρ:cR}{v u:cd}{cs:List Frame}
theorem dp.run{α p:Type}{A:cR->α->p->Prop}{s:Sem α}{s':Sem p}(w:WR ρ v u)(h:SR P A ρ s s')(K:Result α->Array Event->GStep) (q:∀g v1 es,g.dead=true->Uh (K (.halt g v1) es))
 (r:∀a b v1 l d es f,A d a b->fe ρ d v u v1 l f->dp (λw=>K (.ok a w) es) v1)
 (t:∀a v1 es,dp (λw=>K (.halt (.panic a) w) es) v1):
 dp (λw=>K (s.runT P w #[]).1 (s.runT P w #[]).2) v:=by
 rcases dw.run w h with⟨g,v1,es,e,y⟩|⟨a,b,v1,l,d,es,f,e,z,i,m⟩|⟨a,b,v1,l,d,es,f,e,z,i,m⟩;have:=q g v1 es y;unfold dp;simp only[e];revert this;generalize K (.halt g v1) es=x;intro B;cases x with
 |go _ _ _=>exact B.elim
 |_=>trivial
 have c:=h.JR w #[];rw[e]at c;rcases c with c|c;exact c.elim;have k:=r a b v1 l d es f i m;unfold dp at*;simp only[e];dsimp only at k;revert k;generalize C:K (.ok a v1) es=x;intro k;cases x with
 |go D E n=>
  refine lK.trans c.le c.tape k λT o h=>?_;rw[c.run T λj a b=>o j a b];exact h
 |_=>trivial
 have c:=h.JR w #[];rw[e]at c;rcases c with c|c;exact absurd (show Halt.dead (.panic a)=true from c) (by intro g;cases g);have k:=t a v1 es;unfold dp at*;simp only[e];dsimp only at k;revert k;generalize C:K (.halt (.panic a) v1) es=x;intro k;cases x with
 |go D E n=>
  refine lK.trans c.le c.tape k λT o h=>?_;rw[c.run T λj a b=>o j a b];exact h
 |_=>trivial
end
section
variable{P:cf}{ρ:cR}{v u:cd}{cs:List Frame}
def lK.runs{α k:Type}{A:cR->α->k->Prop}{s:Sem α}{s':Sem k}(w:WR ρ v u)(h:SR P A ρ s s'):(∃g v1 es,s.runT P v #[]=(.halt g v1,es)/\g.dead=true)\/
 (∃a b v1 j d es f,s.runT P v #[]=(.ok a v1,es)/\A d a b/\fe ρ d v u v1 j f/\lK v v1 λT=>s.runT P (cI v T) #[]=(.ok a (cI v1 T),es))\/
 (∃a v1 es,s.runT P v #[]=(.halt (.panic a) v1,es)/\lK v v1 λT=>s.runT P (cI v T) #[]=(.halt (.panic a) (cI v1 T),es)):=by
 have c:=h.JR w #[];rcases dw.run w h with⟨g,v1,es,e,l⟩|⟨a,b,v1,j,d,es,f,e,n,i,m⟩|⟨a,b,v1,j,d,es,f,e,n,i,m⟩;exact .inl ⟨g,v1,es,e,l⟩;rw[e]at c;rcases c with c|c;exact c.elim;exact .inr (.inl ⟨a,b,v1,j,d,es,f,e,i,m,c⟩);rw[e]at c;rcases c with c|c;exact absurd (show Halt.dead (.panic a)=true from c) (by intro g;cases g);exact .inr (.inr ⟨a,v1,es,e,c⟩)
def CI(w:WR ρ v u){fr:Frame}{cl:List Frame}{s s':Sem Next}(l:SN P ρ s s'):dp (λv=>stepG.apply P true fr cl none s v) v:=by
 rcases lK.runs w l with⟨n,h,i,e,j⟩|⟨a,b,h,t,o,i,p,e,g,m,d⟩|⟨a,h,i,e,d⟩;unfold dp stepG.apply;simp only[cX,e];cases n with
 |stuck s=>trivial
 |unsupported c=>cases c<;>first|trivial|cases j
 |_=>cases j
 unfold dp stepG.apply;simp only[cX,e];cases g with
 |enter x y=>
  have:∀(k:List Item) (X:CallKind->Prop),(X .normal)->(X .wrapped)->X (match k with| .call _ true _ _::_=>.wrapped|_=>.normal):=by intro k X q r;split;exact r;exact q
  refine⟨d.le,d.tape,λT f=>?_⟩;simp only[d.run T f];rfl
 |_=>
  refine⟨d.le,d.tape,λT f=>?_⟩;simp only[d.run T f];rfl
 unfold dp stepG.apply;simp only[cX,e];refine⟨d.le,d.tape,λT f=>?_⟩;simp only[d.run T f];rfl
def yG{fr:Frame}{cl:List Frame}(main:Bool)(x:ce)(a:cl≠[]):dp (λv=>doReturn P main fr cl none x v) v:=by
 cases cl with
 |nil=>exact absurd rfl a
 |cons c cl=>
  unfold dp doReturn;dsimp only;cases fr.kind<;>exact lK.refl v λT=>rfl
def mY(w:WR ρ v u){fr:Frame}{cl:List Frame}{d j:Deferred}(g:SN P ρ (Go.invoke d.target d.args) (Go.invoke j.target j.args)):dp (λv=>callDeferred P fr cl none d v) v:=by
 unfold callDeferred;refine dp.ite (λ_=>dp.ended v _ #[]) λ_=>?_;rcases lK.runs w g with⟨n,k,l,e,g⟩|⟨a,b,k,q,o,l,p,e,h,m,f⟩|⟨a,k,l,e,f⟩;unfold dp;simp only[e];cases n with
 |stuck s=>trivial
 |unsupported c=>cases c<;>first|trivial|cases g
 |_=>cases g
 unfold dp;simp only[e];cases h with
 |_=>
  refine⟨f.le,f.tape,λT i=>?_⟩;simp only[f.run T i];rfl
 unfold dp;simp only[e];refine⟨f.le,f.tape,λT i=>?_⟩;simp only[f.run T i];rfl
def Ml(g:Good P ρ)(w:WR ρ v u){fr i:Frame}{cl:List Frame}(o:cl≠[])(h:dC P ρ fr i)(main:Bool):dp (λv=>unwind P main fr cl none v) v:=by
 unfold unwind;have j:=h.defers;revert j;generalize fr.defers=E;generalize i.defers=t;intro j;cases j with
 |nil=>
  dsimp only;have x:=h.mode;revert x;generalize F:fr.mode=m;generalize D:i.mode=L;intro x;cases x with
  |run=>exact dp.ended v _ #[]
  |panicking f=>
   dsimp only;cases cl with
   |nil=>exact absurd rfl o
   |cons c cl=>
    dsimp only;split;exact dp.ended v _ #[];exact dp.go v _ #[]
  |returning=>
   dsimp only;obtain⟨fn,c,p,_,_⟩:=g.fit.fn _ h.fnS.1;rw[p];dsimp only;rcases lK.runs (P:=P) w (SR.results (fn:=fn) h.tmps)with⟨r,l,n,e,j⟩|⟨a,b,l,G,z,n,A,e,B,m,f⟩|⟨a,l,n,e,f⟩;unfold dp;simp only[e];cases r<;>trivial;have k:=yG (P:=P) (v:=l) (fr:=fr) (cl:=cl) main a o;have s:=dp.after (seen P fr.fn n) k;unfold dp at*;simp only[e];dsimp only at s;revert s;generalize GStep.after (seen P fr.fn n) (doReturn P main fr cl none a l)=y;intro s;cases y with
   |go M N H=>
    refine lK.trans f.le f.tape s λT C r=>?_;simp only[f.run T C];exact r
   |_=>trivial
   unfold dp;simp only[e];trivial
 | @cons d O E t j I=>
  cases j with
  |collected J=>
   dsimp only;rcases lK.runs (P:=P) w (SR.takeDeferred J)with⟨r,l,n,e,j⟩|⟨a,b,l,G,z,n,A,e,B,m,f⟩|⟨a,l,n,e,f⟩;unfold dp;simp only[e];trivial;unfold dp;simp only[e];refine⟨f.le,f.tape,λT C=>?_⟩;simp only[f.run T C];rfl;unfold dp;simp only[e];trivial
  |fn K p q=>exact mY w (SR.invoke g.fit g.two (.fn K p q))
  |yield p q=>exact mY w (SR.invoke g.fit g.two (.yield p q))
  |nil q=>exact mY w (SR.invoke g.fit g.two (.nil q))
end
section
variable{P:cf}{ρ:cR}{v u:cd}{cs:List Frame}
def Pm(w:WR ρ v u){fr p:Frame}{cl:List Frame}(q:cl≠[])(h:dC P ρ fr p)(main:Bool)(j:Option Code)(o:Outcome):(∀c,j=some c->∀f,ρ.ok f c=true)->dp (λv=>
  (match fr.roundOf with
    |none=>if(match j with|none|some .ret=>true|_=>false)=true then .go {frame:={fr with mode:=.returning},callers:=cl,status:=.running,dying:=none} v else .ended o v
    |some l=>GStep.after (seen P fr.fn ((Instr.endRound l j).runT P v #[]).2)<|match((Instr.endRound l j).runT P v #[]).1 with
     | .ok x w=>doReturn P main fr cl none x w
     | .halt _ w=>.ended (.stuck "range over a function: no such loop" (fr.pos P)) w)) v:=by
 intro t;rcases h.round with⟨r,z⟩|⟨l,G,r,z,A,_⟩;rw[r];dsimp only;exact dp.ite (λ_=>dp.go v _ #[]) λ_=>dp.ended v _ #[];rw[r];dsimp only;rcases lK.runs (P:=P) w (SR.endRound A j t)with⟨s,d,g,e,H⟩|⟨a,b,d,I,B,g,C,e,D,m,i⟩|⟨a,d,g,e,i⟩;unfold dp;simp only[e];trivial;have k:=yG (P:=P) (v:=d) (fr:=fr) (cl:=cl) main a q;have n:=dp.after (seen P fr.fn g) k;unfold dp at*;simp only[e];dsimp only at n;revert n;generalize GStep.after (seen P fr.fn g) (doReturn P main fr cl none a d)=y;intro n;cases y with
 |go J K E=>
  refine lK.trans i.le i.tape n λT F s=>?_;simp only[i.run T F];exact s
 |_=>trivial
 unfold dp;simp only[e];trivial
theorem SC(hG:Good P ρ)(w:WR ρ v u){fr oQ:Frame}{cl:List Frame}(SD:cl≠[])(h:dC P ρ fr oQ)(main:Bool):
 dp (λv=>stepG.exec P main true fr cl none v) v:=by
 have Sw:=hG.ok;have lv:=λ(j:Option Code)=>Pm w SD h main j (.stuck "exit, goto: no such block or label" (fr.pos P));have yF:=h.todo;unfold stepG.exec;revert yF lv;generalize Uc:fr.todo=k0;generalize Sy:oQ.todo=YE;intro lv yF;cases yF with
 |nil=>exact lv none (λc e=>by cases e)
 | @cons x x' k k' hx hk=>
  cases hx with
  | @code c hc=>
   have tt:=hc;rw[Sw]at tt;dsimp only at tt;cases c with
   |ret=>exact lv (some .ret) (λc e=>by cases e;exact rY hG rfl)
   |cond c a b=>
    dsimp only;cases fr.eval c<;>first|exact dp.ended v _ #[]|exact dp.go v _ #[]
   |exit id=>
    dsimp only;cases exitTo id k with
    |none=>exact lv (some (.exit id)) (λc e=>by cases e;exact rY hG rfl)
    |some j=>exact dp.go v _ #[]
   |goto l=>
    dsimp only;cases gotoIn l k with
    |none=>exact lv (some (.goto l)) (λc e=>by cases e;exact rY hG rfl)
    |some j=>exact dp.go v _ #[]
   |refuse YF=>exact dp.ended v _ #[]
   |rangeFunc f ps a b=>
    simp only[gh,Bool.and_eq_true]at tt;simp only[Bool.not_eq_true']at tt;dsimp only;rcases lK.runs (P:=P) w (SR.enterLoop h.fnS.1 h.fnS.2 h.tmps ps a b (fq hG tt.1.2) (fq hG tt.2) tt.1.1.1 (h.round.imp id λ⟨l,l',a,b,c,_⟩=>⟨l,l',a,b,c⟩))with⟨hh,v1,es,e,hd⟩|⟨x,y,v1,u1,mV,es,Pa,e,Mi,m,Pn⟩|⟨x,v1,es,e,Pn⟩
    ·unfold dp;simp only[e];trivial
    ·obtain⟨l,mk⟩:=x;obtain⟨l',mk'⟩:=y;obtain⟨hl,Ud⟩:=Mi;simp only at hl Ud;have TS:=hG.mono m.le;have h':=h.mono m.le;have Sz:uk mV mk mk':=by
      rcases Ud with⟨rfl,rfl⟩|⟨d,d',rfl,rfl,hd,hb⟩
      ·exact .nil
      ·exact .cons hd (.inr hb) .nil
     have GT:dC P mV {fr with todo:=.inRangeFunc l::k,defers:=mk++fr.defers} {oQ with todo:=.inRangeFunc l'::k',defers:=mk'++oQ.defers}:=
      ⟨h'.fn,h'.fnS,h'.tmps,.cons (.inRangeFunc hl) (hk.mono m.le),Sz.append h'.defers,h'.mode,h'.kind,h'.round⟩
     have hs:SN P mV (do let d<-resolve (Frame.eval {fr with todo:=.inRangeFunc l::k,defers:=mk++fr.defers}) {callee:=.value f,args:=#[.const (.func (.yield l) #[] #[])],argTypes:=#[]} 0;invoke d.target d.args)
      (do let d<-resolve (Frame.eval {oQ with todo:=.inRangeFunc l'::k',defers:=mk'++oQ.defers}) {callee:=.value f,args:=#[.const (.func (.yield l') #[] #[])],argTypes:=#[]} 0;invoke d.target d.args):=by
      unfold resolve;dsimp only;refine SR.du (SR.ofValue (GT.eval f (m.le.s▸tt.1.1.2)) (xs:=_) (xs':=_) ?_) λRe d d' hle hd=>SR.invoke ((TS.mono hle).fit) ((TS.mono hle).two) hd;simp only[List.map_toArray,List.map_cons,List.map_nil,Frame.eval];exact eT.one (.yield hl)
     have k2:=dp.after (seen P fr.fn es) (CI (fr:={fr with todo:=.inRangeFunc l::k,defers:=mk++fr.defers}) (cl:=cl) m.rel hs);unfold dp at*;simp only[e];dsimp only at k2;revert k2;generalize GStep.after (seen P fr.fn es) (stepG.apply P true {fr with todo:=.inRangeFunc l::k,defers:=mk++fr.defers} cl none _ v1)=y;intro k2;cases y with
     |go g1 v2 Z5=>
      refine lK.trans Pn.le Pn.tape k2 λT hT hh=>?_;simp only[Pn.run T hT];exact hh
     |_=>trivial
    ·unfold dp;simp only[e];trivial
   |region id ops draw=>
    dsimp only;cases draw with
    |false=>exact dp.go v _ #[]
    |true=>
     simp only[Bool.not_true,Bool.false_eq_true,if_false];have V6:SR P (λ_ (a b:Nat)=>a=b) ρ (Go.choose (.order fr.fn id)) (Go.choose (.order fr.fn id)):=.choose λn=>.pure rfl;rcases lK.runs (P:=P) w V6 with⟨hh,v1,es,e,hd⟩|⟨x,y,v1,u1,mV,es,Pa,e,Mi,m,Pn⟩|⟨x,v1,es,e,Pn⟩
     ·have e1:(Go.choose (.order fr.fn id)).run P v=.halt hh v1:=by rw[Sem.runT_eq]at e;exact congrArg Prod.fst e
      unfold dp;simp only[e1]
     ·have e1:(Go.choose (.order fr.fn id)).run P v=.ok x v1:=by rw[Sem.runT_eq]at e;exact congrArg Prod.fst e
      unfold dp;simp only[e1];refine⟨Pn.le,Pn.tape,λT hT=>?_⟩;have e2:(Go.choose (.order fr.fn id)).run P (cI v T)=.ok x (cI v1 T):=by have:=Pn.run T hT;rw[Sem.runT_eq]at this;exact congrArg Prod.fst this
      simp only[e2]
     ·have e1:(Go.choose (.order fr.fn id)).run P v=.halt (.panic x) v1:=by rw[Sem.runT_eq]at e;exact congrArg Prod.fst e
      unfold dp;simp only[e1]
   |_=>exact dp.go v _ #[]
  |inRangeFunc hl=>exact dp.ended v _ #[]
  |beginRound=>
   dsimp only;refine CI (s':=(do oQ.roundOf.elim (Go.stuck "beginRound: no round") Instr.beginRound;Pure.pure .skip)) w ?_;rcases h.round with⟨e1,e2⟩|⟨l,l',e1,e2,hr,_⟩
   ·rw[e1,e2];exact .dead rfl
   ·rw[e1,e2];exact SR.du (SR.beginRound hr) λ_ _ _ _ _=>.dT .skip
  |endRangeFunc hl=>
   dsimp only;rcases lK.runs (P:=P) w (SR.endLoop hl)with⟨hh,v1,es,e,hd⟩|⟨x,y,v1,u1,mV,es,Pa,e,Mi,m,hc⟩|⟨x,v1,es,e,hc⟩
   ·unfold dp;simp only[e];cases hh<;>first|trivial|(cases hd;done)
   ·unfold dp;simp only[e];refine⟨hc.le,hc.tape,λT hT=>?_⟩;simp only[hc.run T hT];rfl
   ·unfold dp;simp only[e];refine⟨hc.le,hc.tape,λT hT=>?_⟩;simp only[hc.run T hT];rfl
  | @inRegion ops td JQ=>
   cases td with
   |nil=>exact dp.go v _ #[]
   |cons i rest=>
    dsimp only;refine dp.ite (λhc=>?_) λhc=>dp.go v _ #[];cases ho:ops[i]? with
    |none=>rw[ho]at hc;cases hc
    |some o=>
     unfold stepG.oper;have e1:fr.oper?=some o:=by simp only[Frame.oper?,Uc];exact ho
     rw[e1];dsimp only;have SA:=JQ i o ho;have hs:SN P ρ (execOp fr.eval o) (execOp oQ.eval o):=SR.exec hG.fit hG.two (λx hx=>h.eval x hx) (λe=>⟨_,e⟩) (λ_=>⟨rfl,rfl⟩) o SA;have main:=CI (fr:=fr) (cl:=cl) w hs;rcases h.round with⟨e1,e2⟩|⟨l,l',e1,e2,hr,V7⟩
     ·rw[e1];exact main
     ·rw[e1];cases Uf:o.op<;>first|exact main|skip
      rename_i c;simp only[qP,Bool.and_eq_true,Uf,GK]at SA;exfalso;have:=SA.2;rw[V7]at this;revert this;split<;>(intro h;cases h)
  |_=>exact dp.go v _ #[]
def SF(i:Good P ρ)(w:WR ρ v u){g:cj}{f:Frame}(b:g.callers≠[])(d:g.dying=none)(h:dC P ρ g.frame f)(main:Bool):
 dp (λv=>stepG P main g v) v:=by
 obtain⟨j,l,m,n,e⟩:=g;simp only at b d h;subst d;have k:=SC i w b h main;have a:=Ml i w b h main;unfold stepG;dsimp only;cases o:j.mode with
 |run=>simp only;exact k
 |returning=>simp only;exact a
 |panicking c=>simp only;exact a
end
end Go.cF
namespace Go.cF
open Go.Conc (G)
structure pA where
 fr:Frame
 cl:List Frame
 v:cd
def Below(v:cd)(T:Ta):Prop:=∀j,j<v.drawn->T j=v.tape j
inductive Reach (P:cf) (Stop:Frame->List Frame->cd->Prop):pA->Prop
 |here {c:pA} (h:Stop c.fr c.cl c.v):Reach P Stop c
 |next {c:pA} (h1:∀T,Below c.v T->∃(c1:pA) (es:Array Event),stepG P true (G c.fr c.cl) (cI c.v T)=.go (G c1.fr c1.cl) c1.v es)
  (h2:∀T (c1:pA) (es:Array Event),Below c.v T->stepG P true (G c.fr c.cl) (cI c.v T)=.go (G c1.fr c1.cl) c1.v es->Reach P Stop c1):Reach P Stop c
def Reach.step{P:cf}{Stop:Frame->List Frame->cd->Prop}{c:pA}(h:∀T:Ta,Below c.v T->∃a b v1 es,stepG P true (G c.fr c.cl) (cI c.v T)=.go (G a b) v1 es/\Reach P Stop ⟨a,b,v1⟩):Reach P Stop c:=by refine .next (λT d=>?_) λT j es d e=>?_;obtain⟨a,b,v1,es,e,_⟩:=h T d;exact⟨⟨a,b,v1⟩,es,e⟩;obtain⟨a,b,v1,k,l,m⟩:=h T d;rw[l]at e;injection e with n f o;injection n with g i;obtain⟨p,q,v⟩:=j;simp only at f g i;subst f g i;exact m
def Inv(P:cf)(c:pA):Prop:=∃a u b,Good P a/\(∀f,a.hole f=false)/\WR a c.v u/\qB P a [] (G c.fr c.cl) b
def WR.SG{ρ:cR}{v u:cd}(h:WR ρ v u)(T:Ta):WR ρ (cI v T) {u with tape:=λj q=>T (v.drawn+(j-u.drawn)) q}:=
 ⟨h.obj,h.low,λj q=>by show T (v.drawn+j) q=T (v.drawn+(u.drawn+j-u.drawn)) q;rw[Nat.add_sub_cancel_left]⟩
theorem Inv.cI{P:cf}{c:pA}(h:Inv P c)(T:Ta):Inv P {c with v:=cI c.v T}:=by obtain⟨a,u,b,d,e,f,g⟩:=h;exact⟨a,_,b,d,e,f.SG T,g⟩
def GS.frame{P:cf}{ρ:cR}(c:∀f,ρ.hole f=false){fr a:Frame}(h:GS P ρ fr a):dC P ρ fr a:=by
 cases h with
 |fr h=>exact h
 |hole _ b _=>rw[c]at b;cases b
theorem Inv.callers{P:cf}{c:pA}(h:Inv P c):c.cl≠[]:=by obtain⟨f,u,g,i,j,k,b⟩:=h;obtain⟨X,l,e,_⟩:=b.callers;intro d;have a:c.cl=X++[floor]:=e;rw[d]at a;simp at a
def Inv.step{P:cf}{c:pA}(h:Inv P c):(∃o w es,stepG P true (G c.fr c.cl) c.v=.ended o w es)\/(∃b v1 es,stepG P true (G c.fr c.cl) c.v=.go b v1 es/\yD b)\/∃d e v1 es,stepG P true (G c.fr c.cl) c.v=.go (G d e) v1 es/\Inv P ⟨d,e,v1⟩:=by
 obtain⟨z,u,A,j,k,r,l⟩:=h;have f:=GU j r l (l.fr.frame k) true true;revert f;generalize stepG P true (G c.fr c.cl) c.v=s;intro f;cases s with
 |go b v1 es=>
  rcases f with t|⟨g,i,x,y,_,m,a⟩;exact .inr (.inl ⟨b,v1,es,rfl,t⟩);refine .inr (.inr ⟨b.frame,b.callers,v1,es,?_,g,x,i,j.mono m.le,by rw[<-m.le.h];exact k,m.rel,?_⟩);obtain⟨B,C,D,E,F⟩:=b;have n:=a.st.1;have p:=a.dy.1;have q:=a.of.1;simp only at n p q;subst n p q;rfl;exact⟨a.fr,a.callers,⟨rfl,a.st.2⟩,⟨rfl,a.dy.2⟩,⟨rfl,a.of.2⟩⟩
 |ended o w es=>exact .inl ⟨o,w,es,rfl⟩
 |_=>exact f.elim
def Inv.JR{P:cf}{c:pA}(h:Inv P c):dp (λv=>stepG P true (G c.fr c.cl) v) c.v:=by have a:=h.callers;obtain⟨i,u,j,b,d,e,f⟩:=h;exact SF (g:=G c.fr c.cl) b e a rfl (f.fr.frame d) true
def Comes(P:cf)(Stop:Frame->List Frame->cd->Prop)(c:pA):Prop:=
 ∀T,Below c.v T->∃n a b v,runN P n (lone c.fr c.cl (cI c.v T))=.next (lone a b v)/\Stop a b v
section
variable{P:cf}{Stop:Frame->List Frame->cd->Prop}
def pB{fr a:Frame}{cl b:List Frame}{v v1:cd}{es:Array Event}(h:stepG P true (G fr cl) v=.go (G a b) v1 es):Go.step P (lone fr cl v)=.next (lone a b v1):=by refine step_lone_go ?_;have c:stepG P true {frame:=fr,callers:=cl,status:=.running,dying:=none} v=.go (G a b) v1 es:=h;rw[c];rfl
def mZ{fr:Frame}{cl:List Frame}{v v1:cd}{o:Outcome}{es:Array Event}(h:stepG P true (G fr cl) v=.ended o v1 es):Go.step P (lone fr cl v)=.ended o v1:=by refine step_lone_ended ?_;have a:stepG P true {frame:=fr,callers:=cl,status:=.running,dying:=none} v=.ended o v1 es:=h;rw[a];rfl
structure Ui(P:cf)(Stop:Frame->List Frame->cd->Prop)(c:pA):Prop where
 inv:Inv P c
 comes:Comes P Stop c
 not:¬Reach P Stop c
structure Uj(P:cf)(c c1:pA)(T:Ta):Prop where
 below:Below c.v T
 tape:c1.v.tape=T
 le:c.v.drawn<=c1.v.drawn
 step:∀L,(∀j,c.v.drawn<=j->j<c1.v.drawn->L j=T j)->stepG P true (G c.fr c.cl) (cI c.v L)=.go (G c1.fr c1.cl) (cI c1.v L) (match stepG P true (G c.fr c.cl) (cI c.v L)with| .go _ _ es=>es|_=>#[])
theorem Ui.next(z:∀fr cl v,Stop fr cl v->cl≠[])(A:∀c T,Inv P c->Stop c.fr c.cl c.v->Stop c.fr c.cl (cI c.v T)){c:pA}(h:Ui P Stop c):∃K T,Uj P c K T/\Ui P Stop K:=by
 have W:¬∀T:Ta,Below c.v T->∃b d f m,stepG P true (G c.fr c.cl) (cI c.v T)=.go (G b d) f m/\Reach P Stop ⟨b,d,f⟩:=λX=>h.not (.step X);have p:∀T,¬Stop c.fr c.cl (cI c.v T):=λT g=>h.not (.here (by have:=A {c with v:=cI c.v T} c.v.tape (h.inv.cI T) g;exact this))
 obtain⟨T,B⟩:=Classical.not_forall.1 W;obtain⟨C,B⟩:=Classical.not_imp.1 B;have M:=h.inv.cI T;obtain⟨n,fr,cl,v,a,g⟩:=h.comes T C;have r:∀{T fr cl v n},runN P n (lone c.fr c.cl (cI c.v T))=.next (lone fr cl v)->Stop fr cl v->∃s,n=s+1:=by
  intro T fr cl v n a g;cases n with
  |zero=>
   exfalso;simp only[runN]at a;injection a with a;have q:c.fr=fr/\c.cl=cl/\cI c.v T=v:=by unfold lone at a;injection a with q i;simp only[Bd,qm]at i;have:=i.1;injection this with N O;exact⟨N,O,q⟩
   obtain⟨rfl,rfl,rfl⟩:=q;exact p T g
  |succ n=>exact⟨n,rfl⟩
 obtain⟨s,rfl⟩:=r a g;rcases M.step with⟨o,w,m,e⟩|⟨Y,f,m,e,Q⟩|⟨b,d,f,m,e,t⟩;exfalso;simp only[runN,mZ e]at a;cases a;exfalso;obtain⟨b,d,st,dy,of⟩:=Y;have D:=Q;obtain⟨R,S,U,V,Z⟩:=Q;simp only at U R S V Z;subst U R S V;have e':stepG P true (G c.fr c.cl) (cI c.v T)=.go (G b []) f m:=e;simp only[runN,pB e']at a;cases s with
 |zero=>
  simp only[runN]at a;injection a with a;have q:[]=cl:=by unfold lone at a;injection a with q i;simp only[Bd,qm]at i;have:=i.1;injection this with N O
  exact z _ _ _ g q.symm
 |succ n=>
  obtain⟨o,w',aa,i⟩:=D.ended (P:=P) true f;simp only[runN,mZ (show stepG P true (G b []) f=_ from i)]at a;cases a
 have k:=M.JR;unfold dp at k;dsimp only at k;rw[e]at k;dsimp only at k;have l:∀L,(∀j,c.v.drawn<=j->j<f.drawn->L j=T j)->stepG P true (G c.fr c.cl) (cI c.v L)=.go (G b d) (cI f L) m:=λL E=>k.run L E;refine⟨⟨b,d,f⟩,T,⟨C,k.tape,k.le,λL E=>by rw[l L E]⟩,t,?_,λF=>B ⟨b,d,f,m,e,F⟩⟩;intro H u;have x:f.tape=T:=k.tape;have I:c.v.drawn<=f.drawn:=k.le;have J:Below c.v H:=λj y=>by rw[u j (dl y I)];show f.tape j=_;rw[x];exact C j y
 obtain⟨n,fr,cl,v,a,g⟩:=h.comes H J;obtain⟨s,rfl⟩:=r a g;have i:=l H λj _ y=>by rw[u j y];show f.tape j=_;rw[x]
 simp only[runN,pB i]at a;exact⟨s,fr,cl,v,a,g⟩
def qS(f:∀fr cl v,Stop fr cl v->cl≠[])(d:∀c T,Inv P c->Stop c.fr c.cl c.v->Stop c.fr c.cl (cI c.v T)){c:pA}(B:Inv P c)(h:Comes P Stop c):Reach P Stop c:=by
 refine L5 λp=>?_;have C:Ui P Stop c:=⟨B,h,p⟩;let a:Nat->{c:pA//Ui P Stop c}:=λn=>Nat.rec ⟨c,C⟩ (λ_ x=>⟨Classical.choose (x.2.next f d),(iu (iu (x.2.next f d))).2⟩) n;have w:(a 0).1=c:=rfl;have s:∀n,∃T,Uj P (a n).1 (a (n+1)).1 T:=λn=>⟨Classical.choose (iu ((a n).2.next f d)),(iu (iu ((a n).2.next f d))).1⟩;have mono:∀n k,(a n).1.v.drawn<=(a (n+k)).1.v.drawn:=by
  intro n k;induction k with
  |zero=>exact cz _
  |succ k r=>
   obtain⟨T,i⟩:=s (n+k);exact cJ r i.le
 have e:∀n k j,j<(a n).1.v.drawn->(a (n+k)).1.v.tape j=(a n).1.v.tape j:=by
  intro n k j g;induction k with
  |zero=>rfl
  |succ k r=>
   obtain⟨T,i⟩:=s (n+k);rw[<-r,<-i.below j (dl g (mono n k))];show(a (n+k+1)).1.v.tape j=_;rw[i.tape]
 let L:Ta:=λj q=>open Classical in if l:∃n,j<(a n).1.v.drawn then(a (Classical.choose l)).1.v.tape j q else 0
 have y:∀n j,j<(a n).1.v.drawn->L j=(a n).1.v.tape j:=by intro n j g;funext q;have l:∃n,j<(a n).1.v.drawn:=⟨n,g⟩;show(open Classical in if l:∃n,j<(a n).1.v.drawn then(a (Classical.choose l)).1.v.tape j q else 0)=_;rw[dif_pos l];have z:=iu l;generalize Classical.choose l=m at z;rcases Nat.le_total m n with o|o;obtain⟨k,rfl⟩:=Nat.exists_eq_add_of_le o;rw[e m k j z];obtain⟨k,rfl⟩:=Nat.exists_eq_add_of_le o;rw[e n k j g]
 have t:∀n,∀k,runN P (n+k) (lone c.fr c.cl (cI c.v L))=runN P k (lone (a n).1.fr (a n).1.cl (cI (a n).1.v L)):=by
  intro n;induction n with
  |zero=>intro k;rw[cB];rfl
  |succ n r=>
   intro k;rw[show n+1+k=n+(k+1)from by omega,r (k+1)];obtain⟨T,i⟩:=s n;have:=i.step L λj _ g=>by rw[y (n+1) j g,i.tape]
   simp only[runN,pB this]
 obtain⟨k,fr,cl,v,D,E⟩:=h L λj g=>y 0 j g;have b:=t k 0;rw[mT,D]at b;simp only[runN]at b;injection b with b;have u:fr=(a k).1.fr/\cl=(a k).1.cl/\v=cI (a k).1.v L:=by unfold lone at b;injection b with u A;simp only[Bd,qm]at A;have:=A.1;injection this with F G;exact⟨F,G,u⟩
 obtain⟨rfl,rfl,rfl⟩:=u;refine(a k).2.not (.here ?_);have:=d {(a k).1 with v:=cI (a k).1.v L} (a k).1.v.tape ((a k).2.inv.cI L) E;exact this
end
section
variable{P:cf}
def Left(P:cf)(f:cm)(R:ce->cd->Prop)(fr:Frame)(cl:List Frame)(v:cd):Prop:=
 cl=[floor]/\fr.fn=f/\∃x,R x v/\fr.leaving P v (.returned x)
def Left.callers{f:cm}{R:ce->cd->Prop}(fr:Frame)(cl:List Frame)(v:cd)(h:Left P f R fr cl v):cl≠[]:=by rw[h.1];simp
theorem Left.cI{f:cm}{R:ce->cd->Prop}(g:∀x w T,R x w->R x (cI w T))(c:pA)(T:Ta)(i:Inv P c)(h:Left P f R c.fr c.cl c.v):Left P f R c.fr c.cl (cI c.v T):=by
 obtain⟨k,l,x,m,n,o,p,fn,q,r⟩:=h;refine⟨k,l,x,g _ _ _ m,n,o,p,fn,q,?_⟩;obtain⟨z,u,A,B,s,t,y⟩:=i;have d:=(SR.results (P:=P) (fn:=fn) (y.fr.frame s).tmps).JR t #[];rw[mU]at d;have e:(results fn (G c.fr c.cl).frame.tmps).run P c.v=.ok x c.v:=r;simp only[e]at d;rcases d with d|d;exact d.elim;have:=d.run T λj a b=>by simp only[Mj]at b;omega
 rw[mU]at this;exact cM Prod.fst this
def qT{f:cm}{args:Array ce}{v:cd}{R:ce->cd->Prop}(a:∀x w T,R x w->R x (cI w T))(b:Inv P ⟨Frame.enter P f args .normal,[floor],v⟩)
 (h:∀T,Below v T->Calls P f args (cI v T) λe w'=>∃x,e=.returned x/\R x w'):Reach P (Left P f R) ⟨Frame.enter P f args .normal,[floor],v⟩:=by
 refine qS Left.callers (Left.cI a) b λT c=>?_;obtain⟨e,w',d,⟨x,rfl,g⟩,i,j,k⟩:=h T c [floor];obtain⟨n,l⟩:=i;exact⟨n,d,[floor],w',l,rfl,j,x,g,k⟩
def Reach.follow{a:Frame->List Frame->cd->Prop}{c b:pA}{es:Array Event}{T:Ta}(h:Reach P a c)(d:¬a c.fr c.cl c.v)(f:Below c.v T) (e:stepG P true (G c.fr c.cl) (cI c.v T)=.go (G b.fr b.cl) b.v es):Reach P a b:=by
 cases h with
 |here h=>exact absurd h d
 |next i g=>exact g T b es f e
end
end Go.cF
