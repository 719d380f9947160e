/- Laws that the proof needs, part 7. Conditions: none. -/
import Derived.Test.YteeagjkaflglpaaGreatX06
set_option maxRecDepth 100000
set_option maxHeartbeats 8000000
set_option linter.all false
namespace Go.cF.Cr
open Go.Conc Go.cF Go.cF.Kn
open Go.ConcR (KK wgBlock WgAt stA smA mk)
open Go.ConcN (sumTo upd sumTo_upd upd_ne upd_same sumTo_congr le_sumTo sumTo_le)
section
variable{P:cf}{ty:cg}{Wg Ch n:Nat}{rd0:Nat->Prop}{val:Nat->ce->(Nat->Prop)->cd->Prop}{End:gF}{w0:cd}{B0 m0:Nat}{X:Nat->Prop}{T0:Nat} {ro:Nat->dD}{rk:Nat->WT}{dd:Nat->Nat}{G:Gh}{cl:Bool}{gs:Array cj}{w w':cd}{sl:Option (Nat×Nat)}{t:Trace}{st sm:Int}
theorem Gh.G1(G:Gh){k sy:Nat}{give:Nat->Prop}:(G.child k sy give).own 0=λb=>G.own 0 b/\¬give b:=by funext b;simp[Gh.child]
theorem Gh.G2(G:Gh){k sy:Nat}{give:Nat->Prop}(a:k≠0):(G.child k sy give).own k=cC:=by funext b;simp[Gh.child,a]
theorem Gh.JX(G:Gh){k sy x:Nat}{give:Nat->Prop}(a:x≠0)(c:x≠k):(G.child k sy give).own x=G.own x:=by funext b;simp[Gh.child,a,c]
theorem Gh.JY(G:Gh){k sy:Nat}{give:Nat->Prop}:(G.child k sy give).rd k=λb=>G.rd 0 b\/give b:=by funext b;simp[Gh.child]
theorem Gh.Ej(G:Gh){k sy x:Nat}{give:Nat->Prop}(a:x≠k):(G.child k sy give).rd x=G.rd x:=by funext b;simp[Gh.child,a]
theorem Com.spawn(h:Com P ty Wg Ch n rd0 val End w0 B0 ro rk dd G cl gs w t){g g' child:Goroutine}{r0' rc':dD}{τ0 τc:WT}{sy:Nat}{give:Nat->Prop}{fn fn':FuncId}{pos pos':String}(E:gs[0]? =some g)(l:dd 0=0) (v:∀b,give b->G.own 0 b)(m:sy=G.sayer\/(sy=gs.size/\G.sayer=0))(y:G.user 0)(z:¬G.done gs.size)
 (A:kT P ty Wg Ch n rd0 val End r0' τ0 0 (λb=>G.own 0 b/\¬give b) (G.rd 0) g' w)(B:kT P ty Wg Ch n rd0 val End rc' τc 0 cC (λb=>G.rd 0 b\/give b) child w):
 Com P ty Wg Ch n rd0 val End w0 B0 (upd (upd ro gs.size rc') 0 r0') (upd (upd rk gs.size τc) 0 τ0) dd (G.child gs.size sy give) cl ((gs.setIfInBounds 0 g').push child) w (t++#[{g:=0,fn,pos,act:=.go gs.size},{g:=gs.size,fn:=fn',pos:=pos',act:=.start}]):=by
 have p:0<gs.size:=(Array.getElem?_eq_some_iff.1 E).1;have c:gs.size≠0:=by omega
 have q:dd gs.size=0:=h.above _ (Nat.le_refl _);refine⟨λx o f=>?_,?_,?_,λx=>?_,λx C=>?_,h.wg,λx b a=>?_,h.wgch,h.wglow,λi x F C=>?_,λx b a=>?_,h.base,h.grown,h.world,h.live,h.ch⟩
 ·rw[Array.getElem?_push]at f;split at f
  ·next e=>
   obtain rfl:=Option.some.inj f;have k:x=gs.size:=by simpa using e
   subst k;rw[upd_ne _ _ c,upd_same,upd_ne _ _ c,upd_same,Gh.G2 _ c,Gh.JY,q];exact B
  ·next e=>
   have k:x≠gs.size:=by simpa using e
   by_cases r:x=0
   ·subst r;rw[Array.getElem?_setIfInBounds_self_of_lt p]at f;obtain rfl:=Option.some.inj f;rw[upd_same,upd_same,Gh.G1,Gh.Ej _ (Ne.symm c),l];exact A
   ·rw[Array.getElem?_setIfInBounds_ne (Ne.symm r)]at f;rw[upd_ne _ _ r,upd_ne _ _ k,upd_ne _ _ r,upd_ne _ _ k,Gh.JX _ r k,Gh.Ej _ k];exact h.sit x o f
 ·exact h.kn.child ⟨rfl,rfl⟩ ⟨rfl,rfl⟩ (by rw[h.deaf,l]) (by rw[h.deaf,q]) y m v c
 ·exact h.fits.child c z (m.imp id (·.1)) v
 ·have:=oY (t:=t) x [{g:=0,fn,pos,act:=.go gs.size},{g:=gs.size,fn:=fn',pos:=pos',act:=.start}] (by simp);exact this.trans (h.deaf x)
 ·have H:gs.size+1<=x:=by simpa using C
  exact h.above x (by omega)
 ·have J:Ch<w.heap.size:=by obtain⟨s,I⟩:=h.ch;exact lt_of_heap I
  rcases a with a|a
  ·refine h.off x b (.inl ?_);simp only[Gh.child]at a;split at a
   ·next e=>subst e;exact a.1
   ·split at a
    ·exact a.elim
    ·exact a
  ·simp only[Gh.child]at a;split at a
   ·rcases a with a|a
    ·exact h.off 0 b (.inr a)
    ·exact h.off 0 b (.inl (v b a))
   ·exact h.off x b (.inr a)
 ·obtain⟨K,D,j⟩:=Option.map_eq_some_iff.1 C;rcases getElem?_append_cases D with⟨_,u⟩|⟨_,d⟩
  ·have:=h.gsz i x F (by simp[Trace.g?,u,j]);simp;omega
  ·simp only[List.mem_toArray,List.mem_cons,List.not_mem_nil,or_false]at d;rcases d with rfl|rfl
   ·subst j;simp
   ·subst j;simp
 ·simp only[Gh.child]at a;split at a
  ·next e=>exact h.new 0 b a.1
  ·split at a
   ·exact a.elim
   ·exact h.new x b a
theorem Gh.JZ(G:Gh){j:Nat}:(G.hand j).own 0=λb=>G.own 0 b\/G.own j b:=by funext b;simp[Gh.hand]
theorem Gh.MC(G:Gh){j x:Nat}(a:x≠0)(c:x≠j):(G.hand j).own x=G.own x:=by funext b;simp[Gh.hand,a,c]
theorem Gh.IN(G:Gh){j x:Nat}(a:x≠j):(G.hand j).rd x=G.rd x:=by funext b;simp[Gh.hand,a]
structure qX(Ch:Nat)(w w':cd):Prop where
 tape:w'.tape=w.tape
 os:w'.os=w.os
 output:w'.output=w.output
 size:w'.heap.size=w.heap.size
 same:∀b,b≠Ch->w'.heap[b]? =w.heap[b]?
theorem qX.set(w:cd)(d cap:Nat)(a:Array ce)(cl:Bool)(s r:Nat)(tm:Bool):qX Ch w ((w.at d).setChan Ch cap a cl s r tm):=by refine⟨rfl,rfl,rfl,by simp[World.setChan,World.at],λb c=>?_⟩;simp[World.setChan,World.at,eY (fO c)]
theorem setChan_at(w:cd)(d cap:Nat)(a:Array ce)(cl:Bool)(s r:Nat)(tm:Bool)(h:Ch<w.heap.size):((w.at d).setChan Ch cap a cl s r tm).heap[Ch]? =some (.chan cap a cl s r tm):=by simp[World.setChan,World.at,h]
theorem qX.rely(h:qX Ch w w'){own rd:Nat->Prop}(a:∀b,own b\/rd b->b≠Ch)(c:Wg≠Ch):dG own rd (Lv ty Wg) w w':=
 ⟨h.tape,h.os,h.output,by rw[h.size];exact cz _,λb _ d=>h.same b (a b d),λ⟨st,sm,e⟩=>⟨st,sm,e.of_block (h.same Wg c)⟩⟩
theorem Com.hand(h:Com P ty Wg Ch n rd0 val End w0 B0 ro rk dd G cl gs w t){j:Nat}{e:Array cj}{a b:cj}{r0' rj':dD}{τ0 τj:WT}{s cap:Nat}{fn fn' fn2 fn3:cm}{pos pos' pos2 pos3:String} (p:j≠0)(C:j<gs.size)(q:0<gs.size)(r:dd 0=0)(u:dd j=0)(v:G.sayer≠j) (y:e.size=gs.size)(L:e[0]? =some a)(d:e[j]? =some b)(z:∀x,x≠0->x≠j->e[x]? =gs[x]?)(f:qX Ch w w')(D:∃s,w'.heap[Ch]? =some (.chan 0 #[] cl s s false))
 (E:kT P ty Wg Ch n rd0 val End r0' τ0 0 (λx=>G.own 0 x\/G.own j x) (G.rd 0) a w')(F:∀own rd,kT P ty Wg Ch n rd0 val End rj' τj 0 own rd b w'):
 Com P ty Wg Ch n rd0 val End w0 B0 (upd (upd ro j rj') 0 r0') (upd (upd rk j τj) 0 τ0) dd (G.hand j) cl e w' (t++#[{g:=j,fn,pos,act:=.send Ch s},{g:=0,fn:=fn',pos:=pos',act:=.recv Ch s cap},{g:=j,fn:=fn2,pos:=pos2,act:=.sendDone Ch s},{g:=0,fn:=fn3,pos:=pos3,act:=.recvDone Ch s}]):=by
 have H:Ch<w.heap.size:=by obtain⟨s,M⟩:=h.ch;exact lt_of_heap M
 refine⟨λx o m=>?_,?_,?_,λx=>?_,λx I=>h.above x (by rw[<-y];exact I),h.wg,λx b d=>?_,h.wgch,by rw[f.size];exact h.wglow,λi x N I=>?_,λx b d=>?_,λb d O K=>(f.same b K).trans (h.base b d O K),by rw[f.size];exact h.grown,
  ⟨f.tape.trans h.world.1,f.os.trans h.world.2.1,f.output.trans h.world.2.2⟩,?_,D⟩
 by_cases l:x=0;subst l;rw[L]at m;obtain rfl:=cE m;rw[upd_same,upd_same,Gh.JZ,Gh.IN _ (fO p),r];exact E;by_cases c:x=j;subst c;rw[d]at m;obtain rfl:=cE m;rw[upd_ne _ _ l,upd_same,upd_ne _ _ l,upd_same,u];exact F _ _;rw[z x l c]at m;rw[upd_ne _ _ l,upd_ne _ _ c,upd_ne _ _ l,upd_ne _ _ c,Gh.MC _ l c,Gh.IN _ c];exact(h.sit x o m).rely (f.rely (h.off x) h.wgch);rw[f.size];exact h.kn.hand ⟨rfl,rfl⟩ ⟨rfl,rfl⟩ ⟨rfl,rfl⟩ ⟨rfl,rfl⟩ (by rw[h.deaf,u]) (by rw[h.deaf,r]) H;rw[f.size];exact h.fits.hand p v;have:=oY (t:=t) x [{g:=j,fn,pos,act:=.send Ch s},{g:=0,fn:=fn',pos:=pos',act:=.recv Ch s cap},{g:=j,fn:=fn2,pos:=pos2,act:=.sendDone Ch s},{g:=0,fn:=fn3,pos:=pos3,act:=.recvDone Ch s}] (by simp);exact this.trans (h.deaf x);rcases d with d|d;simp only[Gh.hand]at d;split at d;rcases d with d|d;exact h.off _ b (.inl d);exact h.off _ b (.inl d);split at d;exact d.elim;exact h.off x b (.inl d);simp only[Gh.hand]at d;split at d;exact d.elim;exact h.off x b (.inr d);rw[y];obtain⟨R,J,A⟩:=ij.1 I;rcases getElem?_append_cases J with⟨_,B⟩|⟨_,k⟩;exact h.gsz i x N (by simp[Trace.g?,B,A]);simp only[DX,eQ,sN,ou]at k;rcases k with rfl|rfl|rfl|rfl<;>(subst A;first|exact C|exact q);simp only[Gh.hand]at d;split at d;rcases d with d|d;exact h.new _ b d;exact h.new _ b d;split at d;exact d.elim;exact h.new x b d;obtain⟨st,sm,Q⟩:=h.live;exact⟨st,sm,Q.of_block (f.same Wg h.wgch)⟩
theorem Com.tu(h:Com P ty Wg Ch n rd0 val End w0 B0 ro rk dd G cl gs w t){k:Nat}{g':cj}{r':dD}{τ':WT}(c:k<gs.size)(d:kT P ty Wg Ch n rd0 val End r' τ' (dd k) (G.own k) (G.rd k) g' w):Com P ty Wg Ch n rd0 val End w0 B0 (upd ro k r') (upd rk k τ') dd G cl (gs.setIfInBounds k g') w t:=
 {h with
  sit:=λx o a=>by by_cases e:x=k;subst e;rw[jE c]at a;obtain rfl:=cE a;rw[upd_same,upd_same];exact d;rw[eY (fO e)]at a;rw[upd_ne _ _ e,upd_ne _ _ e];exact h.sit x o a
  above:=λx b=>h.above x (by simpa using b)
  gsz:=λi x f b=>by simpa using h.gsz i x f b}
end
section
variable{P:cf}{ty:cg}{Wg Ch n:Nat}{rd0:Nat->Prop}{val:Nat->ce->(Nat->Prop)->cd->Prop}{End:gF}{w0:cd}{B0 m0:Nat}{X:Nat->Prop}{T0:Nat} {ro:Nat->dD}{rk:Nat->WT}{dd:Nat->Nat}{G:Gh}{cl:Bool}{gs:Array cj}{w w':cd}{sl:Option (Nat×Nat)}{t:Trace}{st sm:Int}
theorem kT.PI{r:dD}{c:WT}{d:Nat}{own rd:Nat->Prop}{g:cj}(h:kT P ty Wg Ch n rd0 val End r c d own rd g w):offersAt g Ch true=[]\/∃i v z a,r=.wk i 8/\d=0/\g=parked a #[scase Ch v z] .send/\AtSend P ty Wg Ch val i v z own a w:=by
 rcases h.running with b|⟨_,b⟩;exact .inl (offersAt_of_not_blocked (by rw[b];simp) _ _);cases h with
 |tu h=>exact .inr ⟨_,_,_,_,rfl,rfl,rfl,h w (.refl _ _ _ _)⟩
 |LY h=>exact .inl (offersAt_parked_recv' _ _ _ _ _)
 |Px h=>
  have e:=h w (.refl _ _ _ _);left;unfold offersAt;simp only[e.2.1]
 |old h=>exact .inl (offersAt_of_not_blocked (by rcases h.status with x|x<;>rw[x]<;>simp) _ _)
 |quit h=>exact .inl (offersAt_of_not_blocked (by rcases h.status with x|x<;>rw[x]<;>simp) _ _)
 |Pb h=>exact .inl (offersAt_of_not_blocked (by rcases h.status with x|x<;>rw[x]<;>simp) _ _)
 |skd _ h=>exact .inl (offersAt_of_not_blocked (by rw[Way.running (λ_ _ _ x=>x.1) h];simp) _ _)
 |sa1 _ h=>exact .inl (offersAt_of_not_blocked (by rw[Way.running (λ_ _ _ x=>x.1) h];simp) _ _)
 |Rk _ h=>exact .inl (offersAt_of_not_blocked (by rw[Way.running (λ_ _ _ x=>x.1) h];simp) _ _)
 |ske _ h=>exact .inl (offersAt_of_not_blocked (by rw[Way.running (λ_ _ _ x=>x.1) h];simp) _ _)
 |sgo _ h=>exact .inl (offersAt_of_not_blocked (by rw[Way.running (λ_ _ _ x=>x.1) h];simp) _ _)
 |Ps h=>exact .inl (offersAt_of_not_blocked (by rw[Way.running (λ_ _ _ x=>x.1) h];simp) _ _)
 |src h=>exact .inl (offersAt_of_not_blocked (by rw[Way.running (λ_ _ _ x=>(iW x).1) h];simp) _ _)
 |sup h=>exact .inl (offersAt_of_not_blocked (by simp) _ _)
 |Pt h=>exact .inl (offersAt_of_not_blocked (by rw[Way.running (λ_ _ _ ⟨_,_,x⟩=>x.1) h];simp) _ _)
 |r0 h=>exact .inl (offersAt_of_not_blocked (by rw[Goes.running (λ_ _ x=>x.1) w (.refl _ _ _ _) h];simp) _ _)
 |k1 h=>exact .inl (offersAt_of_not_blocked (by rw[Goes.running (λ_ _ x=>x.1) w (.refl _ _ _ _) h];simp) _ _)
 |d1 h=>exact .inl (offersAt_of_not_blocked (by rw[Goes.running (λ_ _ x=>x.1) w (.refl _ _ _ _) h];simp) _ _)
 |d2 h=>exact .inl (offersAt_of_not_blocked (by rw[Goes.running (λ_ _ x=>x.1) w (.refl _ _ _ _) h];simp) _ _)
 |d3 h=>exact .inl (offersAt_of_not_blocked (by rw[Goes.running (λ_ _ x=>x.1) w (.refl _ _ _ _) h];simp) _ _)
 |d4 h=>exact .inl (offersAt_of_not_blocked (by rw[Goes.running (λ_ _ x=>x.1) w (.refl _ _ _ _) h];simp) _ _)
 |Rl _ h=>exact .inl (offersAt_of_not_blocked (by rw[Way.running (λ_ _ _ x=>x.1) h];simp) _ _)
 |Pu _ h=>exact .inl (offersAt_of_not_blocked (by rw[Way.running (λ_ _ _ x=>x.1) h];simp) _ _)
 |Rm _ h=>exact .inl (offersAt_of_not_blocked (by rw[Way.running (λ_ _ _ x=>x.1) h];simp) _ _)
 |Rn h=>exact .inl (offersAt_of_not_blocked (by rw[Way.running (λ_ _ _ x=>x.1) h];simp) _ _)
 |Pw h=>exact .inl (offersAt_of_not_blocked (by rw[Way.running (λ_ _ _ x=>x.1) h];simp) _ _)
 |Ro h=>exact .inl (offersAt_of_not_blocked (by rw[Way.running (λ_ _ _ x=>x.1) h];simp) _ _)
 |Py h=>exact .inl (offersAt_of_not_blocked (by rw[Way.running (λ_ _ _ x=>x.1) h];simp) _ _)
 |Rp h=>exact .inl (offersAt_of_not_blocked (by rw[Way.running (λ_ _ _ x=>x.1) h];simp) _ _)
 |Rq h=>exact .inl (offersAt_of_not_blocked (by rw[Way.running (λ_ _ _ x=>x.1) h];simp) _ _)
theorem kT.IP{r:dD}{c:WT}{d:Nat}{own rd:Nat->Prop}{g:cj}(h:kT P ty Wg Ch n rd0 val End r c d own rd g w):offersAt g Ch false=[]\/∃q S z b,r=.rc q S 1/\d=0/\g=parked b #[rcase Ch z] (.recv true)/\nV P ty Wg Ch n rd0 val End z q S own b w:=by
 by_cases a:g.status=.blocked;cases h with
 |tu h=>exact .inl (offersAt_parked_send' _ _ _ _ _ _)
 |LY h=>exact .inr ⟨_,_,_,_,rfl,rfl,rfl,h w (.refl _ _ _ _)⟩
 |Px h=>
  have e:=h w (.refl _ _ _ _);left;unfold offersAt;simp only[e.2.1]
 |old h=>rcases h.status with x|x<;>rw[x]at a<;>cases a
 |quit h=>rcases h.status with x|x<;>rw[x]at a<;>cases a
 |Pb h=>rcases h.status with x|x<;>rw[x]at a<;>cases a
 |skd _ h=>rw[Way.running (λ_ _ _ x=>x.1) h]at a;cases a
 |sa1 _ h=>rw[Way.running (λ_ _ _ x=>x.1) h]at a;cases a
 |Rk _ h=>rw[Way.running (λ_ _ _ x=>x.1) h]at a;cases a
 |ske _ h=>rw[Way.running (λ_ _ _ x=>x.1) h]at a;cases a
 |sgo _ h=>rw[Way.running (λ_ _ _ x=>x.1) h]at a;cases a
 |Ps h=>rw[Way.running (λ_ _ _ x=>x.1) h]at a;cases a
 |src h=>rw[Way.running (λ_ _ _ x=>(iW x).1) h]at a;cases a
 |sup h=>cases a
 |Pt h=>rw[Way.running (λ_ _ _ ⟨_,_,x⟩=>x.1) h]at a;cases a
 |r0 h=>rw[Goes.running (λ_ _ x=>x.1) w (.refl _ _ _ _) h]at a;cases a
 |k1 h=>rw[Goes.running (λ_ _ x=>x.1) w (.refl _ _ _ _) h]at a;cases a
 |d1 h=>rw[Goes.running (λ_ _ x=>x.1) w (.refl _ _ _ _) h]at a;cases a
 |d2 h=>rw[Goes.running (λ_ _ x=>x.1) w (.refl _ _ _ _) h]at a;cases a
 |d3 h=>rw[Goes.running (λ_ _ x=>x.1) w (.refl _ _ _ _) h]at a;cases a
 |d4 h=>rw[Goes.running (λ_ _ x=>x.1) w (.refl _ _ _ _) h]at a;cases a
 |Rl _ h=>rw[Way.running (λ_ _ _ x=>x.1) h]at a;cases a
 |Pu _ h=>rw[Way.running (λ_ _ _ x=>x.1) h]at a;cases a
 |Rm _ h=>rw[Way.running (λ_ _ _ x=>x.1) h]at a;cases a
 |Rn h=>rw[Way.running (λ_ _ _ x=>x.1) h]at a;cases a
 |Pw h=>rw[Way.running (λ_ _ _ x=>x.1) h]at a;cases a
 |Ro h=>rw[Way.running (λ_ _ _ x=>x.1) h]at a;cases a
 |Py h=>rw[Way.running (λ_ _ _ x=>x.1) h]at a;cases a
 |Rp h=>rw[Way.running (λ_ _ _ x=>x.1) h]at a;cases a
 |Rq h=>rw[Way.running (λ_ _ _ x=>x.1) h]at a;cases a
 exact .inl (offersAt_of_not_blocked a _ _)
def MD(P:cf)(Wg Ch:Nat)(End:gF)(w0:cd)(B0:Nat)(X:Nat->Prop)(m:Machine)(t:Trace):Prop:=
 ∃(gs:Array cj) (w:cd) (sl:Option (Nat×Nat)) (a:cj) (q:Nat->Nat) (c:Nat->Prop),
  m=crowd gs w sl/\gs[0]? =some a/\End c a w/\Leavers P t gs q/\Past (nU λb=>b=Wg\/b=Ch\/X b) w.heap.size t/\(∀b,c b->B0<=b/\b<w.heap.size/\b≠Wg/\b≠Ch)/\
   (∀b,b<B0->b≠Wg->b≠Ch->w.heap[b]? =w0.heap[b]?)/\B0<=w.heap.size/\(w.tape=w0.tape/\w.os=w0.os/\w.output=w0.output)/\Wg<w.heap.size
variable(cT:Com P ty Wg Ch n rd0 val End w0 B0 ro rk dd G cl gs w t)(er:Pl n m0 ro cl G gs.size st sm)(iF:yM Ch n m0 G cl t)(hX:G.x=X)(hT:G.t0=T0)(fS:WgAt ty Wg w st sm)
include cT er iF hX hT fS
omit iF hX hT fS in
theorem open_of {i s:Nat} (hi:i<n) (e:ro (m0+i)=.wk i s) (hs:s≠1):cl=false:=by
 cases hc:cl with
 |false=>rfl
 |true=>
  have hq:=er.clq.1 hc;obtain⟨S,s',_,hw,_⟩:=er.ut hq trivial;obtain⟨k,hk⟩:=hw i hi;rw[e]at hk;cases hk;exact absurd rfl hs
theorem dU.meet{i s:Nat}{r:Nat}{S:Nat->Bool}{U:Nat}{z v f:ce}{a Q:cj}{k:Nat}{j:Array cj}{c:Nat}{w':cd}{fn fn' fn2 fn3:cm}{pos pos' pos2 pos3:String}(R:i<n)(e:ro (m0+i)=.wk i s)(V:s=9\/s=8)(W:ro 0=.rc r S U)(I:dd 0=0)(J:dd (m0+i)=0) (p:0<gs.size)(q:m0+i<gs.size)(u:G.rd 0=rd0) (Y:nV P ty Wg Ch n rd0 val End z r S (G.own 0) a w)(T:AtSend P ty Wg Ch val i v f (G.own (m0+i)) Q w)(Z:w.heap[Ch]? =some (.chan 0 #[] cl c c false)) (A:j.size=gs.size)(ha:j[0]? =some (Conc.served a (.tuple #[v,.bool true])))(l:j[m0+i]? =some (Conc.served Q undef))(B:∀x,x≠0->x≠m0+i->j[x]? =gs[x]?) (K:∃d,w'=(w.at d).setChan Ch 0 #[] cl (c+1) (c+1) false) (C:runT P (crowd gs w sl) k=(.next (crowd j w' sl),#[{g:=m0+i,fn,pos,act:=.send Ch c},{g:=0,fn:=fn',pos:=pos',act:=.recv Ch c 0},{g:=m0+i,fn:=fn2,pos:=pos2,act:=.sendDone Ch c},{g:=0,fn:=fn3,pos:=pos3,act:=.recvDone Ch c}])):Goal P ty Wg Ch n rd0 val End w0 B0 m0 X T0 ro rk gs w sl t k:=by
 obtain⟨d,rfl⟩:=K;have hp:=er.pos;have L:=lt_of_heap Z;have h:qX Ch w ((w.at d).setChan Ch 0 #[] cl (c+1) (c+1) false):=.set w d _ _ _ _ _ _;obtain⟨M,r',rfl,D,E⟩:=er.hand (G':=G.hand (m0+i)) R e W V rfl rfl (λk=>l8);have F:G.sayer≠m0+i:=by rw[er.say];rcases er.lt_size q with x|x|⟨i2,s2,x,_⟩|⟨x,_⟩;omega;omega;unfold sayOf;split<;>omega;omega
 obtain⟨aa,ab,N⟩:=Y;obtain⟨τ0,O⟩:=N i v (G.own (m0+i)) R M T.2.2.1 λb l ho=>by have:=cT.fits.one _ _ _ l ho;omega
 obtain⟨m,hm⟩:=T.2.2.2;have o:=cT.hand (r0':=.rc r' (upd S i true) 2) (rj':=.wk i 7) (τ0:=τ0) (τj:=.num m) (s:=c) (cap:=0) (fn:=fn) (fn':=fn') (fn2:=fn2) (fn3:=fn3) (pos:=pos) (pos':=pos') (pos2:=pos2) (pos3:=pos3)
  (show m0+i≠0 by omega) q p I J F A ha l B h ⟨c+1,setChan_at w d _ _ _ _ _ _ L⟩ (by rw[u];refine .src (z:=z) (O.rely (h.rely (λb l=>?_) cT.wgch));rcases l with(l|l)|l;exact cT.off _ b (.inl l);exact cT.off _ b (.inl l);exact cT.off 0 b (.inr (by rw[u];exact l)))
  (λ_ _=>.r0 (Goes.rely (λ_ _ _ x y=>x.trans y) hm (h.rely (λb l=>(l.elim id id).elim) cT.wgch)))
 refine⟨_,_,⟨_,j.size,_,_⟩,C,.a E,_,_,sl,_,_,_,_,cl,st,sm,rfl,o,fS.of_block (h.same Wg cT.wgch),?_,?_,hX,hT,rfl⟩;rw[A];exact D;exact iF.app rfl λ_ op H _=>by simp only[DX,eQ,sN,ou]at H;rcases H with rfl|rfl|rfl|rfl<;>rfl
end
section
variable{P:cf}{ty:cg}{Wg Ch n:Nat}{rd0:Nat->Prop}{val:Nat->ce->(Nat->Prop)->cd->Prop}{End:gF}{w0:cd}{B0 m0:Nat}{X:Nat->Prop}{T0:Nat} {ro:Nat->dD}{rk:Nat->WT}{dd:Nat->Nat}{G:Gh}{cl:Bool}{gs:Array cj}{w w':cd}{sl:Option (Nat×Nat)}{t:Trace}{st sm:Int}
theorem Goal.mk{k:Nat}{a:Array cj}{w':cd}{g:Option (Nat×Nat)}{ro':Nat->dD}{rk':Nat->WT}{dd':Nat->Nat}{G':Gh}{cl':Bool}{st' sm':Int}{ops:Array MemOp}(c:runT P (crowd gs w sl) k=(.next (crowd a w' g),ops)) (b:Com P ty Wg Ch n rd0 val End w0 B0 ro' rk' dd' G' cl' a w' (t++ops))(d:WgAt ty Wg w' st' sm')(e:Pl n m0 ro' cl' G' a.size st' sm')(f:yM Ch n m0 G' cl' (t++ops))(h:G'.x=X)(i:G'.t0=T0) (j:Mu.Lt ⟨meas n m0 ro',a.size,rk',Eg (ro' (m0+n))⟩ ⟨meas n m0 ro,gs.size,rk,Eg (ro (m0+n))⟩):Goal P ty Wg Ch n rd0 val End w0 B0 m0 X T0 ro rk gs w sl t k:=
 ⟨_,_,_,c,j,_,_,_,_,_,_,_,_,_,_,rfl,b,d,e,f,h,i,rfl⟩
variable(cT:Com P ty Wg Ch n rd0 val End w0 B0 ro rk dd G cl gs w t)(er:Pl n m0 ro cl G gs.size st sm)(iF:yM Ch n m0 G cl t)(hX:G.x=X)(hT:G.t0=T0)(fS:WgAt ty Wg w st sm)
include cT er iF hX hT fS
theorem dU.ME{i:Nat}{g:cj}(U:i<n)(M:gs[m0+i]? =some g)(e:ro (m0+i)=.wk i 9)(p:0<gs.size):Goal P ty Wg Ch n rd0 val End w0 B0 m0 X T0 ro rk gs w sl t (m0+i):=by
 have hp:=er.pos;have L:=cT.sit _ g M;have E:m0+i<gs.size:=(eP.1 M).1;have Z:(m0+i==0)=false:=by simp;omega
 have aa:¬G.done (m0+i):=λh=>by rcases(er.done _).1 h with x|⟨i,s,x,_⟩;omega;rw[e]at x;cases x;omega
 have F:cl=false:=open_of cT er U e (by omega);generalize ab:rk (m0+i)=τ at L;generalize hd:dd (m0+i)=d at L;generalize V:G.own (m0+i)=ac at L;generalize u:G.rd (m0+i)=rc at L;rw[e]at L;cases L with
 |Pt h=>
  rcases dU.IM (sl:=sl) cT er iF hX hT fS (k:=m0+i) M (by rw[Z,V,u];exact h) ab e (by simp) (by simp) aa (λτ ac g w h=>by rw[hd,u];rw[Z,u]at h;exact .Pt h)with D|h;obtain⟨v,z,hA⟩:=D w (.refl _ _ _ _);obtain⟨c,W⟩:=cT.ch;rw[F]at W;have y:stepG P (m0+i==0) g w=.comm g #[scase Ch v z] true .send w #[]:=by rw[Z];exact hA.2.1 w
  have N:=λx (o:cj) (H:gs[x]? =some o)=>(cT.sit x o H).IP;by_cases I:∃r S,ro 0=.rc r S 1;obtain⟨r,S,Y⟩:=I;obtain⟨ga,J⟩:∃ga,gs[0]? =some ga:=⟨gs[0],ji p⟩;have b:=cT.sit 0 ga J;rcases b.IP with H|⟨q,S2,z2,O,f,ad,rfl,hL⟩
  ·exfalso;rw[Y]at b;generalize dd 0=d0 at b;generalize G.rd 0=x0 at b;cases b with
   |LY h=>simp[offersAt_parked_recv]at H
  have Q:=f;rw[Y]at Q;cases Q;have l:partners (gs.setIfInBounds (m0+i) ph) Ch false=[(0,0)]:=by rw[partners_one (j:=0) (g:=parked O #[rcase Ch z2] (.recv true)) (by rw[eY (by omega)];exact J) λx o ae H=>?_];simp[offersAt_parked_recv];rcases getElem?_stand gs (m0+i) x o H with⟨_,rfl⟩|⟨_,A⟩;rfl;rcases N x o A with h|⟨_,_,_,_,f,_⟩;exact h;exfalso;rcases er.lt_size (eP.1 A).1 with k0|⟨k1,B⟩|⟨_,_,_,_,B,_⟩|⟨_,_,B⟩;exact ae k0;rw[er.old x k1 B]at f;cases f;rw[B]at f;cases f;rw[B]at f;cases f
  have m:=crowd_send_meets (sl:=sl) M y W (show 0≠m0+i by omega) J l;have R:G.rd 0=rd0:=by
   generalize hq:G.rd 0=x at b;rw[Y]at b;generalize dd 0=d0 at b;generalize parked O #[rcase Ch z2] (.recv true)=gg at b;cases b with
   |LY h=>rfl
  refine dU.meet (w':=w.setChan Ch 0 #[] cl (c+1) (c+1) false) cT er iF hX hT fS U e (.inl rfl) Y ad hd p E R hL hA (by rw[F];exact W) ?_ ?_ ?_ ?_ ⟨w.drawn,rfl⟩ (by simp only[MemOp.ofEvents,F]at m⊢;simpa using m);simp;rw[eY (by omega),jE p];rw[finishComm_recv];rfl;rw[jE (by simpa using E)];rw[finishComm_send];intro x h1 h2;rw[eY (fO h2),eY (fO h1)];have l:partners (gs.setIfInBounds (m0+i) ph) Ch false=[]:=partners_nil λx o H=>by rcases getElem?_stand gs (m0+i) x o H with⟨_,rfl⟩|⟨_,A⟩;rfl;rcases N x o A with h|⟨q,S,_,_,f,_⟩;exact h;exfalso;rcases er.lt_size (eP.1 A).1 with k0|⟨k1,B⟩|⟨_,_,_,_,B,_⟩|⟨_,_,B⟩;subst k0;exact I ⟨q,S,f⟩;rw[er.old x k1 B]at f;cases f;rw[B]at f;cases f;rw[B]at f;cases f
  have m:=crowd_waits (sl:=sl) M y λcc af=>by
   have:cc=scase Ch v z:=by simpa using af
   subst this;exact ways_send_none W (fN _) l
  have T:=er.Un U e λr S h=>I ⟨r,S,h⟩;have C:=cT.tu (r':=.wk i 8) (τ':=rk (m0+i)) E (g':=parked g #[scase Ch v z] .send) (by rw[hd,V,u];refine .tu λw1 ag=>?_;obtain⟨v1,z1,K⟩:=D w1 (by rw[V,u];exact ag);have:=(K.2.1 w).symm.trans (hA.2.1 w);simp only[GStep.comm.injEq,Bd,qm,scase,CommCase.mk.injEq,fI,and_true,true_and]at this;obtain⟨rfl,rfl⟩:=this;rw[V]at K;exact K);rw[oX]at C;refine Goal.mk m (ro':=upd ro (m0+i) (.wk i 8)) (by simpa[MemOp.ofEvents]using C) fS (by simpa using T) (by simpa[MemOp.ofEvents]using iF) hX hT (.a (ml hp U (r':=.wk i 8) (by rw[e];simp[jd])));exact h
theorem dU.J0{g:cj}(l:gs[m0+n]? =some g)(e:ro (m0+n)=.cl .w3)(h:stepG P false g w=.go {g with status:=.blocked} w #[])(m:∀w1,dG (G.own (m0+n)) (G.rd (m0+n)) (Lv ty Wg) w w1->Ul P ty Wg Ch (G.rd (m0+n)) (G.own (m0+n)) g w1)(p:dd (m0+n)=1)(j:sm=0):Goal P ty Wg Ch n rd0 val End w0 B0 m0 X T0 ro rk gs w sl t (m0+n):=by
 have s:=er.pos;have k:m0+n<gs.size:=(eP.1 l).1;have q:(m0+n==0)=false:=by simp;omega
 have c:=runT_crowd_go (P:=P) (sl:=sl) (i:=m0+n) l (by rw[q];exact h);have d:gs.map (woken P g {g with status:=.blocked} w)=gs:=by
  have:woken P g {g with status:=.blocked} w=id:=by funext o;simp[woken]
  rw[this,Array.map_id]
 rw[d]at c;have f:=er.Uq (c':=.blk) e trivial trivial λ_=>j;have r:meas n m0 (upd ro (m0+n) (.cl .blk))=meas n m0 ro:=by unfold meas;rw[oW (.inr (cz _)),qV (.inr (cz _)),upd_same,upd_ne _ _ (by omega),e];rfl
 have a:=cT.tu (r':=.cl .blk) (τ':=rk (m0+n)) k (g':={g with status:=.blocked}) (by rw[p];exact .Px m);rw[oX]at a;refine Goal.mk c (ro':=upd ro (m0+n) (.cl .blk)) (by simpa[MemOp.ofEvents]using a) fS (by simpa using f) (by simpa[MemOp.ofEvents]using iF) hX hT (.b r (by simp) rfl ?_);show Eg (upd ro (m0+n) (.cl .blk) (m0+n))<Eg (ro (m0+n));rw[upd_same,e];decide
theorem dU.J1{g:cj}(hk:gs[m0+n]? =some g)(e:ro (m0+n)=.cl .cl)(ak:0<gs.size)(hC:TT P Ch (G.own (m0+n)) g w)(I:dd (m0+n)=0):Goal P ty Wg Ch n rd0 val End w0 B0 m0 X T0 ro rk gs w sl t (m0+n):=by
 have hp:=er.pos;have z:m0+n<gs.size:=(eP.1 hk).1;have e0:(m0+n==0)=false:=by simp;omega
 obtain⟨S,s0,h0,hw,hz⟩:=er.ut e trivial;have L:cl=false:=by
  cases hc:cl with
  |false=>rfl
  |true=>have:=er.clq.1 hc;rw[e]at this;cases this
 obtain⟨c,A⟩:=cT.ch;rw[L]at A;have B:=lt_of_heap A;obtain⟨_,aa,g',C,ab,q,hq⟩:=hC;have ac:=ab c c A;have M:=runT_crowd_go (P:=P) (sl:=sl) (i:=m0+n) hk (by rw[e0];exact ac);have ad:ix P g g'=true:=by simp[ix,aa,C]
 have d:qX Ch w (w.setChan Ch 0 #[] true c c false):=qX.set w w.drawn _ _ _ _ _ _;have m:(w.setChan Ch 0 #[] true c c false).heap[Ch]? =some (.chan 0 #[] true c c false):=setChan_at w w.drawn _ _ _ _ _ _ B;have N:MemOp.ofEvents (m0+n) g.frame.fn g.frame.place #[⟨.obj Ch,false,true⟩,⟨.obj Ch,true,true⟩]=MemOp.ofEvents (m0+n) g.frame.fn g.frame.place #[⟨.obj Ch,false,true⟩]++MemOp.ofEvents (m0+n) g.frame.fn g.frame.place #[⟨.obj Ch,true,true⟩]:=by simp[MemOp.ofEvents]
 have ae:¬G.done (m0+n):=by intro I;rcases(er.done _).1 I with⟨_,x⟩|⟨i,s,x,_⟩;omega;rw[e]at x;cases x
 have af:Kn.na G (m0+n) (Deaf t (m0+n)) w.heap.size w.heap.size #[⟨.obj Ch,false,true⟩]:=by
  intro j ev J;match j,J with
  |0,J=>
   simp at J;subst J;refine⟨λx p _=>?_,B⟩;simp only[MemAct.ofEvent,MemAct.touch?,fI]at p;subst p;exact⟨Ch,rfl,.inr (.inl ⟨rfl,(cT.wg Ch).2 (.inr rfl),(er.usr _).2 (.inr ⟨by omega,z⟩),λI=>absurd I ae⟩)⟩
  |j+1,J=>simp at J
 have O:∀k∈MemOp.ofEvents (m0+n) g.frame.fn g.frame.place #[⟨.obj Ch,false,true⟩,⟨.obj Ch,true,true⟩],k.g=m0+n/\k.act≠ .mark .disable/\k.act≠ .mark .enable:=by
  intro k f;obtain⟨x,p,rfl⟩:=Go.Conc.mem_ofEvents f;have:x=⟨.obj Ch,false,true⟩\/x=⟨.obj Ch,true,true⟩:=by simpa using p
  rcases this with rfl|rfl;exact⟨rfl,by simp[MemAct.ofEvent],by simp[MemAct.ofEvent]⟩;exact⟨rfl,by simp[MemAct.ofEvent],by simp[MemAct.ofEvent]⟩
 have hu:∀k∈MemOp.ofEvents (m0+n) g.frame.fn g.frame.place #[⟨.obj Ch,true,true⟩],k.g=m0+n/\k.act=.close Ch:=by
  intro k f;obtain⟨x,p,rfl⟩:=Go.Conc.mem_ofEvents f;have:x=⟨.obj Ch,true,true⟩:=by simpa using p
  subst this;exact⟨rfl,rfl⟩
 have ag:∀k∈MemOp.ofEvents (m0+n) g.frame.fn g.frame.place #[⟨.obj Ch,true,true⟩],k.act.touch?=none:=λk f=>by rw[(hu k f).2];rfl
 have Q:Pl n m0 (upd ro 0 (.rc 0 S 2)) cl G gs.size st sm:=er.YH h0;have R:=Q.IK (c:=.cl) (c':=.quit) (cl':=true) (by rw[upd_ne _ _ (by omega)];exact e) trivial trivial (by simp) (.inr λr S' x=>by rw[upd_same]at x;cases x);have D:Com P ty Wg Ch n rd0 val End w0 B0 (upd (upd ro 0 (.rc 0 S 2)) (m0+n) (.cl .quit)) (upd rk (m0+n) (.num q)) dd G true ((gs.map (woken P g g' (w.setChan Ch 0 #[] true c c false))).setIfInBounds (m0+n) g') (w.setChan Ch 0 #[] true c c false)
  (t++MemOp.ofEvents (m0+n) g.frame.fn g.frame.place #[⟨.obj Ch,false,true⟩,⟨.obj Ch,true,true⟩]):=by
  refine⟨λx o Z=>?_,?_,by rw[d.size];exact cT.fits,λx=>?_,λx p=>cT.above x (by simpa using p),cT.wg,cT.off,cT.wgch,by rw[d.size];exact cT.wglow,λi x hi p=>?_,cT.new,λb hb h1 h2=>(d.same b h2).trans (cT.base b hb h1 h2),by rw[d.size];exact cT.grown,
   cT.world,⟨st,sm,fS.of_block (d.same Wg cT.wgch)⟩,⟨c,m⟩⟩
  by_cases K:x=m0+n;subst K;rw[jE (by simpa using z)]at Z;obtain rfl:=cE Z;rw[upd_same,upd_same,I];exact .Pb hq;rw[eY (fO K),qF]at Z;obtain⟨y,hy,rfl⟩:=ij.1 Z;rw[upd_ne _ _ K,upd_ne _ _ K,Ef,ad];simp only[cX];have E:=(cT.sit x y hy).rely (d.rely (cT.off x) cT.wgch);by_cases v:x=0;subst v;rw[upd_same];rw[h0]at E;generalize rk 0=al at E⊢;generalize dd 0=d0 at E⊢;generalize G.own 0=o0 at E⊢;generalize G.rd 0=r0 at E⊢;cases E with
  |src h=>
   rw[again_running _ (.inl (Way.running (λ_ _ _ x=>(iW x).1) h))];exact .src h
  |LY h=>
   rw[again_recv_closed m];exact .sup h
  |sup h=>
   rw[again_running _ (.inl rfl)];exact .sup h
  rw[upd_ne _ _ v];have T:=(eP.1 hy).1;have hA:=E.again true m λ_=>?_;rcases er.lt_size T with k0|⟨k1,u⟩|⟨_,_,_,_,u,_⟩|⟨u,_⟩;exact absurd k0 v;rw[er.old x k1 u]at hA⊢;exact hA;rw[u]at hA⊢;exact hA;exact absurd u K;rcases er.lt_size T with k0|⟨k1,u⟩|⟨i,_,hi,rfl,u,_⟩|⟨u,_⟩;exact absurd k0 v;rw[er.old x k1 u];exact⟨λ_ _ x=>(nomatch x),λ_ x=>(nomatch x)⟩;obtain⟨k3,ah⟩:=hw i hi;rw[ah];exact⟨λ_ _ x=>(nomatch x),λ_ x=>(nomatch x)⟩;exact absurd u K;rw[d.size];rw[N,<-Array.append_assoc];have U:=cT.kn.step (fn:=g.frame.fn) (pos:=g.frame.place) cT.fits (cz _) (λ_=>rfl) af;rw[Kn.Gh.rZ]at U;exact U.IH ag λk f=>by rw[(hu k f).2];exact B
  have:=oY (t:=t) x (MemOp.ofEvents (m0+n) g.frame.fn g.frame.place #[⟨.obj Ch,false,true⟩,⟨.obj Ch,true,true⟩]).toList (λk f=>(O k (Array.mem_toList_iff.1 f)).2);rw[<-cT.deaf x,<-this];obtain⟨k,f,F⟩:=ij.1 p;rcases getElem?_append_cases f with⟨_,V⟩|⟨_,W⟩;have:=cT.gsz i x hi (by simp[Trace.g?,V,F]);simpa using this;rw[(O k W).1]at F;subst F;simpa using z
 have H:meas n m0 (upd (upd ro 0 (.rc 0 S 2)) (m0+n) (.cl .quit))<meas n m0 ro:=by unfold meas;rw[oW (.inr (cz _)),oW (.inl hp),qV (.inr (cz _)),qV (.inl hp),upd_same,upd_ne _ _ (by omega),upd_same,h0,e];simp only[tv,oA];omega
 refine Goal.mk M D (fS.of_block (d.same Wg cT.wgch)) (by simpa using R) ?_ hX hT (.a H);intro _;have l:(t++MemOp.ofEvents (m0+n) g.frame.fn g.frame.place #[⟨.obj Ch,false,true⟩,⟨.obj Ch,true,true⟩])[t.size+1]? =some {g:=m0+n,fn:=g.frame.fn,pos:=g.frame.place,act:=.close Ch}:=by rw[yr (by omega),ofEvents_eq];simp[MemAct.ofEvent]
 have ai:(t++MemOp.ofEvents (m0+n) g.frame.fn g.frame.place #[⟨.obj Ch,false,true⟩,⟨.obj Ch,true,true⟩]).size=t.size+2:=by simp[MemOp.ofEvents]
 refine⟨t.size+1,by rw[act?_of l],⟨m0+n,by simp only[Trace.g?,l,iX],?_⟩,by simp only[Trace.g?,l,iX],λi a _ ha _ _=>?_⟩;rw[deaf_inside _ _ _ _ _ 1 (by simp),cT.deaf (m0+n),I];simp[deafBehind];obtain⟨k,f,aj⟩:=touch_of ha;have Y:=(eP.1 f).1;rw[ai]at Y;rcases eA i (t.size+1)with h|h;exact h;have:i=t.size+1:=by omega
 subst this;rw[l]at f;cases f;cases aj
end
section
variable{P:cf}{ty:cg}{Wg Ch n:Nat}{rd0:Nat->Prop}{val:Nat->ce->(Nat->Prop)->cd->Prop}{End:gF}{w0:cd}{B0 m0:Nat}{X:Nat->Prop}{T0:Nat} {ro:Nat->dD}{rk:Nat->WT}{dd:Nat->Nat}{G:Gh}{cl:Bool}{gs:Array cj}{w w':cd}{sl:Option (Nat×Nat)}{t:Trace}{st sm:Int}
variable(cT:Com P ty Wg Ch n rd0 val End w0 B0 ro rk dd G cl gs w t)(er:Pl n m0 ro cl G gs.size st sm)(iF:yM Ch n m0 G cl t)(hX:G.x=X)(hT:G.t0=T0)(fS:WgAt ty Wg w st sm)
include cT er iF hX hT fS
theorem dU.Ek{r:Nat}{S:Nat->Bool}{z:ce}{g a:cj}(Q:gs[0]? =some g)(R:ro 0=.rc r S 2)(hL:∀w1,dG (G.own 0) rd0 (Lv ty Wg) w w1->nV P ty Wg Ch n rd0 val End z r S (G.own 0) a w1)(ae:G.rd 0=rd0)(W:dd 0=0) (an:∀w,stepG P true g w=.comm a #[rcase Ch z] true (.recv true) w #[]):(∃T ops,runT P (crowd gs w sl) 0=(.next T,ops)/\MD P Wg Ch End w0 B0 X T (t++ops))\/Goal P ty Wg Ch n rd0 val End w0 B0 m0 X T0 ro rk gs w sl t 0:=by
 have hp:=er.pos;have B:0<gs.size:=(eP.1 Q).1;obtain⟨c,Y⟩:=cT.ch;have ao:=lt_of_heap Y;have u:stepG P (0==0) g w=.comm a #[rcase Ch z] true (.recv true) w #[]:=an w;have Z:=λx (o:cj) (s:gs[x]? =some o)=>(cT.sit x o s).PI;have af:=hL w (.refl _ _ _ _);by_cases aa:∃i,i<n/\ro (m0+i)=.wk i 8
 ·right;have ap:partners (gs.setIfInBounds 0 ph) Ch true≠[]:=by
   obtain⟨i,M,e⟩:=aa;have D:m0+i<gs.size:=by
    cases er.lay with
    |st r2 s2 E gs gr gc gz gw gn=>rw[R]at E;cases E
    |sG E gc gz gw=>rw[R]at E;cases E
    |rc r2 S2 s2 E gc gz gw gS gs=>omega
   intro ag;have s:gs[m0+i]? =some gs[m0+i]:=ji D;have N:=cT.sit _ _ s;have U:(m0+i,0)∈partners (gs.setIfInBounds 0 ph) Ch true:=by
    refine mem_partners.2 ⟨gs[m0+i],by rw[eY (by omega)];exact s,?_⟩;rw[e]at N;generalize gs[m0+i]=o at N⊢;generalize dd (m0+i)=d0 at N;cases N with
    |tu h=>simp[offersAt_parked_send]
   rw[ag]at U;cases U
  have ah:∀j k,(j,k)∈partners (gs.setIfInBounds 0 ph) Ch true->k=0/\j≠0/\∃gj vj f ab,gs[j]? =some (parked gj #[scase Ch vj f] ab):=by intro j k aq;obtain⟨o,ho,F⟩:=mem_partners.1 aq;rcases getElem?_stand gs 0 j o ho with⟨_,rfl⟩|⟨ac,s⟩;cases F;rcases Z j o s with h|⟨i,v,f,gj,_,_,rfl,_⟩;rw[h]at F;cases F;rw[offersAt_parked_send]at F;simp at F;exact⟨F,ac,gj,v,f,.send,s⟩
  obtain⟨j,gj,vj,f,ab,d,ac,V,m⟩:=crowd_recv_meets_some (sl:=sl) Q u Y ap ah;rcases Z j _ V with h|⟨i,v,z2,ai,C,ar,he,hA⟩;simp[offersAt_parked_send]at h;have M:i<n/\j=m0+i:=by rcases er.lt_size (eP.1 V).1 with k0|⟨O,l⟩|⟨i2,_,A,rfl,l,_⟩|⟨_,_,l⟩;exact absurd k0 ac;rw[er.old j O l]at C;cases C;rw[l]at C;cases C;exact⟨A,rfl⟩;rw[l]at C;cases C
  obtain⟨M,rfl⟩:=M;have e1:(vj=v/\f=z2)/\ab=.send:=by have:=cM Goroutine.offers he;simpa[parked,scase]using this
  obtain⟨⟨rfl,rfl⟩,rfl⟩:=e1;have e2:gj.finishComm P #[scase Ch vj f] .send 0 undef false=Conc.served ai undef:=by rw[<-finishComm_parked P gj #[scase Ch vj f] #[scase Ch vj f] .send .send,he,finishComm_parked,finishComm_send]
  have e3:gj.frame=ai.frame:=by have:=cM Goroutine.frame he;simpa[parked]using this
  have D:=(eP.1 V).1;refine dU.meet (w':=(w.at d).setChan Ch 0 #[] cl (c+1) (c+1) false) cT er iF hX hT fS M C (.inr rfl) R W ar B D ae af hA Y ?_ ?_ ?_ ?_ ⟨d,rfl⟩ (by simp only[MemOp.ofEvents]at m⊢;simpa using m);simp;rw[jE (by simpa using B),finishComm_recv];rfl;rw[eY (by omega),jE D,e2];intro x h1 h2;rw[eY (fO h1),eY (fO h2)]
 have I:partners (gs.setIfInBounds 0 ph) Ch true=[]:=partners_nil λx o s=>by rcases getElem?_stand gs 0 x o s with⟨_,rfl⟩|⟨au,aj⟩;rfl;rcases Z x o aj with h|⟨i,_,_,_,C,_⟩;exact h;exfalso;rcases er.lt_size (eP.1 aj).1 with k0|⟨O,l⟩|⟨i2,_,A,rfl,l,_⟩|⟨_,_,l⟩;exact absurd k0 au;rw[er.old x O l]at C;cases C;rw[l]at C;cases C;exact aa ⟨_,A,l⟩;rw[l]at C;cases C
 cases J:cl with
 |false=>
  right;rw[J]at Y
  have m:=crowd_waits (sl:=sl) Q u λcc av=>by
   have:cc=rcase Ch z:=by simpa using av
   subst this;exact ways_recv_none Y I
  have ak:=er.Up R J λi M h8=>by
   cases er.lay with
   |st r2 s2 E gs gr gc gz gw gn=>rw[R]at E;cases E
   |sG E gc gz gw=>rw[R]at E;cases E
   |rc r2 S2 s2 E gc gz gw gS gs=>
    obtain⟨s3,x1,_⟩:=gw i M;rw[x1]at h8;simp only[jd]at h8;subst h8;exact aa ⟨i,M,x1⟩
  have K:=cT.tu (r':=.rc r S 1) (τ':=rk 0) B (g':=parked a #[rcase Ch z] (.recv true)) (by rw[W,ae];exact .LY hL);rw[oX]at K;exact Goal.mk m (ro':=upd ro 0 (.rc r S 1)) (by simpa[MemOp.ofEvents]using K) fS (by simpa using ak) (by simpa[MemOp.ofEvents]using iF) hX hT (.a (nf hp (by rw[R];simp[tv])))
 |true=>
  left;rw[J]at Y;have hq:=er.clq.1 J;obtain⟨S2,s2,al,hw,hz⟩:=er.ut hq trivial;rw[R]at al;cases al;have m:=crowd_recv_closed (sl:=sl) Q u Y I;obtain⟨p,O,l,k3,k4⟩:=iF J;have ad:=cT.kn.shut (y:={g:=0,fn:=a.frame.fn,pos:=a.frame.place,act:=.recvClosed Ch}) O l k3 k4 ⟨rfl,rfl⟩ (by rw[cT.deaf];exact W) ao λi x M s=>by have D:=cT.gsz i x M s;rcases er.lt_size D with k0|⟨O,l⟩|⟨i2,_,A,rfl,l,_⟩|⟨l,_⟩;exact .inl k0;exact .inr (.inl ((er.done _).2 (.inl ⟨O,l⟩)));refine .inr (.inl ?_);obtain⟨k,Q⟩:=hw i2 A;exact(er.done _).2 (.inr ⟨k,1,Q,by omega⟩);exact .inr (.inr l)
  have aw:∀j x,0<j->gs[j]? =some x->∃q,QuitsD P q (dd j) x:=λj x V s=>by
   have H:=cT.sit j x s;rcases er.lt_size (eP.1 s).1 with k0|⟨O,l⟩|⟨i2,_,A,rfl,_⟩|⟨rfl,_⟩;omega;rw[er.old j O l]at H;generalize rk j=τ at H;generalize dd j=d at H⊢;cases H with
   |old h=>exact⟨_,h⟩
   obtain⟨k,Q⟩:=hw i2 A;rw[Q]at H;generalize rk (m0+i2)=τ at H;generalize dd (m0+i2)=d at H⊢;cases H with
   |quit h=>exact⟨_,h⟩
   rw[hq]at H;generalize rk (m0+n)=τ at H;generalize dd (m0+n)=d at H⊢;cases H with
   |Pb h=>exact⟨_,h⟩
  have L:∀j,Deaf (t++#[({g:=0,fn:=a.frame.fn,pos:=a.frame.place,act:=.recvClosed Ch}:MemOp)]) j=dd j:=λj=>by have:=oY (t:=t) j [({g:=0,fn:=a.frame.fn,pos:=a.frame.place,act:=.recvClosed Ch}:MemOp)] (by simp);exact this.trans (cT.deaf j)
  refine⟨_,_,m,gs.setIfInBounds 0 (a.finishComm P #[rcase Ch z] (.recv true) 0 z false),w,sl,_,(λj=>open Classical in if h:∃q,∀x,gs[j]? =some x->QuitsD P q (dd j) x then Classical.choose h else 0),G.own 0,rfl,jE B,?_,⟨λj x V s=>?_,λj V=>?_⟩,?_,λb hb=>?_,cT.base,cT.grown,cT.world,cT.wglow⟩;rw[finishComm_recv];exact af.2.2;rw[eY (by omega)]at s;obtain⟨q,ax⟩:=aw j x V s;have am:∃q,∀x,gs[j]? =some x->QuitsD P q (dd j) x:=⟨q,λy hy=>by rw[s]at hy;cases hy;exact ax⟩;simp only[dif_pos am];have:=iu am x s;show QuitsD P _ (Deaf (t++(#[]++#[_])) j) x;rw[Array.empty_append,L j];exact this;have ay:gs.size<=j:=by simpa using V
  have:=cT.above j ay;show Deaf (t++(#[]++#[_])) j=0;rw[Array.empty_append,L j];exact this;have e:(λb=>b=Wg\/b=Ch\/X b)=λb=>G.wg b\/G.x b:=by funext b;rw[hX];exact propext (or_assoc.symm.trans (or_congr (cT.wg b).symm l8))
  rw[e];simpa[MemOp.ofEvents]using ad;exact⟨cT.new 0 b hb,cT.fits.own 0 b hb,λe=>cT.fits.ownwg 0 b hb ((cT.wg b).2 (.inl e)),cT.off 0 b (.inl hb)⟩
theorem dU.MG(hn:n<2147483647){g:cj}(q:gs[0]? =some g)(A:g.status=.running):(∃W ops,runT P (crowd gs w sl) 0=(.next W,ops)/\MD P Wg Ch End w0 B0 X W (t++ops))\/Goal P ty Wg Ch n rd0 val End w0 B0 m0 X T0 ro rk gs w sl t 0:=by
 have hp:=er.pos;have aj:0<gs.size:=(eP.1 q).1;have hS:=cT.sit 0 g q;have B:G.user 0:=(er.usr _).2 (.inl rfl);have hw:=(cT.wg Wg).2 (.inl rfl);have ab:=cT.wglow;have E:¬G.done 0:=λh=>(cT.fits.done 0 h).1 rfl;generalize F:rk 0=C at hS;generalize D:dd 0=d at hS;generalize y:G.own 0=l at hS;generalize c:G.rd 0=rc at hS;generalize f:ro 0=r at hS;cases hS with
 | @skd r C l g w m h=>
  right;rcases dU.idle (sl:=sl) cT er iF hX hT fS (k:=0) q (by rw[y,c];exact h) F f (by simp) (by simp) E (λC l g w h=>by rw[D,c];rw[c]at h;exact .skd m h)with⟨_,g',o,τ',j⟩|h;refine dU.book (r':=.st r 5) (τ':=τ') cT er iF hX hT fS q o (.refl Wg w) fS (pE (e:=mk .disable) rfl trivial) (by rw[D,c];exact .sa1 m j) (by rw[f];simp) λu O Q h3 _=>?_;have H:u 0=.st r 6:=by rw[Q _ (by rw[f];simp)];exact f
  exact⟨O.CL H (by omega) (by omega),nf hp (by rw[H];simp[tv])⟩;exact h
 | @sa1 r C l g w m h=>
  right;rcases dU.idle (sl:=sl) cT er iF hX hT fS (k:=0) q (by rw[y,c];exact h) F f (by simp) (by simp) E (λC l g w h=>by rw[D,c];rw[c]at h;exact .sa1 m h)with⟨_,Y⟩|h;obtain⟨k1,k2,_⟩:=er.GY (s':=4) f (.inl rfl);subst k1 k2;have al:=Mt n m0 ro;obtain⟨g',o,ha,hb⟩:=Y (V n m0 ro) (by omega) fS;by_cases hV:V n m0 ro=0;obtain⟨τ',j⟩:=ha hV;refine dU.book (r':=.st r 4) (τ':=τ') cT er iF hX hT fS q o (aside_setCell w (stA Wg) _) (fS.setSt _) (qW hw B ab (by omega)) (by rw[D,c,y];exact .Rk m (by rw[y]at j;exact j)) (by rw[f];simp) λu O Q h3 _=>?_;have H:u 0=.st r 5:=by rw[Q _ (by rw[f];simp)];exact f
  have:=(O.GY (s':=4) H (.inl rfl)).2.2;rw[h3]at this;exact⟨this,nf hp (by rw[H];simp[tv])⟩;obtain⟨τ',j⟩:=hb hV;refine dU.book (r':=.st r 3) (τ':=τ') cT er iF hX hT fS q o (aside_setCell w (stA Wg) _) (fS.setSt _) (qW hw B ab (by omega)) (by rw[D,c,y];exact .ske m (by rw[y]at j;exact j)) (by rw[f];simp) λu O Q h3 _=>?_;have H:u 0=.st r 5:=by rw[Q _ (by rw[f];simp)];exact f
  have:=(O.GY (s':=3) H (.inr rfl)).2.2;rw[h3]at this;exact⟨this,nf hp (by rw[H];simp[tv])⟩;exact h
 | @Rk r C l g w m h=>
  right;rcases dU.idle (sl:=sl) cT er iF hX hT fS (k:=0) q (by rw[y,c];exact h) F f (by simp) (by simp) E (λC l g w h=>by rw[D,c];rw[c]at h;exact .Rk m h)with⟨_,g',o,τ',j⟩|h;refine dU.book (r':=.st r 3) (τ':=τ') cT er iF hX hT fS q o (.refl Wg w) fS (Ei (w:=false) hw B (by rw[er.say,(er.CM f).1];rfl) ab) (by rw[D,c];exact .ske m j) (by rw[f];simp) λu O Q h3 _=>?_;have H:u 0=.st r 4:=by rw[Q _ (by rw[f];simp)];exact f
  exact⟨O.CL H (by omega) (by omega),nf hp (by rw[H];simp[tv])⟩;exact h
 | @ske r C l g w m h=>
  right;rcases dU.idle (sl:=sl) cT er iF hX hT fS (k:=0) q (by rw[y,c];exact h) F f (by simp) (by simp) E (λC l g w h=>by rw[D,c];rw[c]at h;exact .ske m h)with⟨_,g',o,τ',j⟩|h;refine dU.book (r':=.st r 2) (τ':=τ') cT er iF hX hT fS q o (.refl Wg w) fS (pE (e:=mk .enable) rfl trivial) (by rw[D,c];exact .sgo m j) (by rw[f];simp) λu O Q h3 _=>?_;have H:u 0=.st r 3:=by rw[Q _ (by rw[f];simp)];exact f
  exact⟨O.CL H (by omega) (by omega),nf hp (by rw[H];simp[tv])⟩;exact h
 | @sgo r C l g w m h=>
  right;rcases dU.idle (sl:=sl) cT er iF hX hT fS (k:=0) q (by rw[y,c];exact h) F f (by simp) (by simp) E (λC l g w h=>by rw[D,c];rw[c]at h;exact .sgo m h)with⟨_,g',child,give,o,ah,J,⟨τc,ac⟩,j⟩|h;rw[y]at J j;have A:=runT_crowd_spawn (P:=P) (sl:=sl) (i:=0) q o;have I:=(er.CM f).2.2;obtain⟨K,ad⟩:=er.spawn (G':=G.child gs.size G.sayer give) f (λk=>l8) rfl rfl
  have L:¬G.done gs.size:=λh=>by
   rcases(er.done _).1 h with x|⟨i,s,x,_⟩;omega;cases er.lay with
   |st r2 s2 p M gr R T Z gn=>
    rw[f]at p;cases p;have:=gn (n-(r+1)) (cz _) (by omega);rw[T,this]at x;cases x
   |sG p R T Z=>rw[f]at p;cases p
   |rc r2 S2 s2 p R T Z gS M=>rw[f]at p;cases p
  obtain⟨τ0,ai⟩:∃τ0,kT P ty Wg Ch n rd0 val End (oB r) τ0 0 (λb=>G.own 0 b/\¬give b) (G.rd 0) g' w:=by
   rw[y,c];cases r with
   |zero=>
    obtain⟨τ0,Y⟩:=j;exact⟨τ0,.Ps Y⟩
   |succ r=>
    obtain⟨τ0,Y⟩:=j;exact⟨τ0,.skd (by omega) Y⟩
  have v:=cT.spawn (r0':=oB r) (rc':=.wk (n-(r+1)) 9) (τ0:=τ0) (τc:=τc) (sy:=G.sayer) (give:=give) (fn:=g.frame.fn) (fn':=child.frame.fn) (pos:=g.frame.place) (pos':=g.frame.place) q D (by rw[y];exact J) (.inl rfl) B L ai (by rw[c];exact .Pt ac);refine Goal.mk (G':=G.child gs.size G.sayer give) (rk':=upd (upd rk gs.size τc) 0 τ0) (dd':=dd) (cl':=cl) A (by simpa[MemOp.ofEvents]using v) fS (by simpa using K) ?_ hX hT (.a ad);refine iF.app rfl λ_ op ae _=>?_;have N:op={g:=0,fn:=g.frame.fn,pos:=g.frame.place,act:=.go gs.size}\/op={g:=gs.size,fn:=child.frame.fn,pos:=g.frame.place,act:=.start}:=by simpa[MemOp.ofEvents]using ae
  rcases N with rfl|rfl<;>rfl;exact h
 | @Ps C l g w h=>
  right;rcases dU.idle (sl:=sl) cT er iF hX hT fS (k:=0) q (by rw[y,c];exact h) F f (by simp) (by simp) E (λC l g w h=>by rw[D,c];rw[c]at h;exact .Ps h)with⟨_,g',child,give,z,o,ah,J,⟨ak,hA,τc,ac⟩,⟨τ0,j⟩⟩|h;rw[y]at J j;have A:=runT_crowd_spawn (P:=P) (sl:=sl) (i:=0) q o;obtain⟨I,K,ad⟩:=er.SP (G':=G.child gs.size (m0+n) give) f (λk=>l8) rfl rfl;have af:ro (m0+n)=.none:=by
   cases er.lay with
   |st r2 s2 p M gr R T Z gn=>rw[f]at p;cases p
   |sG p R T Z=>exact R
   |rc r2 S2 s2 p R T Z gS M=>rw[f]at p;cases p
  have L:¬G.done gs.size:=λh=>by rcases(er.done _).1 h with x|⟨i,s,x,_⟩;omega;rw[I,af]at x;cases x
  have ag:G.sayer=0:=by rw[er.say,af];rfl
  have v:=cT.spawn (r0':=.rc n (λ_=>false) 2) (rc':=.cl .kd) (τ0:=τ0) (τc:=τc) (sy:=m0+n) (give:=give) (fn:=g.frame.fn) (fn':=child.frame.fn) (pos:=g.frame.place) (pos':=g.frame.place) q D (by rw[y];exact J) (.inr ⟨I.symm,ag⟩) B L (by rw[y,c];exact .src j) (by rw[c];exact .Rl hA ac);rw[I]at v;refine Goal.mk (G':=G.child gs.size (m0+n) give) (rk':=upd (upd rk (m0+n) τc) 0 τ0) (dd':=dd) (cl':=cl) A (by simpa[MemOp.ofEvents,I]using v) fS (by simpa[I]using K) ?_ hX hT (.a ad);refine iF.app rfl λ_ op ae _=>?_;have N:op={g:=0,fn:=g.frame.fn,pos:=g.frame.place,act:=.go gs.size}\/op={g:=gs.size,fn:=child.frame.fn,pos:=g.frame.place,act:=.start}:=by simpa[MemOp.ofEvents]using ae
  rcases N with rfl|rfl<;>rfl;exact h
 | @src r S z C l g w h=>
  rcases dU.IM (sl:=sl) cT er iF hX hT fS (k:=0) q (by rw[y,c];exact h) F f (by simp) (by simp) E (λC l g w h=>by rw[D,c];rw[c]at h;exact .src h)with aa|h;refine dU.Ek cT er iF hX hT fS q f (λw1 U=>aa w1 (by rw[c];exact U)) c D (iW (aa w (.refl _ _ _ _))).2;exact .inr h
 | @LY r S z C l g w h=>cases A
 | @sup S z C l g w h=>
  have Y:=iW (h w (.refl _ _ _ _));refine dU.Ek (a:=g) cT er iF hX hT fS q f (λw1 U=>by rw[y]at U⊢;exact h w1 U) c D λw1=>?_;rw[stepG_tries];have e:({g with status:=.running}:cj)=g:=by obtain⟨fr,cl,s,dy,of⟩:=g;have:=Y.1;simp only at this;subst this;rfl
  rw[e];exact Y.2 w1
 |_=>
  exfalso;cases er.lay with
  |st r2 s2 p M gr R T Z gn=>rw[f]at p;cases p
  |sG p R T Z=>rw[f]at p;cases p
  |rc r2 S2 s2 p R T Z gS M=>rw[f]at p;cases p
end
section
variable{P:cf}{ty:cg}{Wg Ch n:Nat}{rd0:Nat->Prop}{val:Nat->ce->(Nat->Prop)->cd->Prop}{End:gF}{w0:cd}{B0 m0:Nat}{X:Nat->Prop}{T0:Nat} {ro:Nat->dD}{rk:Nat->WT}{dd:Nat->Nat}{G:Gh}{cl:Bool}{gs:Array cj}{w w':cd}{sl:Option (Nat×Nat)}{t:Trace}{st sm:Int}
theorem Us:∀{n:Nat},1<=V n m0 ro->∃i,i<n/\5<=jd (ro (m0+i))
 |0,h=>by simp[V,sumTo]at h
 |n+1,h=>by
  by_cases a:5<=jd (ro (m0+n));exact⟨n,by omega,a⟩;have:1<=V n m0 ro:=by simp only[V,sumTo]at h⊢;rw[CN a]at h;simpa using h
  obtain⟨i,c,b⟩:=Us this;exact⟨i,by omega,b⟩
theorem PK(o:Com P ty Wg Ch n rd0 val End w0 B0 ro rk dd G cl gs w t)(l:Pl n m0 ro cl G gs.size st sm)(b:0<gs.size):∃(i:Nat) (g:cj),gs[i]? =some g/\g.status=.running:=by
 have y:∀i,i<gs.size->∃g,gs[i]? =some g:=λi j=>⟨gs[i],ji j⟩;have a:∀i,i<gs.size->¬(ro i).idle->∃(i:Nat) (g:cj),gs[i]? =some g/\g.status=.running:=λi j d=>by obtain⟨g,A⟩:=y i j;rcases(o.sit i g A).running with h|⟨h,_⟩;exact⟨i,g,A,h⟩;exact absurd h d
 cases l.lay with
 |st r s p _ _ _ _ _ _=>exact a 0 b (by rw[p];exactλh=>h)
 |sG p _ _ _=>exact a 0 b (by rw[p];exactλh=>h)
 |rc r S s p m I z J D=>
  rcases D with rfl|⟨rfl,q,E⟩;exact a 0 b (by rw[p];exactλh=>h)
  ·by_cases B:∃i,i<n/\jd (ro (m0+i))=9;obtain⟨i,j,e⟩:=B;obtain⟨s,k,_⟩:=z i j;rw[k]at e;simp only[jd]at e;subst e;exact a (m0+i) (by omega) (by rw[k];exactλh=>h);obtain⟨c,m⟩:=m;by_cases d:(ro (m0+n)).idle;have F:c=.blk:=by
    rw[m]at d;cases c<;>first|rfl|exact d.elim|skip
    exfalso;have:=l.clq.2 m;rw[q]at this;cases this
   subst F;cases K:l.mode with
   |opn f _ _=>rw[m]at f;exact f.elim
   |reg _ _ u=>
    obtain⟨i,j,C⟩:=Us u;obtain⟨s,k,M,N,_⟩:=z i j;have v:=E i j;have x:jd (ro (m0+i))≠9:=λh=>B ⟨i,j,h⟩;rw[k]at C v x;simp only[jd]at C v x;refine a (m0+i) (by omega) ?_;rw[k];obtain rfl|rfl|rfl:s=5\/s=6\/s=7:=by omega
    all_goals exactλh=>h
   |last L _ H u _=>
    obtain⟨s,k,_⟩:=z L H;rw[k]at u;simp only[jd]at u;refine a (m0+L) (by omega) ?_;rw[k];rcases u with rfl|rfl|rfl;all_goals exactλh=>h
   |sema f _=>rw[m]at f;rcases f with f|f<;>cases f
   |fin f _=>rw[m]at f;exact f.elim
   exact a (m0+n) (by omega) d
theorem MH(a:Com P ty Wg Ch n rd0 val End w0 B0 ro rk dd G cl gs w t):∀g∈gs,awake g:=by intro g b d;obtain⟨i,c⟩:=Array.mem_iff_getElem?.1 b;rcases(a.sit i g c).running with h|⟨_,h|h⟩<;>rw[h]<;>simp
theorem dU.step(hn:n<2147483647){μ:Mu}{m:Machine}(h:dU P ty Wg Ch n rd0 val End w0 B0 m0 X T0 μ m t):(∃m₁ ops,stepT P m=(.next m₁,ops)/\MD P Wg Ch End w0 B0 X m₁ (t++ops))\/∃m₁ ops XF,stepT P m=(.next m₁,ops)/\Mu.Lt XF μ/\dU P ty Wg Ch n rd0 val End w0 B0 m0 X T0 XF m₁ (t++ops):=by
 obtain⟨gs,w,sl,ro,rk,dd,G,cl,st,sm,rfl,cT,fS,er,iF,hX,hT,rfl⟩:=h;have PL:0<gs.size:=by
  cases er.lay with
  |st r s h0 hs hr hc hz hw hn=>have:=er.pos;omega
  |sG h0 hc hz hw=>have:=er.pos;omega
  |rc r S s h0 hc hz hw hS hs=>omega
 obtain⟨k,g,d,un,hk,CO,JU⟩:=crowd_pick (P:=P) (w:=w) (sl:=sl) (MH cT) (PK cT er PL);rw[JU];have uu:=cT.at d;have G3:WgAt ty Wg (w.at d) st sm:=fS;rcases er.lt_size (Array.getElem?_eq_some_iff.1 hk).1 with rfl|⟨k1,k2⟩|⟨i,s,hi,rfl,e,_,_⟩|⟨rfl,c,e⟩
 ·exact dU.MG (sl:=un) uu er iF hX hT G3 hn hk CO
 ·right;have hS:=uu.sit k g hk;rw[er.old k k1 k2]at hS;generalize PH:rk k=τ at hS;generalize hd:dd k=dk at hS;generalize ho:G.own k=own at hS;generalize Z6:G.rd k=rc at hS;cases hS with
  |old h=>exact dU.slip (sl:=un) uu er iF hX hT G3 hk (by omega) (by simp) h CO PH hd (er.old k k1 k2) λ_ _ _ _ h=>.old h
 ·right;by_cases hs:s<=7
  ·exact dU.PF (sl:=un) uu er iF hX hT G3 hn hi hk e hs CO
  ·rcases(show s=9\/s=8 by omega)with rfl|rfl
   ·exact dU.ME (sl:=un) uu er iF hX hT G3 hi hk e PL
   ·have hS:=uu.sit _ g hk;rw[e]at hS;generalize dd (m0+i)=dk at hS;cases hS with
    |tu h=>cases CO
 ·right;rcases dU.G0 (sl:=un) uu er iF hX hT G3 hn hk e CO with h|⟨rfl,h,hd⟩|⟨rfl,h1,h2,h3,h4⟩
  ·exact h
  ·exact dU.J1 (sl:=un) uu er iF hX hT G3 hk e PL h hd
  ·exact dU.J0 (sl:=un) uu er iF hX hT G3 hk e h1 h2 h3 h4
theorem dU.runs(k:n<2147483647):∀(d:Mu) (m:Machine) (t:Trace),dU P ty Wg Ch n rd0 val End w0 B0 m0 X T0 d m t->∃N e f,runNT P N m t=(.next e,f)/\MD P Wg Ch End w0 B0 X e f:=by
 intro d;induction d using Mu.wf.induction with
 |_ d l=>
  intro m t h;rcases h.step k with⟨a,b,c,g⟩|⟨a,b,i,c,j,o⟩;exact⟨1,a,t++b,jY c,g⟩;obtain⟨N,e,f,p,g⟩:=l i j a (t++b) o;exact⟨1+N,e,f,Go.cF.runNT_add (jY c) p,g⟩
theorem phase(hn:n<2147483647){q:Nat->Nat}{a:cj}(Z:gs[0]? =some a)(hL:Leavers P t gs q)(E:Past (nU X) w.heap.size t)(j:∀b,rd0 b->b<w.heap.size/\¬X b/\b≠Wg/\b≠Ch) (F:Wg≠Ch)(H:¬X Wg)(I:¬X Ch)(l:WgAt ty Wg w 0 0){c:Nat}(z:w.heap[Ch]? =some (.chan 0 #[] false c c false))(hS:oz P ty Wg Ch n rd0 val End n cC a w):∃N m' t',runNT P N (crowd gs w sl) t=(.next m',t')/\MD P Wg Ch End w w.heap.size X m' t':=by
 have A:0<gs.size:=(eP.1 Z).1;let G:Gh:={own:=λ_ _=>False,rd:=λg b=>g=0/\rd0 b,wg:=λb=>b=Wg\/b=Ch,user:=λg=>g=0,sayer:=0,x:=X,done:=λg=>g≠0/\g<gs.size,t0:=t.size};have J:Kn.ft G w.heap.size t:=by
  have f:=ft.begin (m0:=gs.size) E (rd0:=rd0) λb f=>(j b f).2.1;refine f.Ed (λ_ _ h=>h.elim) (λg b h i a B m hw=>f.rd i a g b B m h hw) (λb h i a B m=>?_) rfl λg i hz a B hm K=>?_;refine .inr (.inr λg K=>?_);have L:g=0:=K;subst L;rcases E.known i a B (nd m)with x|⟨x,_⟩;exact x;exfalso;have o:b=Wg\/b=Ch:=h;have M:¬X b:=by rcases o with rfl|rfl;exact H;exact I
  clear h o;apply M;revert m x;cases a.loc<;>simp_all[blk,nU]<;>(intro x e;subst e;exact x);rcases f.told i a g B hm K hz with x|⟨x,⟨b,O,Q⟩,y⟩;exact .inl x;exact .inr ⟨x,⟨b,O,Q.imp (λh=>h.elim) id⟩,y⟩
 have p:G.Fits w.heap.size:=by refine⟨λ_ _ h=>h.elim,λg b h=>(j b h.2).1,λb h=>?_,λ_ _ _ h=>h.elim,λ_ _ _ h=>h.elim,λ_ _ h=>h.elim,λg b h h2=>h2.elim (j b h.2).2.2.1 (j b h.2).2.2.2,λg h=>⟨h.1,fO h.1,λb h=>h.elim,λb f=>h.1 f.1⟩⟩;have o:b=Wg\/b=Ch:=h;rcases o with rfl|rfl;exact lt_of_heap l;exact lt_of_heap z
 let ro:Nat->dD:=λk=>if k=0 then oB n else if k<gs.size then .old else .none
 obtain⟨u,R⟩:∃u,kT P ty Wg Ch n rd0 val End (oB n) u 0 cC rd0 a w:=by
  cases n with
  |zero=>
   obtain⟨u,S⟩:=hS;exact⟨u,.Ps S⟩
  |succ r=>
   obtain⟨u,S⟩:=hS;exact⟨u,.skd (by omega) S⟩
 let rk:Nat->WT:=λk=>if k=0 then u else .num (q k)
 have C:Com P ty Wg Ch n rd0 val End w w.heap.size ro rk (Deaf t) G false gs w t:=by
  refine⟨λk g v=>?_,J,p,λ_=>rfl,hL.above,λb=>l8,λk b f=>?_,F,lt_of_heap l,λi k D v=>?_,λ_ _ h=>h.elim,λ_ _ _ _=>rfl,cz _,⟨rfl,rfl,rfl⟩,⟨_,_,l⟩,⟨c,z⟩⟩;by_cases e:k=0;subst e;rw[Z]at v;obtain rfl:=cE v;have e1:G.own 0=cC:=rfl;have e2:G.rd 0=rd0:=by funext b;simp[G]
  simp only[ro,rk,cX];rw[E.hears,e1,e2];exact R;have T:=(eP.1 v).1;simp only[ro,rk,cr e,cx T];exact .old (hL.old k g (by omega) v);rcases f with f|f;exact f.elim;exact(j b f.2).2.2.2;exfalso;have:t.size<=i:=D;obtain⟨op,U,_⟩:=ij.1 v;have:=lt_size_of_getElem? U;omega
 have hV:V n gs.size ro=0:=by
  have:V n gs.size ro=sumTo n λ_=>0:=sumTo_congr λi D=>by simp only[ro];rw[cr (by omega),cr (by omega)];rfl
  rw[this,tw]
 have d:∀i,ro (gs.size+i)=.none:=λi=>by simp only[ro];rw[cr (by omega),cr (by omega)]
 have W:Pl n gs.size ro false G gs.size 0 0:=by
  refine⟨A,?_,λk k1 k2=>?_,?_,?_,λk=>?_,?_,λk=>?_⟩;cases n with
  |zero=>exact .sG rfl (d 0) (by omega) λi D=>by omega
  |succ r=>exact .st r 6 rfl (by omega) (by omega) (d _) (by omega) (λi D=>by omega) λi _ _=>d i
  simp only[ro];rw[cr (by omega),cx k2];rw[d];simp;have:=Mode.opn (n:=n) (m0:=gs.size) (ro:=ro) (by rw[d];trivial) (λi D=>.inl (by rw[d];rfl)) (λvs hv=>by rw[d]at hv;cases hv);have Y:pend (ro 0)=0:=by simp only[ro,cX];cases n<;>rfl
  rw[hV,Y]at this;simpa using this;show k=0↔_;omega;rw[d];rfl;show(k≠0/\k<gs.size)↔_;constructor;exactλh=>.inl ⟨by omega,h.2⟩;rintro(h|⟨i,s,e,_⟩);exact⟨by omega,h.2⟩;simp only[ro]at e;split at e;revert e;cases n<;>simp[oB];split at e<;>cases e
 exact dU.runs hn _ _ _ ⟨gs,w,sl,ro,rk,Deaf t,G,false,0,0,rfl,C,l,W,(λh=>(nomatch h)),rfl,rfl,rfl⟩
end
end Go.cF.Cr
