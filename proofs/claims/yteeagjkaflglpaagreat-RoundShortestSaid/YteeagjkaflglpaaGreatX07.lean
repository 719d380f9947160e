/- Laws that the proof needs, part 7. Conditions: none. -/
import Derived.Test.YteeagjkaflglpaaGreatX06
set_option maxRecDepth 100000
set_option maxHeartbeats 8000000
set_option linter.all false
namespace Go.ck.Cr
open Go.Conc Go.ck Go.ck.Kn
open Go.ConcR (KK wgBlock WgAt stA smA mk)
open Go.ConcN (sumTo upd sumTo_upd upd_ne upd_same sumTo_congr le_sumTo sumTo_le)
section
variable{P:Program}{ty:TypeId}{Wg Ch n:Nat}{rd0:Nat->Prop}{val:Nat->Value->(Nat->Prop)->World->Prop}{End:eK}{w0:World}{B0 m0:Nat}{X:Nat->Prop}{T0:Nat} {ro:Nat->cN}{rk:Nat->WT}{dd:Nat->Nat}{G:Gh}{cl:Bool}{gs:Array Goroutine}{w w':World}{sl:Option (Nat×Nat)}{t:Trace}{st sm:Int}
theorem Gh.Al(G:Gh){k sy:Nat}{give:Nat->Prop}:(G.child k sy give).own 0=λb=>G.own 0 b/\¬give b:=by funext b;simp[Gh.child]
theorem Gh.Am(G:Gh){k sy:Nat}{give:Nat->Prop}(a:k≠0):(G.child k sy give).own k=ci:=by funext b;simp[Gh.child,a]
theorem Gh.CS(G:Gh){k sy x:Nat}{give:Nat->Prop}(a:x≠0)(c:x≠k):(G.child k sy give).own x=G.own x:=by funext b;simp[Gh.child,a,c]
theorem Gh.CU(G:Gh){k sy:Nat}{give:Nat->Prop}:(G.child k sy give).rd k=λb=>G.rd 0 b\/give b:=by funext b;simp[Gh.child]
theorem Gh.xA(G:Gh){k sy x:Nat}{give:Nat->Prop}(a:x≠k):(G.child k sy give).rd x=G.rd x:=by funext b;simp[Gh.child,a]
theorem Com.spawn(h:Com P ty Wg Ch n rd0 val End w0 B0 ro rk dd G cl gs w t){g g' child:Goroutine}{r0' rc':cN}{τ0 τc:WT}{sy:Nat}{give:Nat->Prop}{fn fn':FuncId}{pos pos':String}(E:gs[0]? =some g)(l:dd 0=0) (v:∀b,give b->G.own 0 b)(m:sy=G.sayer\/(sy=gs.size/\G.sayer=0))(y:G.user 0)(z:¬G.done gs.size)
 (A:im P ty Wg Ch n rd0 val End r0' τ0 0 (λb=>G.own 0 b/\¬give b) (G.rd 0) g' w)(B:im P ty Wg Ch n rd0 val End rc' τc 0 ci (λb=>G.rd 0 b\/give b) child w):
 Com P ty Wg Ch n rd0 val End w0 B0 (upd (upd ro gs.size rc') 0 r0') (upd (upd rk gs.size τc) 0 τ0) dd (G.child gs.size sy give) cl ((gs.setIfInBounds 0 g').push child) w (t++#[{g:=0,fn,pos,act:=.go gs.size},{g:=gs.size,fn:=fn',pos:=pos',act:=.start}]):=by
 have p:0<gs.size:=(Array.getElem?_eq_some_iff.1 E).1;have c:gs.size≠0:=by omega
 have q:dd gs.size=0:=h.above _ (Nat.le_refl _);refine⟨λx o f=>?_,?_,?_,λx=>?_,λx C=>?_,h.wg,λx b a=>?_,h.wgch,h.wglow,λi x F C=>?_,λx b a=>?_,h.base,h.grown,h.world,h.live,h.ch⟩
 ·rw[Array.getElem?_push]at f;split at f
  ·next e=>
   obtain rfl:=Option.some.inj f;have k:x=gs.size:=by simpa using e
   subst k;rw[upd_ne _ _ c,upd_same,upd_ne _ _ c,upd_same,Gh.Am _ c,Gh.CU,q];exact B
  ·next e=>
   have k:x≠gs.size:=by simpa using e
   by_cases r:x=0
   ·subst r;rw[Array.getElem?_setIfInBounds_self_of_lt p]at f;obtain rfl:=Option.some.inj f;rw[upd_same,upd_same,Gh.Al,Gh.xA _ (Ne.symm c),l];exact A
   ·rw[Array.getElem?_setIfInBounds_ne (Ne.symm r)]at f;rw[upd_ne _ _ r,upd_ne _ _ k,upd_ne _ _ r,upd_ne _ _ k,Gh.CS _ r k,Gh.xA _ k];exact h.sit x o f
 ·exact h.kn.child ⟨rfl,rfl⟩ ⟨rfl,rfl⟩ (by rw[h.deaf,l]) (by rw[h.deaf,q]) y m v c
 ·exact h.fits.child c z (m.imp id (·.1)) v
 ·have:=lf (t:=t) x [{g:=0,fn,pos,act:=.go gs.size},{g:=gs.size,fn:=fn',pos:=pos',act:=.start}] (by simp);exact this.trans (h.deaf x)
 ·have H:gs.size+1<=x:=by simpa using C
  exact h.above x (by omega)
 ·have J:Ch<w.heap.size:=by obtain⟨s,I⟩:=h.ch;exact lt_of_heap I
  rcases a with a|a
  ·refine h.off x b (.inl ?_);simp only[Gh.child]at a;split at a
   ·next e=>subst e;exact a.1
   ·split at a
    ·exact a.elim
    ·exact a
  ·simp only[Gh.child]at a;split at a
   ·rcases a with a|a
    ·exact h.off 0 b (.inr a)
    ·exact h.off 0 b (.inl (v b a))
   ·exact h.off x b (.inr a)
 ·obtain⟨K,D,j⟩:=Option.map_eq_some_iff.1 C;rcases getElem?_append_cases D with⟨_,u⟩|⟨_,d⟩
  ·have:=h.gsz i x F (by simp[Trace.g?,u,j]);simp;omega
  ·simp only[List.mem_toArray,List.mem_cons,List.not_mem_nil,or_false]at d;rcases d with rfl|rfl
   ·subst j;simp
   ·subst j;simp
 ·simp only[Gh.child]at a;split at a
  ·next e=>exact h.new 0 b a.1
  ·split at a
   ·exact a.elim
   ·exact h.new x b a
theorem Gh.CV(G:Gh){j:Nat}:(G.hand j).own 0=λb=>G.own 0 b\/G.own j b:=by funext b;simp[Gh.hand]
theorem Gh.Fe(G:Gh){j x:Nat}(a:x≠0)(c:x≠j):(G.hand j).own x=G.own x:=by funext b;simp[Gh.hand,a,c]
theorem Gh.BM(G:Gh){j x:Nat}(a:x≠j):(G.hand j).rd x=G.rd x:=by funext b;simp[Gh.hand,a]
structure mP(Ch:Nat)(w w':World):Prop where
 tape:w'.tape=w.tape
 os:w'.os=w.os
 output:w'.output=w.output
 size:w'.heap.size=w.heap.size
 same:∀b,b≠Ch->w'.heap[b]? =w.heap[b]?
theorem mP.set(w:World)(d cap:Nat)(a:Array Value)(cl:Bool)(s r:Nat)(tm:Bool):mP Ch w ((w.at d).setChan Ch cap a cl s r tm):=by refine⟨rfl,rfl,rfl,by simp[World.setChan,World.at],λb c=>?_⟩;simp[World.setChan,World.at,Array.getElem?_setIfInBounds_ne (Ne.symm c)]
theorem setChan_at(w:World)(d cap:Nat)(a:Array Value)(cl:Bool)(s r:Nat)(tm:Bool)(h:Ch<w.heap.size):((w.at d).setChan Ch cap a cl s r tm).heap[Ch]? =some (.chan cap a cl s r tm):=by simp[World.setChan,World.at,h]
theorem mP.rely(h:mP Ch w w'){own rd:Nat->Prop}(a:∀b,own b\/rd b->b≠Ch)(c:Wg≠Ch):cO own rd (Lv ty Wg) w w':=
 ⟨h.tape,h.os,h.output,by rw[h.size];exact Nat.le_refl _,λb _ d=>h.same b (a b d),λ⟨st,sm,e⟩=>⟨st,sm,e.of_block (h.same Wg c)⟩⟩
theorem Com.hand(h:Com P ty Wg Ch n rd0 val End w0 B0 ro rk dd G cl gs w t){j:Nat}{d:Array Goroutine}{a b:Goroutine}{r0' rj':cN}{τ0 τj:WT}{s cap:Nat}{fn fn' fn2 fn3:FuncId}{pos pos' pos2 pos3:String} (p:j≠0)(C:j<gs.size)(q:0<gs.size)(r:dd 0=0)(u:dd j=0)(v:G.sayer≠j) (y:d.size=gs.size)(L:d[0]? =some a)(c:d[j]? =some b)(z:∀x,x≠0->x≠j->d[x]? =gs[x]?)(e:mP Ch w w')(D:∃s,w'.heap[Ch]? =some (.chan 0 #[] cl s s false))
 (E:im P ty Wg Ch n rd0 val End r0' τ0 0 (λx=>G.own 0 x\/G.own j x) (G.rd 0) a w')(F:∀own rd,im P ty Wg Ch n rd0 val End rj' τj 0 own rd b w'):
 Com P ty Wg Ch n rd0 val End w0 B0 (upd (upd ro j rj') 0 r0') (upd (upd rk j τj) 0 τ0) dd (G.hand j) cl d w' (t++#[{g:=j,fn,pos,act:=.send Ch s},{g:=0,fn:=fn',pos:=pos',act:=.recv Ch s cap},{g:=j,fn:=fn2,pos:=pos2,act:=.sendDone Ch s},{g:=0,fn:=fn3,pos:=pos3,act:=.recvDone Ch s}]):=by
 have H:Ch<w.heap.size:=by obtain⟨s,M⟩:=h.ch;exact lt_of_heap M
 refine⟨λx o l=>?_,?_,?_,λx=>?_,λx I=>h.above x (by rw[<-y];exact I),h.wg,λx b c=>?_,h.wgch,by rw[e.size];exact h.wglow,λi x N I=>?_,λx b c=>?_,λb c O K=>(e.same b K).trans (h.base b c O K),by rw[e.size];exact h.grown,
  ⟨e.tape.trans h.world.1,e.os.trans h.world.2.1,e.output.trans h.world.2.2⟩,?_,D⟩
 ·by_cases k:x=0
  ·subst k;rw[L]at l;obtain rfl:=Option.some.inj l;rw[upd_same,upd_same,Gh.CV,Gh.BM _ (Ne.symm p),r];exact E
  ·by_cases m:x=j
   ·subst m;rw[c]at l;obtain rfl:=Option.some.inj l;rw[upd_ne _ _ k,upd_same,upd_ne _ _ k,upd_same,u];exact F _ _
   ·rw[z x k m]at l;rw[upd_ne _ _ k,upd_ne _ _ m,upd_ne _ _ k,upd_ne _ _ m,Gh.Fe _ k m,Gh.BM _ m];exact(h.sit x o l).rely (e.rely (h.off x) h.wgch)
 ·rw[e.size];exact h.kn.hand ⟨rfl,rfl⟩ ⟨rfl,rfl⟩ ⟨rfl,rfl⟩ ⟨rfl,rfl⟩ (by rw[h.deaf,u]) (by rw[h.deaf,r]) H
 ·rw[e.size];exact h.fits.hand p v
 ·have:=lf (t:=t) x [{g:=j,fn,pos,act:=.send Ch s},{g:=0,fn:=fn',pos:=pos',act:=.recv Ch s cap},{g:=j,fn:=fn2,pos:=pos2,act:=.sendDone Ch s},{g:=0,fn:=fn3,pos:=pos3,act:=.recvDone Ch s}] (by simp);exact this.trans (h.deaf x)
 ·rcases c with c|c
  ·simp only[Gh.hand]at c;split at c
   ·rcases c with c|c
    ·exact h.off _ b (.inl c)
    ·exact h.off _ b (.inl c)
   ·split at c
    ·exact c.elim
    ·exact h.off x b (.inl c)
  ·simp only[Gh.hand]at c;split at c
   ·exact c.elim
   ·exact h.off x b (.inr c)
 ·rw[y];obtain⟨R,J,A⟩:=Option.map_eq_some_iff.1 I;rcases getElem?_append_cases J with⟨_,B⟩|⟨_,f⟩
  ·exact h.gsz i x N (by simp[Trace.g?,B,A])
  ·simp only[List.mem_toArray,List.mem_cons,List.not_mem_nil,or_false]at f;rcases f with rfl|rfl|rfl|rfl<;>(subst A;first|exact C|exact q)
 ·simp only[Gh.hand]at c;split at c
  ·rcases c with c|c
   ·exact h.new _ b c
   ·exact h.new _ b c
  ·split at c
   ·exact c.elim
   ·exact h.new x b c
 ·obtain⟨st,sm,Q⟩:=h.live;exact⟨st,sm,Q.of_block (e.same Wg h.wgch)⟩
theorem Com.ou(h:Com P ty Wg Ch n rd0 val End w0 B0 ro rk dd G cl gs w t){k:Nat}{g':Goroutine}{r':cN}{τ':WT}(c:k<gs.size)(d:im P ty Wg Ch n rd0 val End r' τ' (dd k) (G.own k) (G.rd k) g' w):Com P ty Wg Ch n rd0 val End w0 B0 (upd ro k r') (upd rk k τ') dd G cl (gs.setIfInBounds k g') w t:=
 {h with
  sit:=λx o a=>by
                by_cases e:x=k
                ·subst e;rw[Array.getElem?_setIfInBounds_self_of_lt c]at a;obtain rfl:=Option.some.inj a;rw[upd_same,upd_same];exact d
                ·rw[Array.getElem?_setIfInBounds_ne (Ne.symm e)]at a;rw[upd_ne _ _ e,upd_ne _ _ e];exact h.sit x o a
  above:=λx b=>h.above x (by simpa using b)
  gsz:=λi x f b=>by simpa using h.gsz i x f b}
end
section
variable{P:Program}{ty:TypeId}{Wg Ch n:Nat}{rd0:Nat->Prop}{val:Nat->Value->(Nat->Prop)->World->Prop}{End:eK}{w0:World}{B0 m0:Nat}{X:Nat->Prop}{T0:Nat} {ro:Nat->cN}{rk:Nat->WT}{dd:Nat->Nat}{G:Gh}{cl:Bool}{gs:Array Goroutine}{w w':World}{sl:Option (Nat×Nat)}{t:Trace}{st sm:Int}
theorem im.HW{r:cN}{c:WT}{d:Nat}{own rd:Nat->Prop}{g:Goroutine}(h:im P ty Wg Ch n rd0 val End r c d own rd g w):offersAt g Ch true=[]\/∃i v z a,r=.wk i 8/\d=0/\g=parked a #[scase Ch v z] .send/\AtSend P ty Wg Ch val i v z own a w:=by
 rcases h.running with b|⟨_,b⟩
 ·exact .inl (offersAt_of_not_blocked (by rw[b];simp) _ _)
 ·cases h with
  |ou h=>exact .inr ⟨_,_,_,_,rfl,rfl,rfl,h w (.refl _ _ _ _)⟩
  |EB h=>exact .inl (offersAt_parked_recv' _ _ _ _ _)
  |HH h=>
   have e:=h w (.refl _ _ _ _);left;unfold offersAt;simp only[e.2.1]
  |old h=>exact .inl (offersAt_of_not_blocked (by rcases h.status with x|x<;>rw[x]<;>simp) _ _)
  |quit h=>exact .inl (offersAt_of_not_blocked (by rcases h.status with x|x<;>rw[x]<;>simp) _ _)
  |Hn h=>exact .inl (offersAt_of_not_blocked (by rcases h.status with x|x<;>rw[x]<;>simp) _ _)
  |skd _ h=>exact .inl (offersAt_of_not_blocked (by rw[Way.running (λ_ _ _ x=>x.1) h];simp) _ _)
  |sa1 _ h=>exact .inl (offersAt_of_not_blocked (by rw[Way.running (λ_ _ _ x=>x.1) h];simp) _ _)
  |JJ _ h=>exact .inl (offersAt_of_not_blocked (by rw[Way.running (λ_ _ _ x=>x.1) h];simp) _ _)
  |ske _ h=>exact .inl (offersAt_of_not_blocked (by rw[Way.running (λ_ _ _ x=>x.1) h];simp) _ _)
  |sgo _ h=>exact .inl (offersAt_of_not_blocked (by rw[Way.running (λ_ _ _ x=>x.1) h];simp) _ _)
  |HB h=>exact .inl (offersAt_of_not_blocked (by rw[Way.running (λ_ _ _ x=>x.1) h];simp) _ _)
  |src h=>exact .inl (offersAt_of_not_blocked (by rw[Way.running (λ_ _ _ x=>(fP x).1) h];simp) _ _)
  |sup h=>exact .inl (offersAt_of_not_blocked (by simp) _ _)
  |HE h=>exact .inl (offersAt_of_not_blocked (by rw[Way.running (λ_ _ _ ⟨_,_,x⟩=>x.1) h];simp) _ _)
  |r0 h=>exact .inl (offersAt_of_not_blocked (by rw[Goes.running (λ_ _ x=>x.1) w (.refl _ _ _ _) h];simp) _ _)
  |k1 h=>exact .inl (offersAt_of_not_blocked (by rw[Goes.running (λ_ _ x=>x.1) w (.refl _ _ _ _) h];simp) _ _)
  |d1 h=>exact .inl (offersAt_of_not_blocked (by rw[Goes.running (λ_ _ x=>x.1) w (.refl _ _ _ _) h];simp) _ _)
  |d2 h=>exact .inl (offersAt_of_not_blocked (by rw[Goes.running (λ_ _ x=>x.1) w (.refl _ _ _ _) h];simp) _ _)
  |d3 h=>exact .inl (offersAt_of_not_blocked (by rw[Goes.running (λ_ _ x=>x.1) w (.refl _ _ _ _) h];simp) _ _)
  |d4 h=>exact .inl (offersAt_of_not_blocked (by rw[Goes.running (λ_ _ x=>x.1) w (.refl _ _ _ _) h];simp) _ _)
  |JK _ h=>exact .inl (offersAt_of_not_blocked (by rw[Way.running (λ_ _ _ x=>x.1) h];simp) _ _)
  |HF _ h=>exact .inl (offersAt_of_not_blocked (by rw[Way.running (λ_ _ _ x=>x.1) h];simp) _ _)
  |JL _ h=>exact .inl (offersAt_of_not_blocked (by rw[Way.running (λ_ _ _ x=>x.1) h];simp) _ _)
  |JM h=>exact .inl (offersAt_of_not_blocked (by rw[Way.running (λ_ _ _ x=>x.1) h];simp) _ _)
  |HG h=>exact .inl (offersAt_of_not_blocked (by rw[Way.running (λ_ _ _ x=>x.1) h];simp) _ _)
  |JN h=>exact .inl (offersAt_of_not_blocked (by rw[Way.running (λ_ _ _ x=>x.1) h];simp) _ _)
  |HI h=>exact .inl (offersAt_of_not_blocked (by rw[Way.running (λ_ _ _ x=>x.1) h];simp) _ _)
  |JO h=>exact .inl (offersAt_of_not_blocked (by rw[Way.running (λ_ _ _ x=>x.1) h];simp) _ _)
  |JP h=>exact .inl (offersAt_of_not_blocked (by rw[Way.running (λ_ _ _ x=>x.1) h];simp) _ _)
theorem im.BN{r:cN}{c:WT}{d:Nat}{own rd:Nat->Prop}{g:Goroutine}(h:im P ty Wg Ch n rd0 val End r c d own rd g w):offersAt g Ch false=[]\/∃q S z b,r=.rc q S 1/\d=0/\g=parked b #[rcase Ch z] (.recv true)/\j7 P ty Wg Ch n rd0 val End z q S own b w:=by
 by_cases a:g.status=.blocked
 ·cases h with
  |ou h=>exact .inl (offersAt_parked_send' _ _ _ _ _ _)
  |EB h=>exact .inr ⟨_,_,_,_,rfl,rfl,rfl,h w (.refl _ _ _ _)⟩
  |HH h=>
   have e:=h w (.refl _ _ _ _);left;unfold offersAt;simp only[e.2.1]
  |old h=>rcases h.status with x|x<;>rw[x]at a<;>cases a
  |quit h=>rcases h.status with x|x<;>rw[x]at a<;>cases a
  |Hn h=>rcases h.status with x|x<;>rw[x]at a<;>cases a
  |skd _ h=>rw[Way.running (λ_ _ _ x=>x.1) h]at a;cases a
  |sa1 _ h=>rw[Way.running (λ_ _ _ x=>x.1) h]at a;cases a
  |JJ _ h=>rw[Way.running (λ_ _ _ x=>x.1) h]at a;cases a
  |ske _ h=>rw[Way.running (λ_ _ _ x=>x.1) h]at a;cases a
  |sgo _ h=>rw[Way.running (λ_ _ _ x=>x.1) h]at a;cases a
  |HB h=>rw[Way.running (λ_ _ _ x=>x.1) h]at a;cases a
  |src h=>rw[Way.running (λ_ _ _ x=>(fP x).1) h]at a;cases a
  |sup h=>cases a
  |HE h=>rw[Way.running (λ_ _ _ ⟨_,_,x⟩=>x.1) h]at a;cases a
  |r0 h=>rw[Goes.running (λ_ _ x=>x.1) w (.refl _ _ _ _) h]at a;cases a
  |k1 h=>rw[Goes.running (λ_ _ x=>x.1) w (.refl _ _ _ _) h]at a;cases a
  |d1 h=>rw[Goes.running (λ_ _ x=>x.1) w (.refl _ _ _ _) h]at a;cases a
  |d2 h=>rw[Goes.running (λ_ _ x=>x.1) w (.refl _ _ _ _) h]at a;cases a
  |d3 h=>rw[Goes.running (λ_ _ x=>x.1) w (.refl _ _ _ _) h]at a;cases a
  |d4 h=>rw[Goes.running (λ_ _ x=>x.1) w (.refl _ _ _ _) h]at a;cases a
  |JK _ h=>rw[Way.running (λ_ _ _ x=>x.1) h]at a;cases a
  |HF _ h=>rw[Way.running (λ_ _ _ x=>x.1) h]at a;cases a
  |JL _ h=>rw[Way.running (λ_ _ _ x=>x.1) h]at a;cases a
  |JM h=>rw[Way.running (λ_ _ _ x=>x.1) h]at a;cases a
  |HG h=>rw[Way.running (λ_ _ _ x=>x.1) h]at a;cases a
  |JN h=>rw[Way.running (λ_ _ _ x=>x.1) h]at a;cases a
  |HI h=>rw[Way.running (λ_ _ _ x=>x.1) h]at a;cases a
  |JO h=>rw[Way.running (λ_ _ _ x=>x.1) h]at a;cases a
  |JP h=>rw[Way.running (λ_ _ _ x=>x.1) h]at a;cases a
 ·exact .inl (offersAt_of_not_blocked a _ _)
def Ff(P:Program)(Wg Ch:Nat)(End:eK)(w0:World)(B0:Nat)(X:Nat->Prop)(m:Machine)(t:Trace):Prop:=
 ∃(gs:Array Goroutine) (w:World) (sl:Option (Nat×Nat)) (a:Goroutine) (q:Nat->Nat) (c:Nat->Prop),
  m=crowd gs w sl/\gs[0]? =some a/\End c a w/\Leavers P t gs q/\Past (jZ λb=>b=Wg\/b=Ch\/X b) w.heap.size t/\(∀b,c b->B0<=b/\b<w.heap.size/\b≠Wg/\b≠Ch)/\
   (∀b,b<B0->b≠Wg->b≠Ch->w.heap[b]? =w0.heap[b]?)/\B0<=w.heap.size/\(w.tape=w0.tape/\w.os=w0.os/\w.output=w0.output)/\Wg<w.heap.size
variable(cy:Com P ty Wg Ch n rd0 val End w0 B0 ro rk dd G cl gs w t)(dj:Pl n m0 ro cl G gs.size st sm)(fD:sg Ch n m0 G cl t)(hX:G.x=X)(hT:G.t0=T0)(ep:WgAt ty Wg w st sm)
include cy dj fD hX hT ep
omit fD hX hT ep in
theorem open_of {i s:Nat} (hi:i<n) (e:ro (m0+i)=.wk i s) (hs:s≠1):cl=false:=by
 cases hc:cl with
 |false=>rfl
 |true=>
  have hq:=dj.clq.1 hc;obtain⟨S,s',_,hw,_⟩:=dj.o7 hq trivial;obtain⟨k,hk⟩:=hw i hi;rw[e]at hk;cases hk;exact absurd rfl hs
theorem cX.meet{i s:Nat}{r:Nat}{S:Nat->Bool}{T:Nat}{z v U:Value}{a O:Goroutine}{k:Nat}{h:Array Goroutine}{c:Nat}{w':World}{fn fn' fn2 fn3:FuncId}{pos pos' pos2 pos3:String}(Q:i<n)(e:ro (m0+i)=.wk i s)(V:s=9\/s=8)(W:ro 0=.rc r S T)(H:dd 0=0)(I:dd (m0+i)=0) (o:0<gs.size)(p:m0+i<gs.size)(q:G.rd 0=rd0) (Y:j7 P ty Wg Ch n rd0 val End z r S (G.own 0) a w)(R:AtSend P ty Wg Ch val i v U (G.own (m0+i)) O w)(Z:w.heap[Ch]? =some (.chan 0 #[] cl c c false)) (u:h.size=gs.size)(ha:h[0]? =some (Conc.served a (.tuple #[v,.bool true])))(j:h[m0+i]? =some (Conc.served O undef))(A:∀x,x≠0->x≠m0+i->h[x]? =gs[x]?) (J:∃d,w'=(w.at d).setChan Ch 0 #[] cl (c+1) (c+1) false) (B:runT P (crowd gs w sl) k=(.next (crowd h w' sl),#[{g:=m0+i,fn,pos,act:=.send Ch c},{g:=0,fn:=fn',pos:=pos',act:=.recv Ch c 0},{g:=m0+i,fn:=fn2,pos:=pos2,act:=.sendDone Ch c},{g:=0,fn:=fn3,pos:=pos3,act:=.recvDone Ch c}])):Goal P ty Wg Ch n rd0 val End w0 B0 m0 X T0 ro rk gs w sl t k:=by
 obtain⟨d,rfl⟩:=J;have hp:=dj.pos;have K:=lt_of_heap Z;have f:mP Ch w ((w.at d).setChan Ch 0 #[] cl (c+1) (c+1) false):=.set w d _ _ _ _ _ _;obtain⟨L,r',rfl,C,D⟩:=dj.hand (G':=G.hand (m0+i)) Q e W V rfl rfl (λk=>Iff.rfl);have E:G.sayer≠m0+i:=by
  rw[dj.say];rcases dj.lt_size p with x|x|⟨i2,s2,x,_⟩|⟨x,_⟩
  ·omega
  ·omega
  ·unfold sayOf;split<;>omega
  ·omega
 obtain⟨aa,ab,M⟩:=Y;obtain⟨τ0,N⟩:=M i v (G.own (m0+i)) Q L R.2.2.1 λb j ho=>by have:=cy.fits.one _ _ _ j ho;omega
 obtain⟨m,hm⟩:=R.2.2.2;have l:=cy.hand (r0':=.rc r' (upd S i true) 2) (rj':=.wk i 7) (τ0:=τ0) (τj:=.num m) (s:=c) (cap:=0) (fn:=fn) (fn':=fn') (fn2:=fn2) (fn3:=fn3) (pos:=pos) (pos':=pos') (pos2:=pos2) (pos3:=pos3)
  (show m0+i≠0 by omega) p o H I E u ha j A f ⟨c+1,setChan_at w d _ _ _ _ _ _ K⟩ (by
    rw[q];refine .src (z:=z) (N.rely (f.rely (λb j=>?_) cy.wgch));rcases j with(j|j)|j
    ·exact cy.off _ b (.inl j)
    ·exact cy.off _ b (.inl j)
    ·exact cy.off 0 b (.inr (by rw[q];exact j)))
  (λ_ _=>.r0 (Goes.rely (λ_ _ _ x y=>x.trans y) hm (f.rely (λb j=>(j.elim id id).elim) cy.wgch)))
 refine⟨_,_,⟨_,h.size,_,_⟩,B,.a D,_,_,sl,_,_,_,_,cl,st,sm,rfl,l,ep.of_block (f.same Wg cy.wgch),?_,?_,hX,hT,rfl⟩
 ·rw[u];exact C
 ·exact fD.app rfl λ_ op F _=>by simp only[List.mem_toArray,List.mem_cons,List.not_mem_nil,or_false]at F;rcases F with rfl|rfl|rfl|rfl<;>rfl
end
section
variable{P:Program}{ty:TypeId}{Wg Ch n:Nat}{rd0:Nat->Prop}{val:Nat->Value->(Nat->Prop)->World->Prop}{End:eK}{w0:World}{B0 m0:Nat}{X:Nat->Prop}{T0:Nat} {ro:Nat->cN}{rk:Nat->WT}{dd:Nat->Nat}{G:Gh}{cl:Bool}{gs:Array Goroutine}{w w':World}{sl:Option (Nat×Nat)}{t:Trace}{st sm:Int}
theorem Goal.mk{k:Nat}{a:Array Goroutine}{w':World}{g:Option (Nat×Nat)}{ro':Nat->cN}{rk':Nat->WT}{dd':Nat->Nat}{G':Gh}{cl':Bool}{st' sm':Int}{ops:Array MemOp}(c:runT P (crowd gs w sl) k=(.next (crowd a w' g),ops)) (b:Com P ty Wg Ch n rd0 val End w0 B0 ro' rk' dd' G' cl' a w' (t++ops))(d:WgAt ty Wg w' st' sm')(e:Pl n m0 ro' cl' G' a.size st' sm')(f:sg Ch n m0 G' cl' (t++ops))(h:G'.x=X)(i:G'.t0=T0) (j:Mu.Lt ⟨meas n m0 ro',a.size,rk',xx (ro' (m0+n))⟩ ⟨meas n m0 ro,gs.size,rk,xx (ro (m0+n))⟩):Goal P ty Wg Ch n rd0 val End w0 B0 m0 X T0 ro rk gs w sl t k:=
 ⟨_,_,_,c,j,_,_,_,_,_,_,_,_,_,_,rfl,b,d,e,f,h,i,rfl⟩
variable(cy:Com P ty Wg Ch n rd0 val End w0 B0 ro rk dd G cl gs w t)(dj:Pl n m0 ro cl G gs.size st sm)(fD:sg Ch n m0 G cl t)(hX:G.x=X)(hT:G.t0=T0)(ep:WgAt ty Wg w st sm)
include cy dj fD hX hT ep
theorem cX.Fg{i:Nat}{g:Goroutine}(U:i<n)(M:gs[m0+i]? =some g)(e:ro (m0+i)=.wk i 9)(p:0<gs.size):Goal P ty Wg Ch n rd0 val End w0 B0 m0 X T0 ro rk gs w sl t (m0+i):=by
 have hp:=dj.pos;have L:=cy.sit _ g M;have E:m0+i<gs.size:=(Array.getElem?_eq_some_iff.1 M).1;have Z:(m0+i==0)=false:=by simp;omega
 have aa:¬G.done (m0+i):=λh=>by
  rcases(dj.done _).1 h with x|⟨i,s,x,_⟩
  ·omega
  ·rw[e]at x;cases x;omega
 have F:cl=false:=open_of cy dj U e (by omega);generalize ab:rk (m0+i)=τ at L;generalize hd:dd (m0+i)=d at L;generalize V:G.own (m0+i)=ac at L;generalize u:G.rd (m0+i)=rc at L;rw[e]at L;cases L with
 |HE h=>
  rcases cX.BL (sl:=sl) cy dj fD hX hT ep (k:=m0+i) M (by rw[Z,V,u];exact h) ab e (by simp) (by simp) aa (λτ ac g w h=>by rw[hd,u];rw[Z,u]at h;exact .HE h)with D|h
  ·obtain⟨v,z,hA⟩:=D w (.refl _ _ _ _);obtain⟨c,W⟩:=cy.ch;rw[F]at W;have y:stepG P (m0+i==0) g w=.comm g #[scase Ch v z] true .send w #[]:=by rw[Z];exact hA.2.1 w
   have N:=λx (o:Goroutine) (H:gs[x]? =some o)=>(cy.sit x o H).BN;by_cases I:∃r S,ro 0=.rc r S 1
   ·obtain⟨r,S,Y⟩:=I;obtain⟨ga,J⟩:∃ga,gs[0]? =some ga:=⟨gs[0],Array.getElem?_eq_getElem p⟩;have b:=cy.sit 0 ga J;rcases b.BN with H|⟨q,S2,z2,O,f,ad,rfl,hL⟩
    ·exfalso;rw[Y]at b;generalize dd 0=d0 at b;generalize G.rd 0=x0 at b;cases b with
     |EB h=>simp[offersAt_parked_recv]at H
    ·have Q:=f;rw[Y]at Q;cases Q;have l:partners (gs.setIfInBounds (m0+i) ph) Ch false=[(0,0)]:=by
      rw[partners_one (j:=0) (g:=parked O #[rcase Ch z2] (.recv true)) (by rw[Array.getElem?_setIfInBounds_ne (by omega)];exact J) λx o ae H=>?_]
      ·simp[offersAt_parked_recv]
      ·rcases getElem?_stand gs (m0+i) x o H with⟨_,rfl⟩|⟨_,A⟩
       ·rfl
       ·rcases N x o A with h|⟨_,_,_,_,f,_⟩
        ·exact h
        ·exfalso;rcases dj.lt_size (Array.getElem?_eq_some_iff.1 A).1 with k0|⟨k1,B⟩|⟨_,_,_,_,B,_⟩|⟨_,_,B⟩
         ·exact ae k0
         ·rw[dj.old x k1 B]at f;cases f
         ·rw[B]at f;cases f
         ·rw[B]at f;cases f
     have m:=crowd_send_meets (sl:=sl) M y W (show 0≠m0+i by omega) J l;have R:G.rd 0=rd0:=by
      generalize hq:G.rd 0=x at b;rw[Y]at b;generalize dd 0=d0 at b;generalize parked O #[rcase Ch z2] (.recv true)=gg at b;cases b with
      |EB h=>rfl
     refine cX.meet (w':=w.setChan Ch 0 #[] cl (c+1) (c+1) false) cy dj fD hX hT ep U e (.inl rfl) Y ad hd p E R hL hA (by rw[F];exact W) ?_ ?_ ?_ ?_ ⟨w.drawn,rfl⟩ (by simp only[MemOp.ofEvents,F]at m⊢;simpa using m)
     ·simp
     ·rw[Array.getElem?_setIfInBounds_ne (by omega),Array.getElem?_setIfInBounds_self_of_lt p];rw[finishComm_recv];rfl
     ·rw[Array.getElem?_setIfInBounds_self_of_lt (by simpa using E)];rw[finishComm_send]
     ·intro x h1 h2;rw[Array.getElem?_setIfInBounds_ne (Ne.symm h2),Array.getElem?_setIfInBounds_ne (Ne.symm h1)]
   ·have l:partners (gs.setIfInBounds (m0+i) ph) Ch false=[]:=partners_nil λx o H=>by
     rcases getElem?_stand gs (m0+i) x o H with⟨_,rfl⟩|⟨_,A⟩
     ·rfl
     ·rcases N x o A with h|⟨q,S,_,_,f,_⟩
      ·exact h
      ·exfalso;rcases dj.lt_size (Array.getElem?_eq_some_iff.1 A).1 with k0|⟨k1,B⟩|⟨_,_,_,_,B,_⟩|⟨_,_,B⟩
       ·subst k0;exact I ⟨q,S,f⟩
       ·rw[dj.old x k1 B]at f;cases f
       ·rw[B]at f;cases f
       ·rw[B]at f;cases f
    have m:=crowd_waits (sl:=sl) M y λcc af=>by
     have:cc=scase Ch v z:=by simpa using af
     subst this;exact ways_send_none W (Nat.zero_le _) l
    have T:=dj.MK U e λr S h=>I ⟨r,S,h⟩;have C:=cy.ou (r':=.wk i 8) (τ':=rk (m0+i)) E (g':=parked g #[scase Ch v z] .send) (by rw[hd,V,u];refine .ou λw1 ag=>?_;obtain⟨v1,z1,K⟩:=D w1 (by rw[V,u];exact ag);have:=(K.2.1 w).symm.trans (hA.2.1 w);simp only[GStep.comm.injEq,Array.mk.injEq,List.cons.injEq,scase,CommCase.mk.injEq,Option.some.injEq,and_true,true_and]at this;obtain⟨rfl,rfl⟩:=this;rw[V]at K;exact K);rw[kZ]at C;refine Goal.mk m (ro':=upd ro (m0+i) (.wk i 8)) (by simpa[MemOp.ofEvents]using C) ep (by simpa using T) (by simpa[MemOp.ofEvents]using fD) hX hT (.a (jc hp U (r':=.wk i 8) (by rw[e];simp[fV])))
  ·exact h
theorem cX.CW{g:Goroutine}(l:gs[m0+n]? =some g)(e:ro (m0+n)=.cl .w3)(h:stepG P false g w=.go {g with status:=.blocked} w #[])(m:∀w1,cO (G.own (m0+n)) (G.rd (m0+n)) (Lv ty Wg) w w1->MI P ty Wg Ch (G.rd (m0+n)) (G.own (m0+n)) g w1)(p:dd (m0+n)=1)(j:sm=0):Goal P ty Wg Ch n rd0 val End w0 B0 m0 X T0 ro rk gs w sl t (m0+n):=by
 have s:=dj.pos;have k:m0+n<gs.size:=(Array.getElem?_eq_some_iff.1 l).1;have q:(m0+n==0)=false:=by simp;omega
 have c:=runT_crowd_go (P:=P) (sl:=sl) (i:=m0+n) l (by rw[q];exact h);have d:gs.map (woken P g {g with status:=.blocked} w)=gs:=by
  have:woken P g {g with status:=.blocked} w=id:=by funext o;simp[woken]
  rw[this,Array.map_id]
 rw[d]at c;have f:=dj.MN (c':=.blk) e trivial trivial λ_=>j;have r:meas n m0 (upd ro (m0+n) (.cl .blk))=meas n m0 ro:=by unfold meas;rw[kY (.inr (Nat.le_refl _)),mN (.inr (Nat.le_refl _)),upd_same,upd_ne _ _ (by omega),e];rfl
 have a:=cy.ou (r':=.cl .blk) (τ':=rk (m0+n)) k (g':={g with status:=.blocked}) (by rw[p];exact .HH m);rw[kZ]at a;refine Goal.mk c (ro':=upd ro (m0+n) (.cl .blk)) (by simpa[MemOp.ofEvents]using a) ep (by simpa using f) (by simpa[MemOp.ofEvents]using fD) hX hT (.b r (by simp) rfl ?_);show xx (upd ro (m0+n) (.cl .blk) (m0+n))<xx (ro (m0+n));rw[upd_same,e];decide
theorem cX.CX{g:Goroutine}(hk:gs[m0+n]? =some g)(e:ro (m0+n)=.cl .cl)(ak:0<gs.size)(hC:Mg P Ch (G.own (m0+n)) g w)(I:dd (m0+n)=0):Goal P ty Wg Ch n rd0 val End w0 B0 m0 X T0 ro rk gs w sl t (m0+n):=by
 have hp:=dj.pos;have z:m0+n<gs.size:=(Array.getElem?_eq_some_iff.1 hk).1;have e0:(m0+n==0)=false:=by simp;omega
 obtain⟨S,s0,h0,hw,hz⟩:=dj.o7 e trivial;have L:cl=false:=by
  cases hc:cl with
  |false=>rfl
  |true=>have:=dj.clq.1 hc;rw[e]at this;cases this
 obtain⟨c,A⟩:=cy.ch;rw[L]at A;have B:=lt_of_heap A;obtain⟨_,aa,g',C,ab,q,hq⟩:=hC;have ac:=ab c c A;have M:=runT_crowd_go (P:=P) (sl:=sl) (i:=m0+n) hk (by rw[e0];exact ac);have ad:fq P g g'=true:=by simp[fq,aa,C]
 have d:mP Ch w (w.setChan Ch 0 #[] true c c false):=mP.set w w.drawn _ _ _ _ _ _;have m:(w.setChan Ch 0 #[] true c c false).heap[Ch]? =some (.chan 0 #[] true c c false):=setChan_at w w.drawn _ _ _ _ _ _ B;have N:MemOp.ofEvents (m0+n) g.frame.fn g.frame.place #[⟨.obj Ch,false,true⟩,⟨.obj Ch,true,true⟩]=MemOp.ofEvents (m0+n) g.frame.fn g.frame.place #[⟨.obj Ch,false,true⟩]++MemOp.ofEvents (m0+n) g.frame.fn g.frame.place #[⟨.obj Ch,true,true⟩]:=by simp[MemOp.ofEvents]
 have ae:¬G.done (m0+n):=by
  intro I;rcases(dj.done _).1 I with⟨_,x⟩|⟨i,s,x,_⟩
  ·omega
  ·rw[e]at x;cases x
 have af:Kn.jz G (m0+n) (Deaf t (m0+n)) w.heap.size w.heap.size #[⟨.obj Ch,false,true⟩]:=by
  intro j ev J;match j,J with
  |0,J=>
   simp at J;subst J;refine⟨λx p _=>?_,B⟩;simp only[MemAct.ofEvent,MemAct.touch?,Option.some.injEq]at p;subst p;exact⟨Ch,rfl,.inr (.inl ⟨rfl,(cy.wg Ch).2 (.inr rfl),(dj.usr _).2 (.inr ⟨by omega,z⟩),λI=>absurd I ae⟩)⟩
  |j+1,J=>simp at J
 have O:∀k∈MemOp.ofEvents (m0+n) g.frame.fn g.frame.place #[⟨.obj Ch,false,true⟩,⟨.obj Ch,true,true⟩],k.g=m0+n/\k.act≠ .mark .disable/\k.act≠ .mark .enable:=by
  intro k f;obtain⟨x,p,rfl⟩:=Go.Conc.mem_ofEvents f;have:x=⟨.obj Ch,false,true⟩\/x=⟨.obj Ch,true,true⟩:=by simpa using p
  rcases this with rfl|rfl
  ·exact⟨rfl,by simp[MemAct.ofEvent],by simp[MemAct.ofEvent]⟩
  ·exact⟨rfl,by simp[MemAct.ofEvent],by simp[MemAct.ofEvent]⟩
 have hu:∀k∈MemOp.ofEvents (m0+n) g.frame.fn g.frame.place #[⟨.obj Ch,true,true⟩],k.g=m0+n/\k.act=.close Ch:=by
  intro k f;obtain⟨x,p,rfl⟩:=Go.Conc.mem_ofEvents f;have:x=⟨.obj Ch,true,true⟩:=by simpa using p
  subst this;exact⟨rfl,rfl⟩
 have ag:∀k∈MemOp.ofEvents (m0+n) g.frame.fn g.frame.place #[⟨.obj Ch,true,true⟩],k.act.touch?=none:=λk f=>by rw[(hu k f).2];rfl
 have Q:Pl n m0 (upd ro 0 (.rc 0 S 2)) cl G gs.size st sm:=dj.P9 h0;have R:=Q.BJ (c:=.cl) (c':=.quit) (cl':=true) (by rw[upd_ne _ _ (by omega)];exact e) trivial trivial (by simp) (.inr λr S' x=>by rw[upd_same]at x;cases x);have D:Com P ty Wg Ch n rd0 val End w0 B0 (upd (upd ro 0 (.rc 0 S 2)) (m0+n) (.cl .quit)) (upd rk (m0+n) (.num q)) dd G true ((gs.map (woken P g g' (w.setChan Ch 0 #[] true c c false))).setIfInBounds (m0+n) g') (w.setChan Ch 0 #[] true c c false)
  (t++MemOp.ofEvents (m0+n) g.frame.fn g.frame.place #[⟨.obj Ch,false,true⟩,⟨.obj Ch,true,true⟩]):=by
  refine⟨λx o Z=>?_,?_,by rw[d.size];exact cy.fits,λx=>?_,λx p=>cy.above x (by simpa using p),cy.wg,cy.off,cy.wgch,by rw[d.size];exact cy.wglow,λi x hi p=>?_,cy.new,λb hb h1 h2=>(d.same b h2).trans (cy.base b hb h1 h2),by rw[d.size];exact cy.grown,
   cy.world,⟨st,sm,ep.of_block (d.same Wg cy.wgch)⟩,⟨c,m⟩⟩
  ·by_cases K:x=m0+n
   ·subst K;rw[Array.getElem?_setIfInBounds_self_of_lt (by simpa using z)]at Z;obtain rfl:=Option.some.inj Z;rw[upd_same,upd_same,I];exact .Hn hq
   ·rw[Array.getElem?_setIfInBounds_ne (Ne.symm K),Array.getElem?_map]at Z;obtain⟨y,hy,rfl⟩:=Option.map_eq_some_iff.1 Z;rw[upd_ne _ _ K,upd_ne _ _ K,xw,ad];simp only[if_true];have E:=(cy.sit x y hy).rely (d.rely (cy.off x) cy.wgch);by_cases v:x=0
    ·subst v;rw[upd_same];rw[h0]at E;generalize rk 0=al at E⊢;generalize dd 0=d0 at E⊢;generalize G.own 0=o0 at E⊢;generalize G.rd 0=r0 at E⊢;cases E with
     |src h=>
      rw[again_running _ (.inl (Way.running (λ_ _ _ x=>(fP x).1) h))];exact .src h
     |EB h=>
      rw[again_recv_closed m];exact .sup h
     |sup h=>
      rw[again_running _ (.inl rfl)];exact .sup h
    ·rw[upd_ne _ _ v];have T:=(Array.getElem?_eq_some_iff.1 hy).1;have hA:=E.again true m λ_=>?_
     ·rcases dj.lt_size T with k0|⟨k1,u⟩|⟨_,_,_,_,u,_⟩|⟨u,_⟩
      ·exact absurd k0 v
      ·rw[dj.old x k1 u]at hA⊢;exact hA
      ·rw[u]at hA⊢;exact hA
      ·exact absurd u K
     ·rcases dj.lt_size T with k0|⟨k1,u⟩|⟨i,_,hi,rfl,u,_⟩|⟨u,_⟩
      ·exact absurd k0 v
      ·rw[dj.old x k1 u];exact⟨λ_ _ x=>(nomatch x),λ_ x=>(nomatch x)⟩
      ·obtain⟨k3,ah⟩:=hw i hi;rw[ah];exact⟨λ_ _ x=>(nomatch x),λ_ x=>(nomatch x)⟩
      ·exact absurd u K
  ·rw[d.size];rw[N,<-Array.append_assoc];have U:=cy.kn.step (fn:=g.frame.fn) (pos:=g.frame.place) cy.fits (Nat.le_refl _) (λ_=>rfl) af;rw[Kn.Gh.nH]at U;exact U.BG ag λk f=>by rw[(hu k f).2];exact B
  ·have:=lf (t:=t) x (MemOp.ofEvents (m0+n) g.frame.fn g.frame.place #[⟨.obj Ch,false,true⟩,⟨.obj Ch,true,true⟩]).toList (λk f=>(O k (Array.mem_toList_iff.1 f)).2);rw[<-cy.deaf x,<-this]
  ·obtain⟨k,f,F⟩:=Option.map_eq_some_iff.1 p;rcases getElem?_append_cases f with⟨_,V⟩|⟨_,W⟩
   ·have:=cy.gsz i x hi (by simp[Trace.g?,V,F]);simpa using this
   ·rw[(O k W).1]at F;subst F;simpa using z
 have H:meas n m0 (upd (upd ro 0 (.rc 0 S 2)) (m0+n) (.cl .quit))<meas n m0 ro:=by unfold meas;rw[kY (.inr (Nat.le_refl _)),kY (.inl hp),mN (.inr (Nat.le_refl _)),mN (.inl hp),upd_same,upd_ne _ _ (by omega),upd_same,h0,e];simp only[ow,kH];omega
 refine Goal.mk M D (ep.of_block (d.same Wg cy.wgch)) (by simpa using R) ?_ hX hT (.a H)
 ·intro _;have l:(t++MemOp.ofEvents (m0+n) g.frame.fn g.frame.place #[⟨.obj Ch,false,true⟩,⟨.obj Ch,true,true⟩])[t.size+1]? =some {g:=m0+n,fn:=g.frame.fn,pos:=g.frame.place,act:=.close Ch}:=by
   rw[Array.getElem?_append_right (by omega),ofEvents_eq];simp[MemAct.ofEvent]
  have ai:(t++MemOp.ofEvents (m0+n) g.frame.fn g.frame.place #[⟨.obj Ch,false,true⟩,⟨.obj Ch,true,true⟩]).size=t.size+2:=by simp[MemOp.ofEvents]
  refine⟨t.size+1,by rw[act?_of l],⟨m0+n,by simp only[Trace.g?,l,Option.map_some],?_⟩,by simp only[Trace.g?,l,Option.map_some],λi a _ ha _ _=>?_⟩
  ·rw[deaf_inside _ _ _ _ _ 1 (by simp),cy.deaf (m0+n),I];simp[deafBehind]
  ·obtain⟨k,f,aj⟩:=touch_of ha;have Y:=(Array.getElem?_eq_some_iff.1 f).1;rw[ai]at Y;rcases Nat.lt_or_ge i (t.size+1)with h|h
   ·exact h
   ·have:i=t.size+1:=by omega
    subst this;rw[l]at f;cases f;cases aj
end
section
variable{P:Program}{ty:TypeId}{Wg Ch n:Nat}{rd0:Nat->Prop}{val:Nat->Value->(Nat->Prop)->World->Prop}{End:eK}{w0:World}{B0 m0:Nat}{X:Nat->Prop}{T0:Nat} {ro:Nat->cN}{rk:Nat->WT}{dd:Nat->Nat}{G:Gh}{cl:Bool}{gs:Array Goroutine}{w w':World}{sl:Option (Nat×Nat)}{t:Trace}{st sm:Int}
variable(cy:Com P ty Wg Ch n rd0 val End w0 B0 ro rk dd G cl gs w t)(dj:Pl n m0 ro cl G gs.size st sm)(fD:sg Ch n m0 G cl t)(hX:G.x=X)(hT:G.t0=T0)(ep:WgAt ty Wg w st sm)
include cy dj fD hX hT ep
theorem cX.xB{r:Nat}{S:Nat->Bool}{z:Value}{g a:Goroutine}(O:gs[0]? =some g)(Q:ro 0=.rc r S 2)(hL:∀w1,cO (G.own 0) rd0 (Lv ty Wg) w w1->j7 P ty Wg Ch n rd0 val End z r S (G.own 0) a w1)(ae:G.rd 0=rd0)(W:dd 0=0) (an:∀w,stepG P true g w=.comm a #[rcase Ch z] true (.recv true) w #[]):(∃R ops,runT P (crowd gs w sl) 0=(.next R,ops)/\Ff P Wg Ch End w0 B0 X R (t++ops))\/Goal P ty Wg Ch n rd0 val End w0 B0 m0 X T0 ro rk gs w sl t 0:=by
 have hp:=dj.pos;have A:0<gs.size:=(Array.getElem?_eq_some_iff.1 O).1;obtain⟨c,Y⟩:=cy.ch;have ao:=lt_of_heap Y;have s:stepG P (0==0) g w=.comm a #[rcase Ch z] true (.recv true) w #[]:=an w;have Z:=λx (o:Goroutine) (m:gs[x]? =some o)=>(cy.sit x o m).HW;have af:=hL w (.refl _ _ _ _);by_cases aa:∃i,i<n/\ro (m0+i)=.wk i 8
 ·right;have ap:partners (gs.setIfInBounds 0 ph) Ch true≠[]:=by
   obtain⟨i,L,e⟩:=aa;have C:m0+i<gs.size:=by
    cases dj.lay with
    |st r2 s2 D gs gr gc gz gw gn=>rw[Q]at D;cases D
    |nW D gc gz gw=>rw[Q]at D;cases D
    |rc r2 S2 s2 D gc gz gw gS gs=>omega
   intro ag;have m:gs[m0+i]? =some gs[m0+i]:=Array.getElem?_eq_getElem C;have M:=cy.sit _ _ m;have T:(m0+i,0)∈partners (gs.setIfInBounds 0 ph) Ch true:=by
    refine mem_partners.2 ⟨gs[m0+i],by rw[Array.getElem?_setIfInBounds_ne (by omega)];exact m,?_⟩;rw[e]at M;generalize gs[m0+i]=o at M⊢;generalize dd (m0+i)=d0 at M;cases M with
    |ou h=>simp[offersAt_parked_send]
   rw[ag]at T;cases T
  have ah:∀j k,(j,k)∈partners (gs.setIfInBounds 0 ph) Ch true->k=0/\j≠0/\∃gj vj U ab,gs[j]? =some (parked gj #[scase Ch vj U] ab):=by
   intro j k aq;obtain⟨o,ho,E⟩:=mem_partners.1 aq;rcases getElem?_stand gs 0 j o ho with⟨_,rfl⟩|⟨ac,m⟩
   ·cases E
   ·rcases Z j o m with h|⟨i,v,U,gj,_,_,rfl,_⟩
    ·rw[h]at E;cases E
    ·rw[offersAt_parked_send]at E;simp at E;exact⟨E,ac,gj,v,U,.send,m⟩
  obtain⟨j,gj,vj,U,ab,d,ac,V,l⟩:=crowd_recv_meets_some (sl:=sl) O s Y ap ah;rcases Z j _ V with h|⟨i,v,z2,ai,B,ar,he,hA⟩
  ·simp[offersAt_parked_send]at h
  ·have L:i<n/\j=m0+i:=by
    rcases dj.lt_size (Array.getElem?_eq_some_iff.1 V).1 with k0|⟨N,f⟩|⟨i2,_,u,rfl,f,_⟩|⟨_,_,f⟩
    ·exact absurd k0 ac
    ·rw[dj.old j N f]at B;cases B
    ·rw[f]at B;cases B;exact⟨u,rfl⟩
    ·rw[f]at B;cases B
   obtain⟨L,rfl⟩:=L;have e1:(vj=v/\U=z2)/\ab=.send:=by have:=congrArg Goroutine.offers he;simpa[parked,scase]using this
   obtain⟨⟨rfl,rfl⟩,rfl⟩:=e1;have e2:gj.finishComm P #[scase Ch vj U] .send 0 undef false=Conc.served ai undef:=by rw[<-finishComm_parked P gj #[scase Ch vj U] #[scase Ch vj U] .send .send,he,finishComm_parked,finishComm_send]
   have e3:gj.frame=ai.frame:=by have:=congrArg Goroutine.frame he;simpa[parked]using this
   have C:=(Array.getElem?_eq_some_iff.1 V).1;refine cX.meet (w':=(w.at d).setChan Ch 0 #[] cl (c+1) (c+1) false) cy dj fD hX hT ep L B (.inr rfl) Q W ar A C ae af hA Y ?_ ?_ ?_ ?_ ⟨d,rfl⟩ (by simp only[MemOp.ofEvents]at l⊢;simpa using l)
   ·simp
   ·rw[Array.getElem?_setIfInBounds_self_of_lt (by simpa using A),finishComm_recv];rfl
   ·rw[Array.getElem?_setIfInBounds_ne (by omega),Array.getElem?_setIfInBounds_self_of_lt C,e2]
   ·intro x h1 h2;rw[Array.getElem?_setIfInBounds_ne (Ne.symm h1),Array.getElem?_setIfInBounds_ne (Ne.symm h2)]
 ·have H:partners (gs.setIfInBounds 0 ph) Ch true=[]:=partners_nil λx o m=>by
   rcases getElem?_stand gs 0 x o m with⟨_,rfl⟩|⟨au,aj⟩
   ·rfl
   ·rcases Z x o aj with h|⟨i,_,_,_,B,_⟩
    ·exact h
    ·exfalso;rcases dj.lt_size (Array.getElem?_eq_some_iff.1 aj).1 with k0|⟨N,f⟩|⟨i2,_,u,rfl,f,_⟩|⟨_,_,f⟩
     ·exact absurd k0 au
     ·rw[dj.old x N f]at B;cases B
     ·rw[f]at B;cases B;exact aa ⟨_,u,f⟩
     ·rw[f]at B;cases B
  cases I:cl with
  |false=>
   right;rw[I]at Y
   have l:=crowd_waits (sl:=sl) O s λcc av=>by
    have:cc=rcase Ch z:=by simpa using av
    subst this;exact ways_recv_none Y H
   have ak:=dj.MM Q I λi L h8=>by
    cases dj.lay with
    |st r2 s2 D gs gr gc gz gw gn=>rw[Q]at D;cases D
    |nW D gc gz gw=>rw[Q]at D;cases D
    |rc r2 S2 s2 D gc gz gw gS gs=>
     obtain⟨s3,x1,_⟩:=gw i L;rw[x1]at h8;simp only[fV]at h8;subst h8;exact aa ⟨i,L,x1⟩
   have J:=cy.ou (r':=.rc r S 1) (τ':=rk 0) A (g':=parked a #[rcase Ch z] (.recv true)) (by rw[W,ae];exact .EB hL);rw[kZ]at J;exact Goal.mk l (ro':=upd ro 0 (.rc r S 1)) (by simpa[MemOp.ofEvents]using J) ep (by simpa using ak) (by simpa[MemOp.ofEvents]using fD) hX hT (.a (jB hp (by rw[Q];simp[ow])))
  |true=>
   left;rw[I]at Y;have hq:=dj.clq.1 I;obtain⟨S2,s2,al,hw,hz⟩:=dj.o7 hq trivial;rw[Q]at al;cases al;have l:=crowd_recv_closed (sl:=sl) O s Y H;obtain⟨p,N,f,k3,k4⟩:=fD I
   have ad:=cy.kn.shut (y:={g:=0,fn:=a.frame.fn,pos:=a.frame.place,act:=.recvClosed Ch}) N f k3 k4 ⟨rfl,rfl⟩ (by rw[cy.deaf];exact W) ao λi x L m=>by
    have C:=cy.gsz i x L m;rcases dj.lt_size C with k0|⟨N,f⟩|⟨i2,_,u,rfl,f,_⟩|⟨f,_⟩
    ·exact .inl k0
    ·exact .inr (.inl ((dj.done _).2 (.inl ⟨N,f⟩)))
    ·refine .inr (.inl ?_);obtain⟨k,O⟩:=hw i2 u;exact(dj.done _).2 (.inr ⟨k,1,O,by omega⟩)
    ·exact .inr (.inr f)
   have aw:∀j x,0<j->gs[j]? =some x->∃q,QuitsD P q (dd j) x:=λj x V m=>by
    have F:=cy.sit j x m;rcases dj.lt_size (Array.getElem?_eq_some_iff.1 m).1 with k0|⟨N,f⟩|⟨i2,_,u,rfl,_⟩|⟨rfl,_⟩
    ·omega
    ·rw[dj.old j N f]at F;generalize rk j=τ at F;generalize dd j=d at F⊢;cases F with
     |old h=>exact⟨_,h⟩
    ·obtain⟨k,O⟩:=hw i2 u;rw[O]at F;generalize rk (m0+i2)=τ at F;generalize dd (m0+i2)=d at F⊢;cases F with
     |quit h=>exact⟨_,h⟩
    ·rw[hq]at F;generalize rk (m0+n)=τ at F;generalize dd (m0+n)=d at F⊢;cases F with
     |Hn h=>exact⟨_,h⟩
   have K:∀j,Deaf (t++#[({g:=0,fn:=a.frame.fn,pos:=a.frame.place,act:=.recvClosed Ch}:MemOp)]) j=dd j:=λj=>by have:=lf (t:=t) j [({g:=0,fn:=a.frame.fn,pos:=a.frame.place,act:=.recvClosed Ch}:MemOp)] (by simp);exact this.trans (cy.deaf j)
   refine⟨_,_,l,gs.setIfInBounds 0 (a.finishComm P #[rcase Ch z] (.recv true) 0 z false),w,sl,_,(λj=>open Classical in if h:∃q,∀x,gs[j]? =some x->QuitsD P q (dd j) x then Classical.choose h else 0),G.own 0,rfl,Array.getElem?_setIfInBounds_self_of_lt A,?_,⟨λj x V m=>?_,λj V=>?_⟩,?_,λb hb=>?_,cy.base,cy.grown,cy.world,cy.wglow⟩
   ·rw[finishComm_recv];exact af.2.2
   ·rw[Array.getElem?_setIfInBounds_ne (by omega)]at m;obtain⟨q,ax⟩:=aw j x V m;have am:∃q,∀x,gs[j]? =some x->QuitsD P q (dd j) x:=⟨q,λy hy=>by rw[m]at hy;cases hy;exact ax⟩;simp only[dif_pos am];have:=Classical.choose_spec am x m;show QuitsD P _ (Deaf (t++(#[]++#[_])) j) x;rw[Array.empty_append,K j];exact this
   ·have ay:gs.size<=j:=by simpa using V
    have:=cy.above j ay;show Deaf (t++(#[]++#[_])) j=0;rw[Array.empty_append,K j];exact this
   ·have e:(λb=>b=Wg\/b=Ch\/X b)=λb=>G.wg b\/G.x b:=by
     funext b;rw[hX];exact propext (or_assoc.symm.trans (or_congr (cy.wg b).symm Iff.rfl))
    rw[e];simpa[MemOp.ofEvents]using ad
   ·exact⟨cy.new 0 b hb,cy.fits.own 0 b hb,λe=>cy.fits.ownwg 0 b hb ((cy.wg b).2 (.inl e)),cy.off 0 b (.inl hb)⟩
theorem cX.Fh(hn:n<2147483647){g:Goroutine}(q:gs[0]? =some g)(A:g.status=.running):(∃W ops,runT P (crowd gs w sl) 0=(.next W,ops)/\Ff P Wg Ch End w0 B0 X W (t++ops))\/Goal P ty Wg Ch n rd0 val End w0 B0 m0 X T0 ro rk gs w sl t 0:=by
 have hp:=dj.pos;have aj:0<gs.size:=(Array.getElem?_eq_some_iff.1 q).1;have hS:=cy.sit 0 g q;have B:G.user 0:=(dj.usr _).2 (.inl rfl);have hw:=(cy.wg Wg).2 (.inl rfl);have ab:=cy.wglow;have E:¬G.done 0:=λh=>(cy.fits.done 0 h).1 rfl;generalize F:rk 0=C at hS;generalize D:dd 0=d at hS;generalize y:G.own 0=l at hS;generalize c:G.rd 0=rc at hS;generalize f:ro 0=r at hS;cases hS with
 | @skd r C l g w m h=>
  right;rcases cX.idle (sl:=sl) cy dj fD hX hT ep (k:=0) q (by rw[y,c];exact h) F f (by simp) (by simp) E (λC l g w h=>by rw[D,c];rw[c]at h;exact .skd m h)with⟨_,g',o,τ',j⟩|h
  ·refine cX.book (r':=.st r 5) (τ':=τ') cy dj fD hX hT ep q o (.refl Wg w) ep (lP (e:=mk .disable) rfl trivial) (by rw[D,c];exact .sa1 m j) (by rw[f];simp) λu O Q h3 _=>?_;have H:u 0=.st r 6:=by rw[Q _ (by rw[f];simp)];exact f
   exact⟨O.vT H (by omega) (by omega),jB hp (by rw[H];simp[ow])⟩
  ·exact h
 | @sa1 r C l g w m h=>
  right;rcases cX.idle (sl:=sl) cy dj fD hX hT ep (k:=0) q (by rw[y,c];exact h) F f (by simp) (by simp) E (λC l g w h=>by rw[D,c];rw[c]at h;exact .sa1 m h)with⟨_,Y⟩|h
  ·obtain⟨k1,k2,_⟩:=dj.Ai (s':=4) f (.inl rfl);subst k1 k2;have al:=EY n m0 ro;obtain⟨g',o,ha,hb⟩:=Y (V n m0 ro) (by omega) ep;by_cases hV:V n m0 ro=0
   ·obtain⟨τ',j⟩:=ha hV;refine cX.book (r':=.st r 4) (τ':=τ') cy dj fD hX hT ep q o (aside_setCell w (stA Wg) _) (ep.setSt _) (mO hw B ab (by omega)) (by rw[D,c,y];exact .JJ m (by rw[y]at j;exact j)) (by rw[f];simp) λu O Q h3 _=>?_;have H:u 0=.st r 5:=by rw[Q _ (by rw[f];simp)];exact f
    have:=(O.Ai (s':=4) H (.inl rfl)).2.2;rw[h3]at this;exact⟨this,jB hp (by rw[H];simp[ow])⟩
   ·obtain⟨τ',j⟩:=hb hV;refine cX.book (r':=.st r 3) (τ':=τ') cy dj fD hX hT ep q o (aside_setCell w (stA Wg) _) (ep.setSt _) (mO hw B ab (by omega)) (by rw[D,c,y];exact .ske m (by rw[y]at j;exact j)) (by rw[f];simp) λu O Q h3 _=>?_;have H:u 0=.st r 5:=by rw[Q _ (by rw[f];simp)];exact f
    have:=(O.Ai (s':=3) H (.inr rfl)).2.2;rw[h3]at this;exact⟨this,jB hp (by rw[H];simp[ow])⟩
  ·exact h
 | @JJ r C l g w m h=>
  right;rcases cX.idle (sl:=sl) cy dj fD hX hT ep (k:=0) q (by rw[y,c];exact h) F f (by simp) (by simp) E (λC l g w h=>by rw[D,c];rw[c]at h;exact .JJ m h)with⟨_,g',o,τ',j⟩|h
  ·refine cX.book (r':=.st r 3) (τ':=τ') cy dj fD hX hT ep q o (.refl Wg w) ep (xz (w:=false) hw B (by rw[dj.say,(dj.vU f).1];rfl) ab) (by rw[D,c];exact .ske m j) (by rw[f];simp) λu O Q h3 _=>?_;have H:u 0=.st r 4:=by rw[Q _ (by rw[f];simp)];exact f
   exact⟨O.vT H (by omega) (by omega),jB hp (by rw[H];simp[ow])⟩
  ·exact h
 | @ske r C l g w m h=>
  right;rcases cX.idle (sl:=sl) cy dj fD hX hT ep (k:=0) q (by rw[y,c];exact h) F f (by simp) (by simp) E (λC l g w h=>by rw[D,c];rw[c]at h;exact .ske m h)with⟨_,g',o,τ',j⟩|h
  ·refine cX.book (r':=.st r 2) (τ':=τ') cy dj fD hX hT ep q o (.refl Wg w) ep (lP (e:=mk .enable) rfl trivial) (by rw[D,c];exact .sgo m j) (by rw[f];simp) λu O Q h3 _=>?_;have H:u 0=.st r 3:=by rw[Q _ (by rw[f];simp)];exact f
   exact⟨O.vT H (by omega) (by omega),jB hp (by rw[H];simp[ow])⟩
  ·exact h
 | @sgo r C l g w m h=>
  right;rcases cX.idle (sl:=sl) cy dj fD hX hT ep (k:=0) q (by rw[y,c];exact h) F f (by simp) (by simp) E (λC l g w h=>by rw[D,c];rw[c]at h;exact .sgo m h)with⟨_,g',child,give,o,ah,J,⟨τc,ac⟩,j⟩|h
  ·rw[y]at J j;have A:=runT_crowd_spawn (P:=P) (sl:=sl) (i:=0) q o;have I:=(dj.vU f).2.2;obtain⟨K,ad⟩:=dj.spawn (G':=G.child gs.size G.sayer give) f (λk=>Iff.rfl) rfl rfl
   have L:¬G.done gs.size:=λh=>by
    rcases(dj.done _).1 h with x|⟨i,s,x,_⟩
    ·omega
    ·cases dj.lay with
     |st r2 s2 p M gr R T Z gn=>
      rw[f]at p;cases p;have:=gn (n-(r+1)) (Nat.le_refl _) (by omega);rw[T,this]at x;cases x
     |nW p R T Z=>rw[f]at p;cases p
     |rc r2 S2 s2 p R T Z gS M=>rw[f]at p;cases p
   obtain⟨τ0,ai⟩:∃τ0,im P ty Wg Ch n rd0 val End (kI r) τ0 0 (λb=>G.own 0 b/\¬give b) (G.rd 0) g' w:=by
    rw[y,c];cases r with
    |zero=>
     obtain⟨τ0,Y⟩:=j;exact⟨τ0,.HB Y⟩
    |succ r=>
     obtain⟨τ0,Y⟩:=j;exact⟨τ0,.skd (by omega) Y⟩
   have v:=cy.spawn (r0':=kI r) (rc':=.wk (n-(r+1)) 9) (τ0:=τ0) (τc:=τc) (sy:=G.sayer) (give:=give) (fn:=g.frame.fn) (fn':=child.frame.fn) (pos:=g.frame.place) (pos':=g.frame.place) q D (by rw[y];exact J) (.inl rfl) B L ai (by rw[c];exact .HE ac);refine Goal.mk (G':=G.child gs.size G.sayer give) (rk':=upd (upd rk gs.size τc) 0 τ0) (dd':=dd) (cl':=cl) A (by simpa[MemOp.ofEvents]using v) ep (by simpa using K) ?_ hX hT (.a ad);refine fD.app rfl λ_ op ae _=>?_;have N:op={g:=0,fn:=g.frame.fn,pos:=g.frame.place,act:=.go gs.size}\/op={g:=gs.size,fn:=child.frame.fn,pos:=g.frame.place,act:=.start}:=by simpa[MemOp.ofEvents]using ae
   rcases N with rfl|rfl<;>rfl
  ·exact h
 | @HB C l g w h=>
  right;rcases cX.idle (sl:=sl) cy dj fD hX hT ep (k:=0) q (by rw[y,c];exact h) F f (by simp) (by simp) E (λC l g w h=>by rw[D,c];rw[c]at h;exact .HB h)with⟨_,g',child,give,z,o,ah,J,⟨ak,hA,τc,ac⟩,⟨τ0,j⟩⟩|h
  ·rw[y]at J j;have A:=runT_crowd_spawn (P:=P) (sl:=sl) (i:=0) q o;obtain⟨I,K,ad⟩:=dj.KZ (G':=G.child gs.size (m0+n) give) f (λk=>Iff.rfl) rfl rfl;have af:ro (m0+n)=.none:=by
    cases dj.lay with
    |st r2 s2 p M gr R T Z gn=>rw[f]at p;cases p
    |nW p R T Z=>exact R
    |rc r2 S2 s2 p R T Z gS M=>rw[f]at p;cases p
   have L:¬G.done gs.size:=λh=>by
    rcases(dj.done _).1 h with x|⟨i,s,x,_⟩
    ·omega
    ·rw[I,af]at x;cases x
   have ag:G.sayer=0:=by rw[dj.say,af];rfl
   have v:=cy.spawn (r0':=.rc n (λ_=>false) 2) (rc':=.cl .kd) (τ0:=τ0) (τc:=τc) (sy:=m0+n) (give:=give) (fn:=g.frame.fn) (fn':=child.frame.fn) (pos:=g.frame.place) (pos':=g.frame.place) q D (by rw[y];exact J) (.inr ⟨I.symm,ag⟩) B L (by rw[y,c];exact .src j) (by rw[c];exact .JK hA ac);rw[I]at v;refine Goal.mk (G':=G.child gs.size (m0+n) give) (rk':=upd (upd rk (m0+n) τc) 0 τ0) (dd':=dd) (cl':=cl) A (by simpa[MemOp.ofEvents,I]using v) ep (by simpa[I]using K) ?_ hX hT (.a ad);refine fD.app rfl λ_ op ae _=>?_;have N:op={g:=0,fn:=g.frame.fn,pos:=g.frame.place,act:=.go gs.size}\/op={g:=gs.size,fn:=child.frame.fn,pos:=g.frame.place,act:=.start}:=by simpa[MemOp.ofEvents]using ae
   rcases N with rfl|rfl<;>rfl
  ·exact h
 | @src r S z C l g w h=>
  rcases cX.BL (sl:=sl) cy dj fD hX hT ep (k:=0) q (by rw[y,c];exact h) F f (by simp) (by simp) E (λC l g w h=>by rw[D,c];rw[c]at h;exact .src h)with aa|h
  ·refine cX.xB cy dj fD hX hT ep q f (λw1 U=>aa w1 (by rw[c];exact U)) c D (fP (aa w (.refl _ _ _ _))).2
  ·exact .inr h
 | @EB r S z C l g w h=>cases A
 | @sup S z C l g w h=>
  have Y:=fP (h w (.refl _ _ _ _));refine cX.xB (a:=g) cy dj fD hX hT ep q f (λw1 U=>by rw[y]at U⊢;exact h w1 U) c D λw1=>?_;rw[stepG_tries];have e:({g with status:=.running}:Goroutine)=g:=by obtain⟨fr,cl,s,dy,of⟩:=g;have:=Y.1;simp only at this;subst this;rfl
  rw[e];exact Y.2 w1
 |_=>
  exfalso;cases dj.lay with
  |st r2 s2 p M gr R T Z gn=>rw[f]at p;cases p
  |nW p R T Z=>rw[f]at p;cases p
  |rc r2 S2 s2 p R T Z gS M=>rw[f]at p;cases p
end
section
variable{P:Program}{ty:TypeId}{Wg Ch n:Nat}{rd0:Nat->Prop}{val:Nat->Value->(Nat->Prop)->World->Prop}{End:eK}{w0:World}{B0 m0:Nat}{X:Nat->Prop}{T0:Nat} {ro:Nat->cN}{rk:Nat->WT}{dd:Nat->Nat}{G:Gh}{cl:Bool}{gs:Array Goroutine}{w w':World}{sl:Option (Nat×Nat)}{t:Trace}{st sm:Int}
theorem MP:∀{n:Nat},1<=V n m0 ro->∃i,i<n/\5<=fV (ro (m0+i))
 |0,h=>by simp[V,sumTo]at h
 |n+1,h=>by
  by_cases a:5<=fV (ro (m0+n))
  ·exact⟨n,by omega,a⟩
  ·have:1<=V n m0 ro:=by
    simp only[V,sumTo]at h⊢;rw[vV a]at h;simpa using h
   obtain⟨i,c,b⟩:=MP this;exact⟨i,by omega,b⟩
theorem HX(o:Com P ty Wg Ch n rd0 val End w0 B0 ro rk dd G cl gs w t)(l:Pl n m0 ro cl G gs.size st sm)(b:0<gs.size):∃(i:Nat) (g:Goroutine),gs[i]? =some g/\g.status=.running:=by
 have y:∀i,i<gs.size->∃g,gs[i]? =some g:=λi j=>⟨gs[i],Array.getElem?_eq_getElem j⟩
 have a:∀i,i<gs.size->¬(ro i).idle->∃(i:Nat) (g:Goroutine),gs[i]? =some g/\g.status=.running:=λi j d=>by
  obtain⟨g,A⟩:=y i j;rcases(o.sit i g A).running with h|⟨h,_⟩
  ·exact⟨i,g,A,h⟩
  ·exact absurd h d
 cases l.lay with
 |st r s p _ _ _ _ _ _=>exact a 0 b (by rw[p];exactλh=>h)
 |nW p _ _ _=>exact a 0 b (by rw[p];exactλh=>h)
 |rc r S s p m I z J D=>
  rcases D with rfl|⟨rfl,q,E⟩
  ·exact a 0 b (by rw[p];exactλh=>h)
  ·by_cases B:∃i,i<n/\fV (ro (m0+i))=9
   ·obtain⟨i,j,e⟩:=B;obtain⟨s,k,_⟩:=z i j;rw[k]at e;simp only[fV]at e;subst e;exact a (m0+i) (by omega) (by rw[k];exactλh=>h)
   ·obtain⟨c,m⟩:=m;by_cases d:(ro (m0+n)).idle
    ·have F:c=.blk:=by
      rw[m]at d;cases c<;>first|rfl|exact d.elim|skip
      exfalso;have:=l.clq.2 m;rw[q]at this;cases this
     subst F;cases K:l.mode with
     |opn f _ _=>rw[m]at f;exact f.elim
     |reg _ _ u=>
      obtain⟨i,j,C⟩:=MP u;obtain⟨s,k,M,N,_⟩:=z i j;have v:=E i j;have x:fV (ro (m0+i))≠9:=λh=>B ⟨i,j,h⟩;rw[k]at C v x;simp only[fV]at C v x;refine a (m0+i) (by omega) ?_;rw[k];obtain rfl|rfl|rfl:s=5\/s=6\/s=7:=by omega
      all_goals exactλh=>h
     |last L _ H u _=>
      obtain⟨s,k,_⟩:=z L H;rw[k]at u;simp only[fV]at u;refine a (m0+L) (by omega) ?_;rw[k];rcases u with rfl|rfl|rfl;all_goals exactλh=>h
     |sema f _=>rw[m]at f;rcases f with f|f<;>cases f
     |fin f _=>rw[m]at f;exact f.elim
    ·exact a (m0+n) (by omega) d
theorem Fi(a:Com P ty Wg Ch n rd0 val End w0 B0 ro rk dd G cl gs w t):∀g∈gs,awake g:=by intro g b d;obtain⟨i,c⟩:=Array.mem_iff_getElem?.1 b;rcases(a.sit i g c).running with h|⟨_,h|h⟩<;>rw[h]<;>simp
theorem cX.step(hn:n<2147483647){μ:Mu}{m:Machine}(h:cX P ty Wg Ch n rd0 val End w0 B0 m0 X T0 μ m t):(∃m₁ ops,stepT P m=(.next m₁,ops)/\Ff P Wg Ch End w0 B0 X m₁ (t++ops))\/∃m₁ ops Pm,stepT P m=(.next m₁,ops)/\Mu.Lt Pm μ/\cX P ty Wg Ch n rd0 val End w0 B0 m0 X T0 Pm m₁ (t++ops):=by
 obtain⟨gs,w,sl,ro,rk,dd,G,cl,st,sm,rfl,cy,ep,dj,fD,hX,hT,rfl⟩:=h;have HY:0<gs.size:=by
  cases dj.lay with
  |st r s h0 hs hr hc hz hw hn=>have:=dj.pos;omega
  |nW h0 hc hz hw=>have:=dj.pos;omega
  |rc r S s h0 hc hz hw hS hs=>omega
 obtain⟨k,g,d,oX,hk,vW,KP⟩:=crowd_pick (P:=P) (w:=w) (sl:=sl) (Fi cy) (HX cy dj HY);rw[KP];have o8:=cy.at d;have An:WgAt ty Wg (w.at d) st sm:=ep;rcases dj.lt_size (Array.getElem?_eq_some_iff.1 hk).1 with rfl|⟨k1,k2⟩|⟨i,s,hi,rfl,e,_,_⟩|⟨rfl,c,e⟩
 ·exact cX.Fh (sl:=oX) o8 dj fD hX hT An hn hk vW
 ·right;have hS:=o8.sit k g hk;rw[dj.old k k1 k2]at hS;generalize HU:rk k=τ at hS;generalize hd:dd k=dk at hS;generalize ho:G.own k=own at hS;generalize Rk:G.rd k=rc at hS;cases hS with
  |old h=>exact cX.slip (sl:=oX) o8 dj fD hX hT An hk (by omega) (by simp) h vW HU hd (dj.old k k1 k2) λ_ _ _ _ h=>.old h
 ·right;by_cases hs:s<=7
  ·exact cX.HQ (sl:=oX) o8 dj fD hX hT An hn hi hk e hs vW
  ·rcases(show s=9\/s=8 by omega)with rfl|rfl
   ·exact cX.Fg (sl:=oX) o8 dj fD hX hT An hi hk e HY
   ·have hS:=o8.sit _ g hk;rw[e]at hS;generalize dd (m0+i)=dk at hS;cases hS with
    |ou h=>cases vW
 ·right;rcases cX.Ak (sl:=oX) o8 dj fD hX hT An hn hk e vW with h|⟨rfl,h,hd⟩|⟨rfl,h1,h2,h3,h4⟩
  ·exact h
  ·exact cX.CX (sl:=oX) o8 dj fD hX hT An hk e HY h hd
  ·exact cX.CW (sl:=oX) o8 dj fD hX hT An hk e h1 h2 h3 h4
theorem cX.runs(k:n<2147483647):∀(d:Mu) (m:Machine) (t:Trace),cX P ty Wg Ch n rd0 val End w0 B0 m0 X T0 d m t->∃N e f,runNT P N m t=(.next e,f)/\Ff P Wg Ch End w0 B0 X e f:=by
 intro d;induction d using Mu.wf.induction with
 |_ d l=>
  intro m t h;rcases h.step k with⟨a,b,c,g⟩|⟨a,b,i,c,j,o⟩
  ·exact⟨1,a,t++b,gW c,g⟩
  ·obtain⟨N,e,f,p,g⟩:=l i j a (t++b) o;exact⟨1+N,e,f,Go.ck.runNT_add (gW c) p,g⟩
theorem phase(hn:n<2147483647){q:Nat->Nat}{a:Goroutine}(Z:gs[0]? =some a)(hL:Leavers P t gs q)(E:Past (jZ X) w.heap.size t)(j:∀b,rd0 b->b<w.heap.size/\¬X b/\b≠Wg/\b≠Ch) (F:Wg≠Ch)(H:¬X Wg)(I:¬X Ch)(l:WgAt ty Wg w 0 0){c:Nat}(z:w.heap[Ch]? =some (.chan 0 #[] false c c false))(hS:kG P ty Wg Ch n rd0 val End n ci a w):∃N m' t',runNT P N (crowd gs w sl) t=(.next m',t')/\Ff P Wg Ch End w w.heap.size X m' t':=by
 have A:0<gs.size:=(Array.getElem?_eq_some_iff.1 Z).1;let G:Gh:={own:=λ_ _=>False,rd:=λg b=>g=0/\rd0 b,wg:=λb=>b=Wg\/b=Ch,user:=λg=>g=0,sayer:=0,x:=X,done:=λg=>g≠0/\g<gs.size,t0:=t.size};have J:Kn.dP G w.heap.size t:=by
  have f:=dP.begin (m0:=gs.size) E (rd0:=rd0) λb f=>(j b f).2.1;refine f.xt (λ_ _ h=>h.elim) (λg b h i a B m hw=>f.rd i a g b B m h hw) (λb h i a B m=>?_) rfl λg i hz a B hm K=>?_
  ·refine .inr (.inr λg K=>?_);have L:g=0:=K;subst L;rcases E.known i a B (jA m)with x|⟨x,_⟩
   ·exact x
   ·exfalso;have o:b=Wg\/b=Ch:=h;have M:¬X b:=by
     rcases o with rfl|rfl
     ·exact H
     ·exact I
    clear h o;apply M;revert m x;cases a.loc<;>simp_all[blk,jZ]<;>(intro x e;subst e;exact x)
  ·rcases f.told i a g B hm K hz with x|⟨x,⟨b,O,Q⟩,y⟩
   ·exact .inl x
   ·exact .inr ⟨x,⟨b,O,Q.imp (λh=>h.elim) id⟩,y⟩
 have p:G.Fits w.heap.size:=by
  refine⟨λ_ _ h=>h.elim,λg b h=>(j b h.2).1,λb h=>?_,λ_ _ _ h=>h.elim,λ_ _ _ h=>h.elim,λ_ _ h=>h.elim,λg b h h2=>h2.elim (j b h.2).2.2.1 (j b h.2).2.2.2,λg h=>⟨h.1,Ne.symm h.1,λb h=>h.elim,λb f=>h.1 f.1⟩⟩;have o:b=Wg\/b=Ch:=h;rcases o with rfl|rfl
  ·exact lt_of_heap l
  ·exact lt_of_heap z
 let ro:Nat->cN:=λk=>if k=0 then kI n else if k<gs.size then .old else .none
 obtain⟨u,R⟩:∃u,im P ty Wg Ch n rd0 val End (kI n) u 0 ci rd0 a w:=by
  cases n with
  |zero=>
   obtain⟨u,S⟩:=hS;exact⟨u,.HB S⟩
  |succ r=>
   obtain⟨u,S⟩:=hS;exact⟨u,.skd (by omega) S⟩
 let rk:Nat->WT:=λk=>if k=0 then u else .num (q k)
 have C:Com P ty Wg Ch n rd0 val End w w.heap.size ro rk (Deaf t) G false gs w t:=by
  refine⟨λk g v=>?_,J,p,λ_=>rfl,hL.above,λb=>Iff.rfl,λk b f=>?_,F,lt_of_heap l,λi k D v=>?_,λ_ _ h=>h.elim,λ_ _ _ _=>rfl,Nat.le_refl _,⟨rfl,rfl,rfl⟩,⟨_,_,l⟩,⟨c,z⟩⟩
  ·by_cases e:k=0
   ·subst e;rw[Z]at v;obtain rfl:=Option.some.inj v;have e1:G.own 0=ci:=rfl;have e2:G.rd 0=rd0:=by funext b;simp[G]
    simp only[ro,rk,if_true];rw[E.hears,e1,e2];exact R
   ·have T:=(Array.getElem?_eq_some_iff.1 v).1;simp only[ro,rk,if_neg e,if_pos T];exact .old (hL.old k g (by omega) v)
  ·rcases f with f|f
   ·exact f.elim
   ·exact(j b f.2).2.2.2
  ·exfalso;have:t.size<=i:=D;obtain⟨op,U,_⟩:=Option.map_eq_some_iff.1 v;have:=lt_size_of_getElem? U;omega
 have hV:V n gs.size ro=0:=by
  have:V n gs.size ro=sumTo n λ_=>0:=sumTo_congr λi D=>by simp only[ro];rw[if_neg (by omega),if_neg (by omega)];rfl
  rw[this,oy]
 have d:∀i,ro (gs.size+i)=.none:=λi=>by simp only[ro];rw[if_neg (by omega),if_neg (by omega)]
 have W:Pl n gs.size ro false G gs.size 0 0:=by
  refine⟨A,?_,λk k1 k2=>?_,?_,?_,λk=>?_,?_,λk=>?_⟩
  ·cases n with
   |zero=>exact .nW rfl (d 0) (by omega) λi D=>by omega
   |succ r=>exact .st r 6 rfl (by omega) (by omega) (d _) (by omega) (λi D=>by omega) λi _ _=>d i
  ·simp only[ro];rw[if_neg (by omega),if_pos k2]
  ·rw[d];simp
  ·have:=Mode.opn (n:=n) (m0:=gs.size) (ro:=ro) (by rw[d];trivial) (λi D=>.inl (by rw[d];rfl)) (λvs hv=>by rw[d]at hv;cases hv);have Y:pend (ro 0)=0:=by
    simp only[ro,if_true];cases n<;>rfl
   rw[hV,Y]at this;simpa using this
  ·show k=0↔_;omega
  ·rw[d];rfl
  ·show(k≠0/\k<gs.size)↔_;constructor
   ·exactλh=>.inl ⟨by omega,h.2⟩
   ·rintro(h|⟨i,s,e,_⟩)
    ·exact⟨by omega,h.2⟩
    ·simp only[ro]at e;split at e
     ·revert e;cases n<;>simp[kI]
     ·split at e<;>cases e
 exact cX.runs hn _ _ _ ⟨gs,w,sl,ro,rk,Deaf t,G,false,0,0,rfl,C,l,W,(λh=>(nomatch h)),rfl,rfl,rfl⟩
end
end Go.ck.Cr
